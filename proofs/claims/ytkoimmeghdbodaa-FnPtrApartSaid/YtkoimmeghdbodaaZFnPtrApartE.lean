/- Proved, with what follows on it: the row of the law FnPtrApart. Conditions: the row's alone. Texts of this session and words that the kit's print laid for this seat, merged and cut by shrink.py, a program of this session. -/
import Derived.Below
import Derived.ChangeOld
import Derived.Lib.Hide
import Derived.LoopIn
import Derived.LoopNIn
import Derived.OpenShut
import Derived.Outline
import Derived.OwnWalkIn
import Derived.ProofKit
import Derived.RangeFuncBound
import Derived.RangeFuncBox
import Derived.RangeFuncCalls
import Derived.RangeFuncFrom
import Derived.RangeFuncLeaves
import Derived.RangeFuncNested
import Derived.Shelf.Abstract
import Derived.Shelf.RegionOpen
import Derived.ShutString
import Derived.SizedLaws
import Derived.TacticsInMore
import Derived.WalkKit
import Derived.Test.YtkoimmeghdbodaaRows
import Derived.Test.YtkoimmeghdbodaaZFnPtrApartD
namespace Go.Proofs.Ytkoimmeghdbodaa.Print
open Go.RowKit Go.Proofs.YtkoimmeghdbodaaW.PrintWords Go.Proofs.YtkoimmeghdbodaaW.PrintLast Go.Proofs.YtkoimmeghdbodaaW.PrintMore
attribute [local go_sem] max2_int min2_int max_two min_two max_three min_three max_four min_four   -- for this text's walks alone
set_option linter.unusedVariables false
set_option linter.unusedSimpArgs false
attribute [local go_sem high] eqA37
mutual
def laws_lpaPtr.j0 : Nat → Bool → Int → Int → List (S37) → Int → Int → List (S37) → Option (Bool)
  | 0, _, _, _, _, _, _, _ => none
  | k + 1, x26, x286000, x286001, x286002, x287000, x287001, x287002 => if x26 = true then (some false) else (laws_lpaPtr.l0 k 0 x286000 x286001 x286002 x287000 x287001 x287002)
def laws_lpaPtr.l0 : Nat → Int → Int → Int → List (S37) → Int → Int → List (S37) → Option (Bool)
  | 0, _, _, _, _, _, _, _ => none
  | k + 1, x5, x286000, x286001, x286002, x287000, x287001, x287002 => if x5 < (x286002.length : Int) then (if 0 ≤ x5 then (if x5 < (x287002.length : Int) then (if (!(((rd_T37 x286002 x5).f0) == ((rd_T37 x287002 x5).f0)) || (!(((rd_T37 x286002 x5).f1) == ((rd_T37 x287002 x5).f1)))) = true then (some false) else (laws_lpaPtr.l0 k (wrap64 (x5 + 1)) x286000 x286001 x286002 x287000 x287001 x287002)) else (none)) else (none)) else (some true)
end
def laws_lpaPtr.f (k : Nat) (a0_0 : Int) (a0_1 : Int) (l0_2 : List (S37)) (a1_0 : Int) (a1_1 : Int) (l1_2 : List (S37)) : Option (Bool) := if a0_0 = a1_0 then (if a0_1 = a1_1 then (laws_lpaPtr.j0 k ((l0_2.length : Int) != (l1_2.length : Int)) a0_0 a0_1 l0_2 a1_0 a1_1 l1_2) else (laws_lpaPtr.j0 k true a0_0 a0_1 l0_2 a1_0 a1_1 l1_2)) else (laws_lpaPtr.j0 k true a0_0 a0_1 l0_2 a1_0 a1_1 l1_2)
theorem laws_lpaPtr.mono_l : ∀ k, (∀ y0 y1 y2 y3 y4 y5 y6, LeO (laws_lpaPtr.j0 k y0 y1 y2 y3 y4 y5 y6) (laws_lpaPtr.j0 (k + 1) y0 y1 y2 y3 y4 y5 y6)) ∧ (∀ y0 y1 y2 y3 y4 y5 y6, LeO (laws_lpaPtr.l0 k y0 y1 y2 y3 y4 y5 y6) (laws_lpaPtr.l0 (k + 1) y0 y1 y2 y3 y4 y5 y6))
  | 0 => ⟨fun _ _ _ _ _ _ _ r h => by simp [laws_lpaPtr.j0] at h, fun _ _ _ _ _ _ _ r h => by simp [laws_lpaPtr.l0] at h⟩
  | k + 1 => by
    obtain ⟨ih0, ih1⟩ := laws_lpaPtr.mono_l k
    refine ⟨?_, ?_⟩
    · intro y0 y1 y2 y3 y4 y5 y6
      unfold laws_lpaPtr.j0
      repeat' first
      | (with_reducible exact ih0 _ _ _ _ _ _ _)
      | (with_reducible exact ih1 _ _ _ _ _ _ _)
      | (with_reducible exact LeO.refl _)
      | (with_reducible exact LeO.none _)
      | (with_reducible refine LeO.ite ?_ ?_)
      | (with_reducible refine LeO.bind ?_ (fun _ => ?_))
      | exact ih0 _ _ _ _ _ _ _
      | exact ih1 _ _ _ _ _ _ _
      | exact LeO.none _
      | refine LeO.ite ?_ ?_
      | refine LeO.bind ?_ (fun _ => ?_)
    · intro y0 y1 y2 y3 y4 y5 y6
      unfold laws_lpaPtr.l0
      repeat' first
      | (with_reducible exact ih0 _ _ _ _ _ _ _)
      | (with_reducible exact ih1 _ _ _ _ _ _ _)
      | (with_reducible exact LeO.refl _)
      | (with_reducible exact LeO.none _)
      | (with_reducible refine LeO.ite ?_ ?_)
      | (with_reducible refine LeO.bind ?_ (fun _ => ?_))
      | exact ih0 _ _ _ _ _ _ _
      | exact ih1 _ _ _ _ _ _ _
      | exact LeO.none _
      | refine LeO.ite ?_ ?_
      | refine LeO.bind ?_ (fun _ => ?_)
theorem laws_lpaPtr.mono : ∀ a0 a1 a2 a3 a4 a5 k, LeO (laws_lpaPtr.f k a0 a1 a2 a3 a4 a5) (laws_lpaPtr.f (k + 1) a0 a1 a2 a3 a4 a5) := by
  intro a0 a1 a2 a3 a4 a5 k
  obtain ⟨ih0, ih1⟩ := laws_lpaPtr.mono_l k
  unfold laws_lpaPtr.f
  repeat' first
      | (with_reducible exact ih0 _ _ _ _ _ _ _)
      | (with_reducible exact ih1 _ _ _ _ _ _ _)
      | (with_reducible exact LeO.refl _)
      | (with_reducible exact LeO.none _)
      | (with_reducible refine LeO.ite ?_ ?_)
      | (with_reducible refine LeO.bind ?_ (fun _ => ?_))
      | exact ih0 _ _ _ _ _ _ _
      | exact ih1 _ _ _ _ _ _ _
      | exact LeO.none _
      | refine LeO.ite ?_ ?_
      | refine LeO.bind ?_ (fun _ => ?_)
set_option maxHeartbeats 8000000 in
set_option maxRecDepth 100000 in
theorem laws_lpaPtr.calls (k : Nat) (a0_0 : Int) (a0_1 : Int) (A0_2 : Option Addr) (c0_2 : Nat) (l0_2 : List (S37)) (a1_0 : Int) (a1_1 : Int) (A1_2 : Option Addr) (c1_2 : Nat) (l1_2 : List (S37)) (r : Bool) (w : World) (hr0_2 : Kd.C k37 w A0_2 l0_2.length l0_2) (hc0_2 : l0_2.length ≤ c0_2) (hr1_2 : Kd.C k37 w A1_2 l1_2.length l1_2) (hc1_2 : l1_2.length ≤ c1_2) (h : laws_lpaPtr.f k a0_0 a0_1 l0_2 a1_0 a1_1 l1_2 = some r) :
    Calls Try.prog 23 #[.agg #[.int .i64 a0_0, .int .i64 a0_1, .slice A0_2 l0_2.length c0_2], .agg #[.int .i64 a1_0, .int .i64 a1_1, .slice A1_2 l1_2.length c1_2]] w fun e w' => e = .returned (.bool r) ∧ Below w.heap.size w w' := by
  have hu29 := Try.underlying29
  have hu37 := Try.underlying37
  have HR0_2 := Aside0.mk hr0_2
  have HC0_2 := Aside0.mk hc0_2
  clear hr0_2 hc0_2
  have HR1_2 := Aside0.mk hr1_2
  have HC1_2 := Aside0.mk hc1_2
  clear hr1_2 hc1_2
  have HB := Aside0.mk (Below.refl w.heap.size w)
  have H : (if a0_0 = a1_0 then (if a0_1 = a1_1 then (laws_lpaPtr.j0 k ((l0_2.length : Int) != (l1_2.length : Int)) a0_0 a0_1 l0_2 a1_0 a1_1 l1_2) else (laws_lpaPtr.j0 k true a0_0 a0_1 l0_2 a1_0 a1_1 l1_2)) else (laws_lpaPtr.j0 k true a0_0 a0_1 l0_2 a1_0 a1_1 l1_2)) = some r := h
  clear h
  have HC3 := Aside0.mk H
  clear H
  go_enter Try.func23, Try.ntmps23
  go_upto_region 1 with (first | ((with_reducible refine gate_dst (N := 2) rfl ?_); (try (refine gate_guard (by rfl) ?_; dsimp only)); refine box_event ?hg (N := 2) ?hd (cs := #[.int .i64 a0_0, .int .i64 a0_1, .slice A0_2 l0_2.length c0_2]) (t := 29) ?hr ?_; (case hd => rfl); (case hg => rfl); (case hr => first | (go_simp; done) | (go_simp; rfl)); intro gb285 hg w4 hbox hb; have n0_ := Aside0.mk (below_step (by repeat (first | (with_reducible first | exact HB.out | apply below_alloc | apply pw_below_drewN | apply below_drew1) | exact HB.out)) hb); have n1_ := Aside0.mk (hbox); have n2_ := Aside0.mk ((by rw [hg]; exact (below_size (by repeat (first | (with_reducible first | exact HB.out | apply below_alloc | apply pw_below_drewN | apply below_drew1) | exact HB.out))) : w.heap.size ≤ gb285)); have n3_ := Aside0.mk ((by rw [hg]; exact (below_size (by repeat (first | (with_reducible first | exact HB.out | apply below_alloc | apply pw_below_drewN | apply below_drew1) | exact HB.out))) : w.heap.size ≤ gb285)); clear HB; have HB := n0_; have BK285 := n1_; have GW285 := n2_; have GE285 := n3_; clear n0_ n1_ n2_ n3_; clear hb hbox hg) | ((with_reducible refine gate_dst (N := 3) rfl ?_); (try (refine gate_guard (by rfl) ?_; dsimp only)); refine box_event ?hg (N := 3) ?hd (cs := #[.int .i64 a1_0, .int .i64 a1_1, .slice A1_2 l1_2.length c1_2]) (t := 29) ?hr ?_; (case hd => rfl); (case hg => rfl); (case hr => first | (go_simp; done) | (go_simp; rfl)); intro gb286 hg w5 hbox hb; have n0_ := Aside0.mk (blk_below (g := gb285) (o := .cells #[.int .i64 a0_0, .int .i64 a0_1, .slice A0_2 l0_2.length c0_2] 29 (0, 0)) (by (with_reducible repeat (first | refine blk_drewN ?_ _ | refine blk_drew ?_ | refine blk_alloc ?_ _)); exact BK285.out) hb); have n1_ := Aside0.mk (below_step (by repeat (first | (with_reducible first | exact HB.out | apply below_alloc | apply pw_below_drewN | apply below_drew1 | refine below_set ?_ GE285.out) | exact HB.out)) hb); have n2_ := Aside0.mk (hbox); have n3_ := Aside0.mk ((by rw [hg]; exact (below_size (by repeat (first | (with_reducible first | exact HB.out | apply below_alloc | apply pw_below_drewN | apply below_drew1 | refine below_set ?_ GE285.out) | exact HB.out))) : w.heap.size ≤ gb286)); have n4_ := Aside0.mk ((by rw [hg]; exact (below_size (by repeat (first | (with_reducible first | exact HB.out | apply below_alloc | apply pw_below_drewN | apply below_drew1 | refine below_set ?_ GE285.out) | exact HB.out))) : w.heap.size ≤ gb286)); have n5_ := Aside0.mk ((by rw [hg]; exact Nat.ne_of_lt (blk_lt (g := gb285) (o := .cells #[.int .i64 a0_0, .int .i64 a0_1, .slice A0_2 l0_2.length c0_2] 29 (0, 0)) (by (with_reducible repeat (first | refine blk_drewN ?_ _ | refine blk_drew ?_ | refine blk_alloc ?_ _)); exact BK285.out)) : gb285 ≠ gb286)); have n6_ := Aside0.mk ((by rw [hg]; exact Nat.ne_of_gt (blk_lt (g := gb285) (o := .cells #[.int .i64 a0_0, .int .i64 a0_1, .slice A0_2 l0_2.length c0_2] 29 (0, 0)) (by (with_reducible repeat (first | refine blk_drewN ?_ _ | refine blk_drew ?_ | refine blk_alloc ?_ _)); exact BK285.out)) : gb286 ≠ gb285)); clear BK285; clear HB; have BK285 := n0_; have HB := n1_; have BK286 := n2_; have GW286 := n3_; have GE286 := n4_; have NB285_286 := n5_; have NB286_285 := n6_; clear n0_ n1_ n2_ n3_ n4_ n5_ n6_; clear hb hbox hg))
  repeat (go_quiet (first | ((with_reducible refine gate_dst (N := 2) rfl ?_); (try (refine gate_guard (by rfl) ?_; dsimp only)); refine box_event ?hg (N := 2) ?hd (cs := #[.int .i64 a0_0, .int .i64 a0_1, .slice A0_2 l0_2.length c0_2]) (t := 29) ?hr ?_; (case hd => rfl); (case hg => rfl); (case hr => first | (go_simp; done) | (go_simp; rfl)); intro gb285 hg w4 hbox hb; have n0_ := Aside0.mk (below_step (by repeat (first | (with_reducible first | exact HB.out | apply below_alloc | apply pw_below_drewN | apply below_drew1) | exact HB.out)) hb); have n1_ := Aside0.mk (hbox); have n2_ := Aside0.mk ((by rw [hg]; exact (below_size (by repeat (first | (with_reducible first | exact HB.out | apply below_alloc | apply pw_below_drewN | apply below_drew1) | exact HB.out))) : w.heap.size ≤ gb285)); have n3_ := Aside0.mk ((by rw [hg]; exact (below_size (by repeat (first | (with_reducible first | exact HB.out | apply below_alloc | apply pw_below_drewN | apply below_drew1) | exact HB.out))) : w.heap.size ≤ gb285)); clear HB; have HB := n0_; have BK285 := n1_; have GW285 := n2_; have GE285 := n3_; clear n0_ n1_ n2_ n3_; clear hb hbox hg) | ((with_reducible refine gate_dst (N := 3) rfl ?_); (try (refine gate_guard (by rfl) ?_; dsimp only)); refine box_event ?hg (N := 3) ?hd (cs := #[.int .i64 a1_0, .int .i64 a1_1, .slice A1_2 l1_2.length c1_2]) (t := 29) ?hr ?_; (case hd => rfl); (case hg => rfl); (case hr => first | (go_simp; done) | (go_simp; rfl)); intro gb286 hg w5 hbox hb; have n0_ := Aside0.mk (blk_below (g := gb285) (o := .cells #[.int .i64 a0_0, .int .i64 a0_1, .slice A0_2 l0_2.length c0_2] 29 (0, 0)) (by (with_reducible repeat (first | refine blk_drewN ?_ _ | refine blk_drew ?_ | refine blk_alloc ?_ _)); exact BK285.out) hb); have n1_ := Aside0.mk (below_step (by repeat (first | (with_reducible first | exact HB.out | apply below_alloc | apply pw_below_drewN | apply below_drew1 | refine below_set ?_ GE285.out) | exact HB.out)) hb); have n2_ := Aside0.mk (hbox); have n3_ := Aside0.mk ((by rw [hg]; exact (below_size (by repeat (first | (with_reducible first | exact HB.out | apply below_alloc | apply pw_below_drewN | apply below_drew1 | refine below_set ?_ GE285.out) | exact HB.out))) : w.heap.size ≤ gb286)); have n4_ := Aside0.mk ((by rw [hg]; exact (below_size (by repeat (first | (with_reducible first | exact HB.out | apply below_alloc | apply pw_below_drewN | apply below_drew1 | refine below_set ?_ GE285.out) | exact HB.out))) : w.heap.size ≤ gb286)); have n5_ := Aside0.mk ((by rw [hg]; exact Nat.ne_of_lt (blk_lt (g := gb285) (o := .cells #[.int .i64 a0_0, .int .i64 a0_1, .slice A0_2 l0_2.length c0_2] 29 (0, 0)) (by (with_reducible repeat (first | refine blk_drewN ?_ _ | refine blk_drew ?_ | refine blk_alloc ?_ _)); exact BK285.out)) : gb285 ≠ gb286)); have n6_ := Aside0.mk ((by rw [hg]; exact Nat.ne_of_gt (blk_lt (g := gb285) (o := .cells #[.int .i64 a0_0, .int .i64 a0_1, .slice A0_2 l0_2.length c0_2] 29 (0, 0)) (by (with_reducible repeat (first | refine blk_drewN ?_ _ | refine blk_drew ?_ | refine blk_alloc ?_ _)); exact BK285.out)) : gb286 ≠ gb285)); clear BK285; clear HB; have BK285 := n0_; have HB := n1_; have BK286 := n2_; have GW286 := n3_; have GE286 := n4_; have NB285_286 := n5_; have NB286_285 := n6_; clear n0_ n1_ n2_ n3_ n4_ n5_ n6_; clear hb hbox hg)); go_upto_region 1 with (first | ((with_reducible refine gate_dst (N := 2) rfl ?_); (try (refine gate_guard (by rfl) ?_; dsimp only)); refine box_event ?hg (N := 2) ?hd (cs := #[.int .i64 a0_0, .int .i64 a0_1, .slice A0_2 l0_2.length c0_2]) (t := 29) ?hr ?_; (case hd => rfl); (case hg => rfl); (case hr => first | (go_simp; done) | (go_simp; rfl)); intro gb285 hg w4 hbox hb; have n0_ := Aside0.mk (below_step (by repeat (first | (with_reducible first | exact HB.out | apply below_alloc | apply pw_below_drewN | apply below_drew1) | exact HB.out)) hb); have n1_ := Aside0.mk (hbox); have n2_ := Aside0.mk ((by rw [hg]; exact (below_size (by repeat (first | (with_reducible first | exact HB.out | apply below_alloc | apply pw_below_drewN | apply below_drew1) | exact HB.out))) : w.heap.size ≤ gb285)); have n3_ := Aside0.mk ((by rw [hg]; exact (below_size (by repeat (first | (with_reducible first | exact HB.out | apply below_alloc | apply pw_below_drewN | apply below_drew1) | exact HB.out))) : w.heap.size ≤ gb285)); clear HB; have HB := n0_; have BK285 := n1_; have GW285 := n2_; have GE285 := n3_; clear n0_ n1_ n2_ n3_; clear hb hbox hg) | ((with_reducible refine gate_dst (N := 3) rfl ?_); (try (refine gate_guard (by rfl) ?_; dsimp only)); refine box_event ?hg (N := 3) ?hd (cs := #[.int .i64 a1_0, .int .i64 a1_1, .slice A1_2 l1_2.length c1_2]) (t := 29) ?hr ?_; (case hd => rfl); (case hg => rfl); (case hr => first | (go_simp; done) | (go_simp; rfl)); intro gb286 hg w5 hbox hb; have n0_ := Aside0.mk (blk_below (g := gb285) (o := .cells #[.int .i64 a0_0, .int .i64 a0_1, .slice A0_2 l0_2.length c0_2] 29 (0, 0)) (by (with_reducible repeat (first | refine blk_drewN ?_ _ | refine blk_drew ?_ | refine blk_alloc ?_ _)); exact BK285.out) hb); have n1_ := Aside0.mk (below_step (by repeat (first | (with_reducible first | exact HB.out | apply below_alloc | apply pw_below_drewN | apply below_drew1 | refine below_set ?_ GE285.out) | exact HB.out)) hb); have n2_ := Aside0.mk (hbox); have n3_ := Aside0.mk ((by rw [hg]; exact (below_size (by repeat (first | (with_reducible first | exact HB.out | apply below_alloc | apply pw_below_drewN | apply below_drew1 | refine below_set ?_ GE285.out) | exact HB.out))) : w.heap.size ≤ gb286)); have n4_ := Aside0.mk ((by rw [hg]; exact (below_size (by repeat (first | (with_reducible first | exact HB.out | apply below_alloc | apply pw_below_drewN | apply below_drew1 | refine below_set ?_ GE285.out) | exact HB.out))) : w.heap.size ≤ gb286)); have n5_ := Aside0.mk ((by rw [hg]; exact Nat.ne_of_lt (blk_lt (g := gb285) (o := .cells #[.int .i64 a0_0, .int .i64 a0_1, .slice A0_2 l0_2.length c0_2] 29 (0, 0)) (by (with_reducible repeat (first | refine blk_drewN ?_ _ | refine blk_drew ?_ | refine blk_alloc ?_ _)); exact BK285.out)) : gb285 ≠ gb286)); have n6_ := Aside0.mk ((by rw [hg]; exact Nat.ne_of_gt (blk_lt (g := gb285) (o := .cells #[.int .i64 a0_0, .int .i64 a0_1, .slice A0_2 l0_2.length c0_2] 29 (0, 0)) (by (with_reducible repeat (first | refine blk_drewN ?_ _ | refine blk_drew ?_ | refine blk_alloc ?_ _)); exact BK285.out)) : gb286 ≠ gb285)); clear BK285; clear HB; have BK285 := n0_; have HB := n1_; have BK286 := n2_; have GW286 := n3_; have GE286 := n4_; have NB285_286 := n5_; have NB286_285 := n6_; clear n0_ n1_ n2_ n3_ n4_ n5_ n6_; clear hb hbox hg)))
  (try simp only [Act.put, List.setIfInBounds_toArray, List.set_cons_zero, List.set_cons_succ])
  go_cut [26] (fun v26 wc => ∃ (kq : Nat) (x26_2 : Bool), v26 = .bool x26_2 ∧ Aside0 (laws_lpaPtr.j0 kq x26_2 a0_0 a0_1 l0_2 a1_0 a1_1 l1_2 = some r) ∧ Aside0 (kq ≤ k) ∧ Aside0 (wc.heap[gb285]? = some (.cells #[.int .i64 a0_0, .int .i64 a0_1, (.slice A0_2 l0_2.length c0_2)] 29 (0, 0))) ∧ Aside0 (wc.heap[gb286]? = some (.cells #[.int .i64 a1_0, .int .i64 a1_1, (.slice A1_2 l1_2.length c1_2)] 29 (0, 0))) ∧ Aside0 (Below w.heap.size w wc))
  case first =>
    have H := HC3.out
    clear HC3
    by_cases c6 : a0_0 = a1_0
    · rw [if_pos c6] at H
      have c6b0 : (a0_0 == a1_0) = true := beq_iff_eq.mpr c6
      have c6b1 : (a0_0 != a1_0) = false := bne_eq_false_iff_eq.mpr c6
      clear c6
      (first | rw [c6b0] | (simp only [i64_w, i32_w]; rw [c6b0]) | skip)
      by_cases c7 : a0_1 = a1_1
      · rw [if_pos c7] at H
        have c7b0 : (a0_1 == a1_1) = true := beq_iff_eq.mpr c7
        have c7b1 : (a0_1 != a1_1) = false := bne_eq_false_iff_eq.mpr c7
        clear c7
        have H' := Aside0.mk H
        clear H
        have hnb8 := NB285_286.out
        have hnc8 := NB286_285.out
        have hcz9_0 : w5.cell? ⟨gb285, 0, none⟩ = some (.int .i64 a0_0) := (blk_cell BK285.out 0).trans rfl
        have hcz9_1 : w5.cell? ⟨gb285, 1, none⟩ = some (.int .i64 a0_1) := (blk_cell BK285.out 1).trans rfl
        have hcz9_2 : w5.cell? ⟨gb285, 2, none⟩ = some (.slice A0_2 l0_2.length c0_2) := (blk_cell BK285.out 2).trans rfl
        have hfz9_0 := blk_frozen BK285.out 0
        have hfz9_1 := blk_frozen BK285.out 1
        have hfz9_2 := blk_frozen BK285.out 2
        have hcz10_0 : w5.cell? ⟨gb286, 0, none⟩ = some (.int .i64 a1_0) := (blk_cell BK286.out 0).trans rfl
        have hcz10_1 : w5.cell? ⟨gb286, 1, none⟩ = some (.int .i64 a1_1) := (blk_cell BK286.out 1).trans rfl
        have hcz10_2 : w5.cell? ⟨gb286, 2, none⟩ = some (.slice A1_2 l1_2.length c1_2) := (blk_cell BK286.out 2).trans rfl
        have hfz10_0 := blk_frozen BK286.out 0
        have hfz10_1 := blk_frozen BK286.out 1
        have hfz10_2 := blk_frozen BK286.out 2
        go_wp2
        repeat (go_quiet (fail); try go_wp2)
        go_meet
        case rel => exact ⟨_, (((l0_2.length : Int) != (l1_2.length : Int))), (by first | rfl | (simp; done) | (simp [*]; done)), H', ⟨by first | omega | exact Nat.le_refl _⟩, ⟨by (with_reducible repeat (first | refine blk_drewN ?_ _ | refine blk_drew ?_ | refine blk_alloc ?_ _)); exact BK285.out⟩, ⟨by (with_reducible repeat (first | refine blk_drewN ?_ _ | refine blk_drew ?_ | refine blk_alloc ?_ _)); exact BK286.out⟩, ⟨by repeat (first | (with_reducible first | exact HB.out | apply below_alloc | apply pw_below_drewN | apply below_drew1 | refine below_set ?_ GE285.out | refine below_set ?_ GE286.out) | exact HB.out)⟩⟩
      · rw [if_neg c7] at H
        have c7b0 : (a0_1 == a1_1) = false := beq_eq_false_iff_ne.mpr c7
        have c7b1 : (a0_1 != a1_1) = true := bne_iff_ne.mpr c7
        have H' := Aside0.mk H
        clear H
        have hnb11 := NB285_286.out
        have hnc11 := NB286_285.out
        have hcz12_0 : w5.cell? ⟨gb285, 0, none⟩ = some (.int .i64 a0_0) := (blk_cell BK285.out 0).trans rfl
        have hcz12_1 : w5.cell? ⟨gb285, 1, none⟩ = some (.int .i64 a0_1) := (blk_cell BK285.out 1).trans rfl
        have hcz12_2 : w5.cell? ⟨gb285, 2, none⟩ = some (.slice A0_2 l0_2.length c0_2) := (blk_cell BK285.out 2).trans rfl
        have hfz12_0 := blk_frozen BK285.out 0
        have hfz12_1 := blk_frozen BK285.out 1
        have hfz12_2 := blk_frozen BK285.out 2
        have hcz13_0 : w5.cell? ⟨gb286, 0, none⟩ = some (.int .i64 a1_0) := (blk_cell BK286.out 0).trans rfl
        have hcz13_1 : w5.cell? ⟨gb286, 1, none⟩ = some (.int .i64 a1_1) := (blk_cell BK286.out 1).trans rfl
        have hcz13_2 : w5.cell? ⟨gb286, 2, none⟩ = some (.slice A1_2 l1_2.length c1_2) := (blk_cell BK286.out 2).trans rfl
        have hfz13_0 := blk_frozen BK286.out 0
        have hfz13_1 := blk_frozen BK286.out 1
        have hfz13_2 := blk_frozen BK286.out 2
        go_wp2
        repeat (go_quiet (fail); try go_wp2)
        go_meet
        case rel => exact ⟨_, (true), (by first | rfl | (simp; done) | (simp [*]; done)), H', ⟨by first | omega | exact Nat.le_refl _⟩, ⟨by (with_reducible repeat (first | refine blk_drewN ?_ _ | refine blk_drew ?_ | refine blk_alloc ?_ _)); exact BK285.out⟩, ⟨by (with_reducible repeat (first | refine blk_drewN ?_ _ | refine blk_drew ?_ | refine blk_alloc ?_ _)); exact BK286.out⟩, ⟨by repeat (first | (with_reducible first | exact HB.out | apply below_alloc | apply pw_below_drewN | apply below_drew1 | refine below_set ?_ GE285.out | refine below_set ?_ GE286.out) | exact HB.out)⟩⟩
    · rw [if_neg c6] at H
      have c6b0 : (a0_0 == a1_0) = false := beq_eq_false_iff_ne.mpr c6
      have c6b1 : (a0_0 != a1_0) = true := bne_iff_ne.mpr c6
      (first | rw [c6b0] | (simp only [i64_w, i32_w]; rw [c6b0]) | skip)
      have H' := Aside0.mk H
      clear H
      have hnb14 := NB285_286.out
      have hnc14 := NB286_285.out
      have hcz15_0 : w5.cell? ⟨gb285, 0, none⟩ = some (.int .i64 a0_0) := (blk_cell BK285.out 0).trans rfl
      have hcz15_1 : w5.cell? ⟨gb285, 1, none⟩ = some (.int .i64 a0_1) := (blk_cell BK285.out 1).trans rfl
      have hcz15_2 : w5.cell? ⟨gb285, 2, none⟩ = some (.slice A0_2 l0_2.length c0_2) := (blk_cell BK285.out 2).trans rfl
      have hfz15_0 := blk_frozen BK285.out 0
      have hfz15_1 := blk_frozen BK285.out 1
      have hfz15_2 := blk_frozen BK285.out 2
      have hcz16_0 : w5.cell? ⟨gb286, 0, none⟩ = some (.int .i64 a1_0) := (blk_cell BK286.out 0).trans rfl
      have hcz16_1 : w5.cell? ⟨gb286, 1, none⟩ = some (.int .i64 a1_1) := (blk_cell BK286.out 1).trans rfl
      have hcz16_2 : w5.cell? ⟨gb286, 2, none⟩ = some (.slice A1_2 l1_2.length c1_2) := (blk_cell BK286.out 2).trans rfl
      have hfz16_0 := blk_frozen BK286.out 0
      have hfz16_1 := blk_frozen BK286.out 1
      have hfz16_2 := blk_frozen BK286.out 2
      go_wp2
      repeat (go_quiet (fail); try go_wp2)
      go_meet
      case rel => exact ⟨_, (true), (by first | rfl | (simp; done) | (simp [*]; done)), H', ⟨by first | omega | exact Nat.le_refl _⟩, ⟨by (with_reducible repeat (first | refine blk_drewN ?_ _ | refine blk_drew ?_ | refine blk_alloc ?_ _)); exact BK285.out⟩, ⟨by (with_reducible repeat (first | refine blk_drewN ?_ _ | refine blk_drew ?_ | refine blk_alloc ?_ _)); exact BK286.out⟩, ⟨by repeat (first | (with_reducible first | exact HB.out | apply below_alloc | apply pw_below_drewN | apply below_drew1 | refine below_set ?_ GE285.out | refine below_set ?_ GE286.out) | exact HB.out)⟩⟩
  case rest =>
    clear HC3
    try clear c1
    try clear c2
    try clear p2
    try clear c6
    try clear c6b0
    try clear c6b1
    try clear c7
    try clear c7b0
    try clear c7b1
    try clear c8
    try clear c11
    try clear c14
    try clear hcz10_0
    try clear hcz10_1
    try clear hcz10_2
    try clear hcz12_0
    try clear hcz12_1
    try clear hcz12_2
    try clear hcz13_0
    try clear hcz13_1
    try clear hcz13_2
    try clear hcz15_0
    try clear hcz15_1
    try clear hcz15_2
    try clear hcz16_0
    try clear hcz16_1
    try clear hcz16_2
    try clear hcz9_0
    try clear hcz9_1
    try clear hcz9_2
    try clear hfz10_0
    try clear hfz10_1
    try clear hfz10_2
    try clear hfz12_0
    try clear hfz12_1
    try clear hfz12_2
    try clear hfz13_0
    try clear hfz13_1
    try clear hfz13_2
    try clear hfz15_0
    try clear hfz15_1
    try clear hfz15_2
    try clear hfz16_0
    try clear hfz16_1
    try clear hfz16_2
    try clear hfz9_0
    try clear hfz9_1
    try clear hfz9_2
    obtain ⟨kq, x26_2, rfl, HA, HJ2, BK285, BK286, HB⟩ := hcut
    cases kq with
    | zero => exact absurd HA.out (by simp [laws_lpaPtr.j0])
    | succ kj2 =>
      have H := HA.out
      clear HA
      simp only [laws_lpaPtr.j0] at H
      by_cases c17 : x26_2 = true
      · subst c17
        have H1 : (some false) = some r := by rw [if_pos rfl] at H; exact H
        clear H
        have H := H1
        clear H1
        obtain rfl := Option.some.inj H
        go_wp2
        repeat (go_quiet (fail); try go_wp2)
        go_ret
        exact ⟨by first | rfl | (simp [errW_none, errW_some] <;> rfl) | (simp [*, errW_none, errW_some] <;> rfl), by repeat (first | (with_reducible first | exact HB.out | apply below_alloc | apply pw_below_drewN | apply below_drew1 | refine below_set ?_ GE285.out | refine below_set ?_ GE286.out) | exact HB.out)⟩
      · replace c17 := Bool.eq_false_iff.mpr c17
        subst c17
        have H1 : (laws_lpaPtr.l0 kj2 0 a0_0 a0_1 l0_2 a1_0 a1_1 l1_2) = some r := by rw [if_neg (show ¬ (false = true) by decide)] at H; exact H
        clear H
        have H := H1
        clear H1
        have H' := Aside0.mk H
        clear H
        go_wp2
        repeat (go_quiet (fail); try go_wp2)
        go_loopg [5] kj2 (fun kq v5 w' => ∃ (x5_2 : Int), v5 = .int .i64 x5_2 ∧ Aside0 (laws_lpaPtr.l0 kq x5_2 a0_0 a0_1 l0_2 a1_0 a1_1 l1_2 = some r) ∧ Aside0 (kq ≤ kj2) ∧ Aside0 (w'.heap[gb285]? = some (.cells #[.int .i64 a0_0, .int .i64 a0_1, (.slice A0_2 l0_2.length c0_2)] 29 (0, 0))) ∧ Aside0 (w'.heap[gb286]? = some (.cells #[.int .i64 a1_0, .int .i64 a1_1, (.slice A1_2 l1_2.length c1_2)] 29 (0, 0))) ∧ Aside0 (Below w.heap.size w w'))
        case atStart => exact ⟨(0), (by first | rfl | (simp; done) | (simp [*]; done)), H', ⟨Nat.le_refl _⟩, ⟨by (with_reducible repeat (first | refine blk_drewN ?_ _ | refine blk_drew ?_ | refine blk_alloc ?_ _)); exact BK285.out⟩, ⟨by (with_reducible repeat (first | refine blk_drewN ?_ _ | refine blk_drew ?_ | refine blk_alloc ?_ _)); exact BK286.out⟩, ⟨by repeat (first | (with_reducible first | exact HB.out | apply below_alloc | apply pw_below_drewN | apply below_drew1 | refine below_set ?_ GE285.out | refine below_set ?_ GE286.out) | exact HB.out)⟩⟩
        case round =>
          clear H'
          try clear c1
          try clear c2
          try clear p2
          try clear c6
          try clear c6b0
          try clear c6b1
          try clear c7
          try clear c7b0
          try clear c7b1
          try clear c8
          try clear c11
          try clear c14
          try clear c17
          try clear hcz10_0
          try clear hcz10_1
          try clear hcz10_2
          try clear hcz12_0
          try clear hcz12_1
          try clear hcz12_2
          try clear hcz13_0
          try clear hcz13_1
          try clear hcz13_2
          try clear hcz15_0
          try clear hcz15_1
          try clear hcz15_2
          try clear hcz16_0
          try clear hcz16_1
          try clear hcz16_2
          try clear hcz9_0
          try clear hcz9_1
          try clear hcz9_2
          try clear hfz10_0
          try clear hfz10_1
          try clear hfz10_2
          try clear hfz12_0
          try clear hfz12_1
          try clear hfz12_2
          try clear hfz13_0
          try clear hfz13_1
          try clear hfz13_2
          try clear hfz15_0
          try clear hfz15_1
          try clear hfz15_2
          try clear hfz16_0
          try clear hfz16_1
          try clear hfz16_2
          try clear hfz9_0
          try clear hfz9_1
          try clear hfz9_2
          try clear p2
          obtain ⟨x5_2, rfl, HA, HK2, BK285, BK286, HB⟩ := hrel
          cases gk with
          | zero => exact absurd HA.out (by simp [laws_lpaPtr.l0])
          | succ k2 =>
            have H := HA.out
            clear HA
            simp only [laws_lpaPtr.l0] at H
            by_cases c18 : x5_2 < (l0_2.length : Int)
            · rw [if_pos c18] at H
              have c18b0 : decide (x5_2 < (l0_2.length : Int)) = true := decide_eq_true c18
              clear c18
              by_cases c19 : 0 ≤ x5_2
              · rw [if_pos c19] at H
                have c19b0 : decide (0 ≤ x5_2) = true := decide_eq_true c19
                clear c19
                by_cases c20 : x5_2 < (l1_2.length : Int)
                · rw [if_pos c20] at H
                  have c20b0 : decide (x5_2 < (l1_2.length : Int)) = true := decide_eq_true c20
                  clear c20
                  by_cases c21 : (!(((rd_T37 l0_2 x5_2).f0) == ((rd_T37 l1_2 x5_2).f0)) || (!(((rd_T37 l0_2 x5_2).f1) == ((rd_T37 l1_2 x5_2).f1)))) = true
                  · rw [if_pos c21] at H
                    have c21b0 : (!(((rd_T37 l0_2 x5_2).f0) == ((rd_T37 l1_2 x5_2).f0)) || (!(((rd_T37 l0_2 x5_2).f1) == ((rd_T37 l1_2 x5_2).f1)))) = true := c21
                    clear c21
                    obtain rfl := Option.some.inj H
                    have hnb22 := NB285_286.out
                    have hnc22 := NB286_285.out
                    have hcz23_0 : wr.cell? ⟨gb285, 0, none⟩ = some (.int .i64 a0_0) := (blk_cell BK285.out 0).trans rfl
                    have hcz23_1 : wr.cell? ⟨gb285, 1, none⟩ = some (.int .i64 a0_1) := (blk_cell BK285.out 1).trans rfl
                    have hcz23_2 : wr.cell? ⟨gb285, 2, none⟩ = some (.slice A0_2 l0_2.length c0_2) := (blk_cell BK285.out 2).trans rfl
                    have hfz23_0 := blk_frozen BK285.out 0
                    have hfz23_1 := blk_frozen BK285.out 1
                    have hfz23_2 := blk_frozen BK285.out 2
                    have p287 : 0 ≤ (x5_2 : Int) := of_decide_eq_true (by first | (with_reducible assumption) | assumption)
                    have q287 : x5_2 < (l0_2.length : Int) := of_decide_eq_true (by first | (with_reducible assumption) | assumption)
                    obtain ⟨ad287, e287, hx287_0, hx287_1⟩ := at_T37 HR0_2.out x5_2 p287 q287
                    cases e287
                    replace hx287_0 := (HB.out.cell (World.block_lt_of_cell? w _ hx287_0)).trans hx287_0
                    replace hx287_1 := (HB.out.cell (World.block_lt_of_cell? w _ hx287_1)).trans hx287_1
                    replace p287 := eq_true p287
                    replace q287 := eq_true q287
                    have hcz24_0 : wr.cell? ⟨gb286, 0, none⟩ = some (.int .i64 a1_0) := (blk_cell BK286.out 0).trans rfl
                    have hcz24_1 : wr.cell? ⟨gb286, 1, none⟩ = some (.int .i64 a1_1) := (blk_cell BK286.out 1).trans rfl
                    have hcz24_2 : wr.cell? ⟨gb286, 2, none⟩ = some (.slice A1_2 l1_2.length c1_2) := (blk_cell BK286.out 2).trans rfl
                    have hfz24_0 := blk_frozen BK286.out 0
                    have hfz24_1 := blk_frozen BK286.out 1
                    have hfz24_2 := blk_frozen BK286.out 2
                    have p288 : 0 ≤ (x5_2 : Int) := of_decide_eq_true (by first | (with_reducible assumption) | assumption)
                    have q288 : x5_2 < (l1_2.length : Int) := of_decide_eq_true (by first | (with_reducible assumption) | assumption)
                    obtain ⟨ad288, e288, hx288_0, hx288_1⟩ := at_T37 HR1_2.out x5_2 p288 q288
                    cases e288
                    replace hx288_0 := (HB.out.cell (World.block_lt_of_cell? w _ hx288_0)).trans hx288_0
                    replace hx288_1 := (HB.out.cell (World.block_lt_of_cell? w _ hx288_1)).trans hx288_1
                    replace p288 := eq_true p288
                    replace q288 := eq_true q288
                    go_wp2
                    repeat (go_quiet (fail); try go_wp2)
                    go_ret
                    exact ⟨by first | rfl | (simp [errW_none, errW_some] <;> rfl) | (simp [*, errW_none, errW_some] <;> rfl), by repeat (first | (with_reducible first | exact HB.out | apply below_alloc | apply pw_below_drewN | apply below_drew1 | refine below_set ?_ GE285.out | refine below_set ?_ GE286.out) | exact HB.out)⟩
                  · rw [if_neg c21] at H
                    have c21b0 : (!(((rd_T37 l0_2 x5_2).f0) == ((rd_T37 l1_2 x5_2).f0)) || (!(((rd_T37 l0_2 x5_2).f1) == ((rd_T37 l1_2 x5_2).f1)))) = false := by simpa using c21
                    clear c21
                    have H' := Aside0.mk H
                    clear H
                    have hnb25 := NB285_286.out
                    have hnc25 := NB286_285.out
                    have hcz26_0 : wr.cell? ⟨gb285, 0, none⟩ = some (.int .i64 a0_0) := (blk_cell BK285.out 0).trans rfl
                    have hcz26_1 : wr.cell? ⟨gb285, 1, none⟩ = some (.int .i64 a0_1) := (blk_cell BK285.out 1).trans rfl
                    have hcz26_2 : wr.cell? ⟨gb285, 2, none⟩ = some (.slice A0_2 l0_2.length c0_2) := (blk_cell BK285.out 2).trans rfl
                    have hfz26_0 := blk_frozen BK285.out 0
                    have hfz26_1 := blk_frozen BK285.out 1
                    have hfz26_2 := blk_frozen BK285.out 2
                    have p287 : 0 ≤ (x5_2 : Int) := of_decide_eq_true (by first | (with_reducible assumption) | assumption)
                    have q287 : x5_2 < (l0_2.length : Int) := of_decide_eq_true (by first | (with_reducible assumption) | assumption)
                    obtain ⟨ad287, e287, hx287_0, hx287_1⟩ := at_T37 HR0_2.out x5_2 p287 q287
                    cases e287
                    replace hx287_0 := (HB.out.cell (World.block_lt_of_cell? w _ hx287_0)).trans hx287_0
                    replace hx287_1 := (HB.out.cell (World.block_lt_of_cell? w _ hx287_1)).trans hx287_1
                    replace p287 := eq_true p287
                    replace q287 := eq_true q287
                    have hcz27_0 : wr.cell? ⟨gb286, 0, none⟩ = some (.int .i64 a1_0) := (blk_cell BK286.out 0).trans rfl
                    have hcz27_1 : wr.cell? ⟨gb286, 1, none⟩ = some (.int .i64 a1_1) := (blk_cell BK286.out 1).trans rfl
                    have hcz27_2 : wr.cell? ⟨gb286, 2, none⟩ = some (.slice A1_2 l1_2.length c1_2) := (blk_cell BK286.out 2).trans rfl
                    have hfz27_0 := blk_frozen BK286.out 0
                    have hfz27_1 := blk_frozen BK286.out 1
                    have hfz27_2 := blk_frozen BK286.out 2
                    have p288 : 0 ≤ (x5_2 : Int) := of_decide_eq_true (by first | (with_reducible assumption) | assumption)
                    have q288 : x5_2 < (l1_2.length : Int) := of_decide_eq_true (by first | (with_reducible assumption) | assumption)
                    obtain ⟨ad288, e288, hx288_0, hx288_1⟩ := at_T37 HR1_2.out x5_2 p288 q288
                    cases e288
                    replace hx288_0 := (HB.out.cell (World.block_lt_of_cell? w _ hx288_0)).trans hx288_0
                    replace hx288_1 := (HB.out.cell (World.block_lt_of_cell? w _ hx288_1)).trans hx288_1
                    replace p288 := eq_true p288
                    replace q288 := eq_true q288
                    go_wp2
                    repeat (go_quiet (fail); try go_wp2)
                    go_roundg k2
                    case measure => have := HJ2.out; have := HK2.out; omega
                    case rel => exact ⟨(wrap64 (x5_2 + 1)), (by first | rfl | (simp; done) | (simp [*]; done)), H', ⟨by have := HJ2.out; have := HK2.out; omega⟩, ⟨by (with_reducible repeat (first | refine blk_drewN ?_ _ | refine blk_drew ?_ | refine blk_alloc ?_ _)); exact BK285.out⟩, ⟨by (with_reducible repeat (first | refine blk_drewN ?_ _ | refine blk_drew ?_ | refine blk_alloc ?_ _)); exact BK286.out⟩, ⟨by repeat (first | (with_reducible first | exact HB.out | apply below_alloc | apply pw_below_drewN | apply below_drew1 | refine below_set ?_ GE285.out | refine below_set ?_ GE286.out) | exact HB.out)⟩⟩
                · rw [if_neg c20] at H
                  exact absurd H (by simp)
              · rw [if_neg c19] at H
                exact absurd H (by simp)
            · rw [if_neg c18] at H
              have c18b0 : decide (x5_2 < (l0_2.length : Int)) = false := decide_eq_false c18
              clear c18
              obtain rfl := Option.some.inj H
              have hnb28 := NB285_286.out
              have hnc28 := NB286_285.out
              have hcz29_0 : wr.cell? ⟨gb285, 0, none⟩ = some (.int .i64 a0_0) := (blk_cell BK285.out 0).trans rfl
              have hcz29_1 : wr.cell? ⟨gb285, 1, none⟩ = some (.int .i64 a0_1) := (blk_cell BK285.out 1).trans rfl
              have hcz29_2 : wr.cell? ⟨gb285, 2, none⟩ = some (.slice A0_2 l0_2.length c0_2) := (blk_cell BK285.out 2).trans rfl
              have hfz29_0 := blk_frozen BK285.out 0
              have hfz29_1 := blk_frozen BK285.out 1
              have hfz29_2 := blk_frozen BK285.out 2
              go_wp2
              repeat (go_quiet (fail); try go_wp2)
              go_ret
              exact ⟨by first | rfl | (simp [errW_none, errW_some] <;> rfl) | (simp [*, errW_none, errW_some] <;> rfl), by repeat (first | (with_reducible first | exact HB.out | apply below_alloc | apply pw_below_drewN | apply below_drew1 | refine below_set ?_ GE285.out | refine below_set ?_ GE286.out) | exact HB.out)⟩
end Go.Proofs.Ytkoimmeghdbodaa.Print
namespace Go.Proofs.Ytkoimmeghdbodaa.Print
open Go.RowKit Go.Proofs.YtkoimmeghdbodaaW.PrintWords Go.Proofs.YtkoimmeghdbodaaW.PrintLast Go.Proofs.YtkoimmeghdbodaaW.PrintMore
attribute [local go_sem] max2_int min2_int max_two min_two max_three min_three max_four min_four   -- for this text's walks alone
set_option linter.unusedVariables false
set_option linter.unusedSimpArgs false
mutual
def laws_FnPtrApart.j0 : Nat → Int → Bool → Bool → Int → Int → List (S37) → Option (Bool)
  | 0, _, _, _, _, _, _ => none
  | k + 1, x3, x5, x27, x296000, x296001, x296002 => if x27 = true then ((spec_PtrOk.f k x3 x296000 x296001 x296002).bind fun t298 => (some (x5 == t298))) else (if x296000 = 0 then ((laws_lpaPtr.f k x296000 x296001 x296002 0 0 ([] : List (S37))).bind fun t299 => (some t299)) else (laws_FnPtrApart.l0 k x3 0 x296000 x296001 x296002))
def laws_FnPtrApart.l0 : Nat → Int → Int → Int → Int → List (S37) → Option (Bool)
  | 0, _, _, _, _, _ => none
  | k + 1, x3, x6, x296000, x296001, x296002 => if x6 < (x296002.length : Int) then (laws_FnPtrApart.l1 k x3 x6 0 x296000 x296001 x296002) else (if (x296002.length : Int) = (wrap64 ((wrap64 (Int.tdiv (wrap64 ((wrap64 (x296000 + 3)) - 1)) 3)) + 1)) then (some (decide ((x296002.length : Int) ≤ x3))) else (some false))
def laws_FnPtrApart.l1 : Nat → Int → Int → Int → Int → Int → List (S37) → Option (Bool)
  | 0, _, _, _, _, _, _ => none
  | k + 1, x3, x6, x7, x296000, x296001, x296002 => if x7 < x6 then (if 0 ≤ x7 then (if x7 < (x296002.length : Int) then (if 0 ≤ x6 then (if x6 < (x296002.length : Int) then (if ((rd_T37 x296002 x7).f0) = ((rd_T37 x296002 x6).f0) then (some false) else (laws_FnPtrApart.l1 k x3 x6 (wrap64 (x7 + 1)) x296000 x296001 x296002)) else (none)) else (none)) else (none)) else (none)) else (if 0 ≤ x6 then (if x6 < (x296002.length : Int) then (if ((rd_T37 x296002 x6).f0) < 0 then (some false) else (if ((rd_T37 x296002 x6).f0) ≥ x3 then (some false) else (laws_FnPtrApart.l0 k x3 (wrap64 (x6 + 1)) x296000 x296001 x296002))) else (none)) else (none))
end
def laws_FnPtrApart.f (k : Nat) (l0 : List Int) : Option (Bool) := if (l0.length : Int) > 1048576 then (some true) else ((spec_DrawPtrOk.f k l0).bind fun bt289 => ((impl_PtrOk.f k bt289.1 bt289.2.1 bt289.2.2.1 bt289.2.2.2).bind fun t296 => ((spec_PtrOk.f k bt289.1 bt289.2.1 bt289.2.2.1 bt289.2.2.2).bind fun t297 => (if (t296 != t297) = true then (laws_FnPtrApart.j0 k bt289.1 t296 true bt289.2.1 bt289.2.2.1 bt289.2.2.2) else (laws_FnPtrApart.j0 k bt289.1 t296 (!t296) bt289.2.1 bt289.2.2.1 bt289.2.2.2)))))
theorem laws_FnPtrApart.mono_l : ∀ k, (∀ y0 y1 y2 y3 y4 y5, LeO (laws_FnPtrApart.j0 k y0 y1 y2 y3 y4 y5) (laws_FnPtrApart.j0 (k + 1) y0 y1 y2 y3 y4 y5)) ∧ (∀ y0 y1 y2 y3 y4, LeO (laws_FnPtrApart.l0 k y0 y1 y2 y3 y4) (laws_FnPtrApart.l0 (k + 1) y0 y1 y2 y3 y4)) ∧ (∀ y0 y1 y2 y3 y4 y5, LeO (laws_FnPtrApart.l1 k y0 y1 y2 y3 y4 y5) (laws_FnPtrApart.l1 (k + 1) y0 y1 y2 y3 y4 y5))
  | 0 => ⟨fun _ _ _ _ _ _ r h => by simp [laws_FnPtrApart.j0] at h, fun _ _ _ _ _ r h => by simp [laws_FnPtrApart.l0] at h, fun _ _ _ _ _ _ r h => by simp [laws_FnPtrApart.l1] at h⟩
  | k + 1 => by
    obtain ⟨ih0, ih1, ih2⟩ := laws_FnPtrApart.mono_l k
    refine ⟨?_, ?_, ?_⟩
    · intro y0 y1 y2 y3 y4 y5
      unfold laws_FnPtrApart.j0
      repeat' first
      | (with_reducible exact ih0 _ _ _ _ _ _)
      | (with_reducible exact ih1 _ _ _ _ _)
      | (with_reducible exact ih2 _ _ _ _ _ _)
      | (with_reducible exact impl_PtrOk.mono _ _ _ _ _)
      | (with_reducible exact laws_lpaPtr.mono _ _ _ _ _ _ _)
      | (with_reducible exact spec_DrawPtrOk.mono _ _)
      | (with_reducible exact spec_PtrOk.mono _ _ _ _ _)
      | (with_reducible exact LeO.refl _)
      | (with_reducible exact LeO.none _)
      | (with_reducible refine LeO.ite ?_ ?_)
      | (with_reducible refine LeO.bind ?_ (fun _ => ?_))
      | exact ih0 _ _ _ _ _ _
      | exact ih1 _ _ _ _ _
      | exact ih2 _ _ _ _ _ _
      | exact impl_PtrOk.mono _ _ _ _ _
      | exact laws_lpaPtr.mono _ _ _ _ _ _ _
      | exact spec_DrawPtrOk.mono _ _
      | exact spec_PtrOk.mono _ _ _ _ _
      | exact LeO.none _
      | refine LeO.ite ?_ ?_
      | refine LeO.bind ?_ (fun _ => ?_)
    · intro y0 y1 y2 y3 y4
      unfold laws_FnPtrApart.l0
      repeat' first
      | (with_reducible exact ih0 _ _ _ _ _ _)
      | (with_reducible exact ih1 _ _ _ _ _)
      | (with_reducible exact ih2 _ _ _ _ _ _)
      | (with_reducible exact impl_PtrOk.mono _ _ _ _ _)
      | (with_reducible exact laws_lpaPtr.mono _ _ _ _ _ _ _)
      | (with_reducible exact spec_DrawPtrOk.mono _ _)
      | (with_reducible exact spec_PtrOk.mono _ _ _ _ _)
      | (with_reducible exact LeO.refl _)
      | (with_reducible exact LeO.none _)
      | (with_reducible refine LeO.ite ?_ ?_)
      | (with_reducible refine LeO.bind ?_ (fun _ => ?_))
      | exact ih0 _ _ _ _ _ _
      | exact ih1 _ _ _ _ _
      | exact ih2 _ _ _ _ _ _
      | exact impl_PtrOk.mono _ _ _ _ _
      | exact laws_lpaPtr.mono _ _ _ _ _ _ _
      | exact spec_DrawPtrOk.mono _ _
      | exact spec_PtrOk.mono _ _ _ _ _
      | exact LeO.none _
      | refine LeO.ite ?_ ?_
      | refine LeO.bind ?_ (fun _ => ?_)
    · intro y0 y1 y2 y3 y4 y5
      unfold laws_FnPtrApart.l1
      repeat' first
      | (with_reducible exact ih0 _ _ _ _ _ _)
      | (with_reducible exact ih1 _ _ _ _ _)
      | (with_reducible exact ih2 _ _ _ _ _ _)
      | (with_reducible exact impl_PtrOk.mono _ _ _ _ _)
      | (with_reducible exact laws_lpaPtr.mono _ _ _ _ _ _ _)
      | (with_reducible exact spec_DrawPtrOk.mono _ _)
      | (with_reducible exact spec_PtrOk.mono _ _ _ _ _)
      | (with_reducible exact LeO.refl _)
      | (with_reducible exact LeO.none _)
      | (with_reducible refine LeO.ite ?_ ?_)
      | (with_reducible refine LeO.bind ?_ (fun _ => ?_))
      | exact ih0 _ _ _ _ _ _
      | exact ih1 _ _ _ _ _
      | exact ih2 _ _ _ _ _ _
      | exact impl_PtrOk.mono _ _ _ _ _
      | exact laws_lpaPtr.mono _ _ _ _ _ _ _
      | exact spec_DrawPtrOk.mono _ _
      | exact spec_PtrOk.mono _ _ _ _ _
      | exact LeO.none _
      | refine LeO.ite ?_ ?_
      | refine LeO.bind ?_ (fun _ => ?_)
theorem laws_FnPtrApart.mono : ∀ a0 k, LeO (laws_FnPtrApart.f k a0) (laws_FnPtrApart.f (k + 1) a0) := by
  intro a0 k
  obtain ⟨ih0, ih1, ih2⟩ := laws_FnPtrApart.mono_l k
  unfold laws_FnPtrApart.f
  repeat' first
      | (with_reducible exact ih0 _ _ _ _ _ _)
      | (with_reducible exact ih1 _ _ _ _ _)
      | (with_reducible exact ih2 _ _ _ _ _ _)
      | (with_reducible exact impl_PtrOk.mono _ _ _ _ _)
      | (with_reducible exact laws_lpaPtr.mono _ _ _ _ _ _ _)
      | (with_reducible exact spec_DrawPtrOk.mono _ _)
      | (with_reducible exact spec_PtrOk.mono _ _ _ _ _)
      | (with_reducible exact LeO.refl _)
      | (with_reducible exact LeO.none _)
      | (with_reducible refine LeO.ite ?_ ?_)
      | (with_reducible refine LeO.bind ?_ (fun _ => ?_))
      | exact ih0 _ _ _ _ _ _
      | exact ih1 _ _ _ _ _
      | exact ih2 _ _ _ _ _ _
      | exact impl_PtrOk.mono _ _ _ _ _
      | exact laws_lpaPtr.mono _ _ _ _ _ _ _
      | exact spec_DrawPtrOk.mono _ _
      | exact spec_PtrOk.mono _ _ _ _ _
      | exact LeO.none _
      | refine LeO.ite ?_ ?_
      | refine LeO.bind ?_ (fun _ => ?_)
set_option maxHeartbeats 8000000 in
set_option maxRecDepth 100000 in
theorem laws_FnPtrApart.calls (k : Nat) (A0 : Option Addr) (c0 : Nat) (l0 : List Int) (r : Bool) (w : World) (hr0 : Kd.C (Kd.int .u8) w A0 l0.length l0) (hc0 : l0.length ≤ c0) (h : laws_FnPtrApart.f k l0 = some r) :
    Calls Try.prog 4 #[.slice A0 l0.length c0] w fun e w' => e = .returned (.bool r) ∧ Below w.heap.size w w' := by
  have hu29 := Try.underlying29
  have HR0 := Aside0.mk hr0
  have HC0 := Aside0.mk hc0
  clear hr0 hc0
  have HB := Aside0.mk (Below.refl w.heap.size w)
  have H : (if (l0.length : Int) > 1048576 then (some true) else ((spec_DrawPtrOk.f k l0).bind fun bt289 => ((impl_PtrOk.f k bt289.1 bt289.2.1 bt289.2.2.1 bt289.2.2.2).bind fun t296 => ((spec_PtrOk.f k bt289.1 bt289.2.1 bt289.2.2.1 bt289.2.2.2).bind fun t297 => (if (t296 != t297) = true then (laws_FnPtrApart.j0 k bt289.1 t296 true bt289.2.1 bt289.2.2.1 bt289.2.2.2) else (laws_FnPtrApart.j0 k bt289.1 t296 (!t296) bt289.2.1 bt289.2.2.1 bt289.2.2.2)))))) = some r := h
  clear h
  by_cases c2 : (l0.length : Int) > 1048576
  · rw [if_pos c2] at H
    have c2b0 : decide (1048576 < (l0.length : Int)) = true := decide_eq_true c2
    have c2b1 : decide (1048576 < l0.length) = true := decide_eq_true (by omega)
    clear c2
    obtain rfl := Option.some.inj H
    go_enter Try.func4, Try.ntmps4
    go_wp2
    repeat (go_quiet (fail); try go_wp2)
    go_ret
    exact ⟨by first | rfl | (simp [errW_none, errW_some] <;> rfl) | (simp [*, errW_none, errW_some] <;> rfl), by repeat (first | (with_reducible first | exact HB.out | apply below_alloc | apply pw_below_drewN | apply below_drew1) | exact HB.out)⟩
  · rw [if_neg c2] at H
    have c2b0 : decide (1048576 < (l0.length : Int)) = false := decide_eq_false c2
    have c2b1 : decide (1048576 < l0.length) = false := decide_eq_false (by omega)
    clear c2
    replace H := Option.bind_eq_some_iff.mp H
    obtain ⟨⟨t289, t290, t291, t292⟩, A30, H⟩ := H
    replace H : ((impl_PtrOk.f k t289 t290 t291 t292).bind fun t296 => ((spec_PtrOk.f k t289 t290 t291 t292).bind fun t297 => (if (t296 != t297) = true then (laws_FnPtrApart.j0 k t289 t296 true t290 t291 t292) else (laws_FnPtrApart.j0 k t289 t296 (!t296) t290 t291 t292)))) = some r := H
    have A3 := Aside0.mk A30
    clear A30
    replace H := Option.bind_eq_some_iff.mp H
    obtain ⟨t296, A40, H⟩ := H
    replace H : ((spec_PtrOk.f k t289 t290 t291 t292).bind fun t297 => (if (t296 != t297) = true then (laws_FnPtrApart.j0 k t289 t296 true t290 t291 t292) else (laws_FnPtrApart.j0 k t289 t296 (!t296) t290 t291 t292))) = some r := H
    have A4 := Aside0.mk A40
    clear A40
    have HC5 := Aside0.mk H
    clear H
    go_enter Try.func4, Try.ntmps4
    go_upto_region 5 with (first | (go_at_call 22; (with_reducible refine (spec_DrawPtrOk.calls k _ _ l0 t289 t290 t291 t292 _ ?side1 ?side2 A3.out).mono ?_); (case side1 => repeat (first | exact HR0.out | (with_reducible refine Kd.C_alloc ?_ _) | (with_reducible refine Kd.C_drewN ?_ _) | (with_reducible refine Kd.C_drew ?_))); (case side2 => exact HC0.out); rintro e w6 ⟨v293, rfl, ho0, hb⟩; have n0_ := Aside0.mk (Kd.Q_lower ho0 (below_size (by repeat (first | (with_reducible first | exact HB.out | apply below_alloc | apply pw_below_drewN | apply below_drew1) | exact HB.out)))); have n1_ := Aside0.mk (below_step (by repeat (first | (with_reducible first | exact HB.out | apply below_alloc | apply pw_below_drewN | apply below_drew1) | exact HB.out)) hb); clear HB; have HO294 := n0_; have HB := n1_; clear n0_ n1_; (try clear hb); (try clear hb2); (try clear hk); (try clear hi); (try clear ho0)) | ((with_reducible refine gate_dst (N := 4) rfl ?_); (try (refine gate_guard (by rfl) ?_; dsimp only)); refine box_event ?hg (N := 4) ?hd (cs := #[.int .i64 0, .int .i64 0, .slice none 0 0]) (t := 29) ?hr ?_; (case hd => rfl); (case hg => rfl); (case hr => first | (go_simp; done) | (go_simp; rfl)); intro gb295 hg w7 hbox hb; have n0_ := Aside0.mk (Kd.Q_below (by (with_reducible repeat (first | apply Kd.Q_alloc | apply Kd.Q_drewN | apply Kd.Q_drew)); exact HO294.out) hb); have n1_ := Aside0.mk (below_step (by repeat (first | (with_reducible first | exact HB.out | apply below_alloc | apply pw_below_drewN | apply below_drew1) | exact HB.out)) hb); have n2_ := Aside0.mk (hbox); have n3_ := Aside0.mk ((by rw [hg]; exact (below_size (by repeat (first | (with_reducible first | exact HB.out | apply below_alloc | apply pw_below_drewN | apply below_drew1) | exact HB.out))) : w.heap.size ≤ gb295)); have n4_ := Aside0.mk ((by rw [hg]; exact (below_size (by repeat (first | (with_reducible first | exact HB.out | apply below_alloc | apply pw_below_drewN | apply below_drew1) | exact HB.out))) : w.heap.size ≤ gb295)); clear HO294; clear HB; have HO294 := n0_; have HB := n1_; have BK295 := n2_; have GW295 := n3_; have GE295 := n4_; clear n0_ n1_ n2_ n3_ n4_; clear hb hbox hg; have hcz8_0 : w7.cell? ⟨gb295, 0, none⟩ = some (.int .i64 0) := (blk_cell BK295.out 0).trans rfl; have hcz8_1 : w7.cell? ⟨gb295, 1, none⟩ = some (.int .i64 0) := (blk_cell BK295.out 1).trans rfl; have hcz8_2 : w7.cell? ⟨gb295, 2, none⟩ = some (.slice none 0 0) := (blk_cell BK295.out 2).trans rfl; have hfz8_0 := blk_frozen BK295.out 0; have hfz8_1 := blk_frozen BK295.out 1; have hfz8_2 := blk_frozen BK295.out 2; obtain ⟨Ao9, co9, eo9, _⟩ := Kd.Q_slice HO294.out; subst eo9) | (go_at_call 20; (with_reducible refine (impl_PtrOk.calls k t289 t290 t291 _ _ t292 t296 _ ?side1 ?side2 A4.out).mono ?_); (case side1 => refine (Kd.Q_reads' (e := 37) (base := w.heap.size) (ok := fun k_ => True) (n := t292.length) (c := co9) ?_).2.2; exact (by (with_reducible repeat (first | apply Kd.Q_alloc | apply Kd.Q_drewN | apply Kd.Q_drew)); exact (Kd.Q_mono (Kd.Q_far (p := ⟨gb295, 2, none⟩) (Kd.Q_far (p := ⟨gb295, 1, none⟩) (Kd.Q_far (p := ⟨gb295, 0, none⟩) (Kd.Q_types HO294.out BK295.out (by decide)) (fun _ hk => hk.2) (.int .i64 t290)) (fun _ hk => hk.2) (.int .i64 t291)) (fun _ hk => hk.2) (.slice Ao9 t292.length co9)) (fun _ h_ => h_.1)))); (case side2 => exact (Kd.Q_reads' HO294.out).2.1); rintro e w10 ⟨rfl, hb⟩; have n0_ := Aside0.mk (Kd.Q_below (by (with_reducible repeat (first | apply Kd.Q_alloc | apply Kd.Q_drewN | apply Kd.Q_drew)); exact (Kd.Q_mono (Kd.Q_far (p := ⟨gb295, 2, none⟩) (Kd.Q_far (p := ⟨gb295, 1, none⟩) (Kd.Q_far (p := ⟨gb295, 0, none⟩) (Kd.Q_types HO294.out BK295.out (by decide)) (fun _ hk => hk.2) (.int .i64 t290)) (fun _ hk => hk.2) (.int .i64 t291)) (fun _ hk => hk.2) (.slice Ao9 t292.length co9)) (fun _ h_ => h_.1))) hb); have n1_ := Aside0.mk (blk_below (g := gb295) (o := .cells #[.int .i64 t290, .int .i64 t291, .slice Ao9 t292.length co9] 29 (0, 0)) (by (with_reducible repeat (first | refine blk_drewN ?_ _ | refine blk_drew ?_ | refine blk_alloc ?_ _)); refine blk_put (cs := #[.int .i64 t290, .int .i64 t291, .slice none 0 0]) ?_ 2 _ rfl; (with_reducible repeat (first | refine blk_drewN ?_ _ | refine blk_drew ?_ | refine blk_alloc ?_ _)); refine blk_put (cs := #[.int .i64 t290, .int .i64 0, .slice none 0 0]) ?_ 1 _ rfl; (with_reducible repeat (first | refine blk_drewN ?_ _ | refine blk_drew ?_ | refine blk_alloc ?_ _)); refine blk_put (cs := #[.int .i64 0, .int .i64 0, .slice none 0 0]) ?_ 0 _ rfl; (with_reducible repeat (first | refine blk_drewN ?_ _ | refine blk_drew ?_ | refine blk_alloc ?_ _)); exact BK295.out) hb); have n2_ := Aside0.mk (below_step (by repeat (first | (with_reducible first | exact HB.out | apply below_alloc | apply pw_below_drewN | apply below_drew1 | refine below_set ?_ GE295.out) | exact HB.out)) hb); clear HO294; clear BK295; clear HB; have HO294 := n0_; have BK295 := n1_; have HB := n2_; clear n0_ n1_ n2_; (try clear hb); (try clear hb2); (try clear hk); (try clear hi)))
    repeat (go_quiet (first | (go_at_call 22; (with_reducible refine (spec_DrawPtrOk.calls k _ _ l0 t289 t290 t291 t292 _ ?side1 ?side2 A3.out).mono ?_); (case side1 => repeat (first | exact HR0.out | (with_reducible refine Kd.C_alloc ?_ _) | (with_reducible refine Kd.C_drewN ?_ _) | (with_reducible refine Kd.C_drew ?_))); (case side2 => exact HC0.out); rintro e w6 ⟨v293, rfl, ho0, hb⟩; have n0_ := Aside0.mk (Kd.Q_lower ho0 (below_size (by repeat (first | (with_reducible first | exact HB.out | apply below_alloc | apply pw_below_drewN | apply below_drew1) | exact HB.out)))); have n1_ := Aside0.mk (below_step (by repeat (first | (with_reducible first | exact HB.out | apply below_alloc | apply pw_below_drewN | apply below_drew1) | exact HB.out)) hb); clear HB; have HO294 := n0_; have HB := n1_; clear n0_ n1_; (try clear hb); (try clear hb2); (try clear hk); (try clear hi); (try clear ho0)) | ((with_reducible refine gate_dst (N := 4) rfl ?_); (try (refine gate_guard (by rfl) ?_; dsimp only)); refine box_event ?hg (N := 4) ?hd (cs := #[.int .i64 0, .int .i64 0, .slice none 0 0]) (t := 29) ?hr ?_; (case hd => rfl); (case hg => rfl); (case hr => first | (go_simp; done) | (go_simp; rfl)); intro gb295 hg w7 hbox hb; have n0_ := Aside0.mk (Kd.Q_below (by (with_reducible repeat (first | apply Kd.Q_alloc | apply Kd.Q_drewN | apply Kd.Q_drew)); exact HO294.out) hb); have n1_ := Aside0.mk (below_step (by repeat (first | (with_reducible first | exact HB.out | apply below_alloc | apply pw_below_drewN | apply below_drew1) | exact HB.out)) hb); have n2_ := Aside0.mk (hbox); have n3_ := Aside0.mk ((by rw [hg]; exact (below_size (by repeat (first | (with_reducible first | exact HB.out | apply below_alloc | apply pw_below_drewN | apply below_drew1) | exact HB.out))) : w.heap.size ≤ gb295)); have n4_ := Aside0.mk ((by rw [hg]; exact (below_size (by repeat (first | (with_reducible first | exact HB.out | apply below_alloc | apply pw_below_drewN | apply below_drew1) | exact HB.out))) : w.heap.size ≤ gb295)); clear HO294; clear HB; have HO294 := n0_; have HB := n1_; have BK295 := n2_; have GW295 := n3_; have GE295 := n4_; clear n0_ n1_ n2_ n3_ n4_; clear hb hbox hg; have hcz8_0 : w7.cell? ⟨gb295, 0, none⟩ = some (.int .i64 0) := (blk_cell BK295.out 0).trans rfl; have hcz8_1 : w7.cell? ⟨gb295, 1, none⟩ = some (.int .i64 0) := (blk_cell BK295.out 1).trans rfl; have hcz8_2 : w7.cell? ⟨gb295, 2, none⟩ = some (.slice none 0 0) := (blk_cell BK295.out 2).trans rfl; have hfz8_0 := blk_frozen BK295.out 0; have hfz8_1 := blk_frozen BK295.out 1; have hfz8_2 := blk_frozen BK295.out 2; obtain ⟨Ao9, co9, eo9, _⟩ := Kd.Q_slice HO294.out; subst eo9) | (go_at_call 20; (with_reducible refine (impl_PtrOk.calls k t289 t290 t291 _ _ t292 t296 _ ?side1 ?side2 A4.out).mono ?_); (case side1 => refine (Kd.Q_reads' (e := 37) (base := w.heap.size) (ok := fun k_ => True) (n := t292.length) (c := co9) ?_).2.2; exact (by (with_reducible repeat (first | apply Kd.Q_alloc | apply Kd.Q_drewN | apply Kd.Q_drew)); exact (Kd.Q_mono (Kd.Q_far (p := ⟨gb295, 2, none⟩) (Kd.Q_far (p := ⟨gb295, 1, none⟩) (Kd.Q_far (p := ⟨gb295, 0, none⟩) (Kd.Q_types HO294.out BK295.out (by decide)) (fun _ hk => hk.2) (.int .i64 t290)) (fun _ hk => hk.2) (.int .i64 t291)) (fun _ hk => hk.2) (.slice Ao9 t292.length co9)) (fun _ h_ => h_.1)))); (case side2 => exact (Kd.Q_reads' HO294.out).2.1); rintro e w10 ⟨rfl, hb⟩; have n0_ := Aside0.mk (Kd.Q_below (by (with_reducible repeat (first | apply Kd.Q_alloc | apply Kd.Q_drewN | apply Kd.Q_drew)); exact (Kd.Q_mono (Kd.Q_far (p := ⟨gb295, 2, none⟩) (Kd.Q_far (p := ⟨gb295, 1, none⟩) (Kd.Q_far (p := ⟨gb295, 0, none⟩) (Kd.Q_types HO294.out BK295.out (by decide)) (fun _ hk => hk.2) (.int .i64 t290)) (fun _ hk => hk.2) (.int .i64 t291)) (fun _ hk => hk.2) (.slice Ao9 t292.length co9)) (fun _ h_ => h_.1))) hb); have n1_ := Aside0.mk (blk_below (g := gb295) (o := .cells #[.int .i64 t290, .int .i64 t291, .slice Ao9 t292.length co9] 29 (0, 0)) (by (with_reducible repeat (first | refine blk_drewN ?_ _ | refine blk_drew ?_ | refine blk_alloc ?_ _)); refine blk_put (cs := #[.int .i64 t290, .int .i64 t291, .slice none 0 0]) ?_ 2 _ rfl; (with_reducible repeat (first | refine blk_drewN ?_ _ | refine blk_drew ?_ | refine blk_alloc ?_ _)); refine blk_put (cs := #[.int .i64 t290, .int .i64 0, .slice none 0 0]) ?_ 1 _ rfl; (with_reducible repeat (first | refine blk_drewN ?_ _ | refine blk_drew ?_ | refine blk_alloc ?_ _)); refine blk_put (cs := #[.int .i64 0, .int .i64 0, .slice none 0 0]) ?_ 0 _ rfl; (with_reducible repeat (first | refine blk_drewN ?_ _ | refine blk_drew ?_ | refine blk_alloc ?_ _)); exact BK295.out) hb); have n2_ := Aside0.mk (below_step (by repeat (first | (with_reducible first | exact HB.out | apply below_alloc | apply pw_below_drewN | apply below_drew1 | refine below_set ?_ GE295.out) | exact HB.out)) hb); clear HO294; clear BK295; clear HB; have HO294 := n0_; have BK295 := n1_; have HB := n2_; clear n0_ n1_ n2_; (try clear hb); (try clear hb2); (try clear hk); (try clear hi))); go_upto_region 5 with (first | (go_at_call 22; (with_reducible refine (spec_DrawPtrOk.calls k _ _ l0 t289 t290 t291 t292 _ ?side1 ?side2 A3.out).mono ?_); (case side1 => repeat (first | exact HR0.out | (with_reducible refine Kd.C_alloc ?_ _) | (with_reducible refine Kd.C_drewN ?_ _) | (with_reducible refine Kd.C_drew ?_))); (case side2 => exact HC0.out); rintro e w6 ⟨v293, rfl, ho0, hb⟩; have n0_ := Aside0.mk (Kd.Q_lower ho0 (below_size (by repeat (first | (with_reducible first | exact HB.out | apply below_alloc | apply pw_below_drewN | apply below_drew1) | exact HB.out)))); have n1_ := Aside0.mk (below_step (by repeat (first | (with_reducible first | exact HB.out | apply below_alloc | apply pw_below_drewN | apply below_drew1) | exact HB.out)) hb); clear HB; have HO294 := n0_; have HB := n1_; clear n0_ n1_; (try clear hb); (try clear hb2); (try clear hk); (try clear hi); (try clear ho0)) | ((with_reducible refine gate_dst (N := 4) rfl ?_); (try (refine gate_guard (by rfl) ?_; dsimp only)); refine box_event ?hg (N := 4) ?hd (cs := #[.int .i64 0, .int .i64 0, .slice none 0 0]) (t := 29) ?hr ?_; (case hd => rfl); (case hg => rfl); (case hr => first | (go_simp; done) | (go_simp; rfl)); intro gb295 hg w7 hbox hb; have n0_ := Aside0.mk (Kd.Q_below (by (with_reducible repeat (first | apply Kd.Q_alloc | apply Kd.Q_drewN | apply Kd.Q_drew)); exact HO294.out) hb); have n1_ := Aside0.mk (below_step (by repeat (first | (with_reducible first | exact HB.out | apply below_alloc | apply pw_below_drewN | apply below_drew1) | exact HB.out)) hb); have n2_ := Aside0.mk (hbox); have n3_ := Aside0.mk ((by rw [hg]; exact (below_size (by repeat (first | (with_reducible first | exact HB.out | apply below_alloc | apply pw_below_drewN | apply below_drew1) | exact HB.out))) : w.heap.size ≤ gb295)); have n4_ := Aside0.mk ((by rw [hg]; exact (below_size (by repeat (first | (with_reducible first | exact HB.out | apply below_alloc | apply pw_below_drewN | apply below_drew1) | exact HB.out))) : w.heap.size ≤ gb295)); clear HO294; clear HB; have HO294 := n0_; have HB := n1_; have BK295 := n2_; have GW295 := n3_; have GE295 := n4_; clear n0_ n1_ n2_ n3_ n4_; clear hb hbox hg; have hcz8_0 : w7.cell? ⟨gb295, 0, none⟩ = some (.int .i64 0) := (blk_cell BK295.out 0).trans rfl; have hcz8_1 : w7.cell? ⟨gb295, 1, none⟩ = some (.int .i64 0) := (blk_cell BK295.out 1).trans rfl; have hcz8_2 : w7.cell? ⟨gb295, 2, none⟩ = some (.slice none 0 0) := (blk_cell BK295.out 2).trans rfl; have hfz8_0 := blk_frozen BK295.out 0; have hfz8_1 := blk_frozen BK295.out 1; have hfz8_2 := blk_frozen BK295.out 2; obtain ⟨Ao9, co9, eo9, _⟩ := Kd.Q_slice HO294.out; subst eo9) | (go_at_call 20; (with_reducible refine (impl_PtrOk.calls k t289 t290 t291 _ _ t292 t296 _ ?side1 ?side2 A4.out).mono ?_); (case side1 => refine (Kd.Q_reads' (e := 37) (base := w.heap.size) (ok := fun k_ => True) (n := t292.length) (c := co9) ?_).2.2; exact (by (with_reducible repeat (first | apply Kd.Q_alloc | apply Kd.Q_drewN | apply Kd.Q_drew)); exact (Kd.Q_mono (Kd.Q_far (p := ⟨gb295, 2, none⟩) (Kd.Q_far (p := ⟨gb295, 1, none⟩) (Kd.Q_far (p := ⟨gb295, 0, none⟩) (Kd.Q_types HO294.out BK295.out (by decide)) (fun _ hk => hk.2) (.int .i64 t290)) (fun _ hk => hk.2) (.int .i64 t291)) (fun _ hk => hk.2) (.slice Ao9 t292.length co9)) (fun _ h_ => h_.1)))); (case side2 => exact (Kd.Q_reads' HO294.out).2.1); rintro e w10 ⟨rfl, hb⟩; have n0_ := Aside0.mk (Kd.Q_below (by (with_reducible repeat (first | apply Kd.Q_alloc | apply Kd.Q_drewN | apply Kd.Q_drew)); exact (Kd.Q_mono (Kd.Q_far (p := ⟨gb295, 2, none⟩) (Kd.Q_far (p := ⟨gb295, 1, none⟩) (Kd.Q_far (p := ⟨gb295, 0, none⟩) (Kd.Q_types HO294.out BK295.out (by decide)) (fun _ hk => hk.2) (.int .i64 t290)) (fun _ hk => hk.2) (.int .i64 t291)) (fun _ hk => hk.2) (.slice Ao9 t292.length co9)) (fun _ h_ => h_.1))) hb); have n1_ := Aside0.mk (blk_below (g := gb295) (o := .cells #[.int .i64 t290, .int .i64 t291, .slice Ao9 t292.length co9] 29 (0, 0)) (by (with_reducible repeat (first | refine blk_drewN ?_ _ | refine blk_drew ?_ | refine blk_alloc ?_ _)); refine blk_put (cs := #[.int .i64 t290, .int .i64 t291, .slice none 0 0]) ?_ 2 _ rfl; (with_reducible repeat (first | refine blk_drewN ?_ _ | refine blk_drew ?_ | refine blk_alloc ?_ _)); refine blk_put (cs := #[.int .i64 t290, .int .i64 0, .slice none 0 0]) ?_ 1 _ rfl; (with_reducible repeat (first | refine blk_drewN ?_ _ | refine blk_drew ?_ | refine blk_alloc ?_ _)); refine blk_put (cs := #[.int .i64 0, .int .i64 0, .slice none 0 0]) ?_ 0 _ rfl; (with_reducible repeat (first | refine blk_drewN ?_ _ | refine blk_drew ?_ | refine blk_alloc ?_ _)); exact BK295.out) hb); have n2_ := Aside0.mk (below_step (by repeat (first | (with_reducible first | exact HB.out | apply below_alloc | apply pw_below_drewN | apply below_drew1 | refine below_set ?_ GE295.out) | exact HB.out)) hb); clear HO294; clear BK295; clear HB; have HO294 := n0_; have BK295 := n1_; have HB := n2_; clear n0_ n1_ n2_; (try clear hb); (try clear hb2); (try clear hk); (try clear hi))))
    (try simp only [Act.put, List.setIfInBounds_toArray, List.set_cons_zero, List.set_cons_succ])
    go_cut [27] (fun v27 wc => ∃ (kq : Nat) (x27_4 : Bool), v27 = .bool x27_4 ∧ Aside0 (laws_FnPtrApart.j0 kq t289 t296 x27_4 t290 t291 t292 = some r) ∧ Aside0 (kq ≤ k) ∧ Aside0 (Kd.Q k37 37 wc w.heap.size (fun _ => True) (.slice Ao9 t292.length co9) t292) ∧ Aside0 (wc.heap[gb295]? = some (.cells #[.int .i64 t290, .int .i64 t291, (.slice Ao9 t292.length co9)] 29 (0, 0))) ∧ Aside0 (Below w.heap.size w wc))
    case first =>
      have H := HC5.out
      clear HC5
      replace H := Option.bind_eq_some_iff.mp H
      obtain ⟨t297, A110, H⟩ := H
      replace H : (if (t296 != t297) = true then (laws_FnPtrApart.j0 k t289 t296 true t290 t291 t292) else (laws_FnPtrApart.j0 k t289 t296 (!t296) t290 t291 t292)) = some r := H
      have A11 := Aside0.mk A110
      clear A110
      by_cases c12 : (t296 != t297) = true
      · rw [if_pos c12] at H
        have c12b0 : (t296 != t297) = true := c12
        (try (have c12b1 : decide (t296 = t297) = false := by simpa using c12))
        (try (have c12b2 : (t296 == t297) = false := by simpa using c12))
        (try (have c12b3 : ¬ (t296 = t297) := by simpa using c12))
        clear c12
        (first | rw [c12b0] | (simp only [i64_w, i32_w]; rw [c12b0]) | skip)
        have H' := Aside0.mk H
        clear H
        have hcz13_0 : w10.cell? ⟨gb295, 0, none⟩ = some (.int .i64 t290) := (blk_cell BK295.out 0).trans rfl
        have hcz13_1 : w10.cell? ⟨gb295, 1, none⟩ = some (.int .i64 t291) := (blk_cell BK295.out 1).trans rfl
        have hcz13_2 : w10.cell? ⟨gb295, 2, none⟩ = some (.slice Ao9 t292.length co9) := (blk_cell BK295.out 2).trans rfl
        have hfz13_0 := blk_frozen BK295.out 0
        have hfz13_1 := blk_frozen BK295.out 1
        have hfz13_2 := blk_frozen BK295.out 2
        go_wp2_with (first | (go_at_call 18; (with_reducible refine (spec_PtrOk.calls k t289 t290 t291 _ _ t292 t297 _ ?side1 ?side2 A11.out).mono ?_); (case side1 => repeat (first | exact (Kd.Q_reads' HO294.out).2.2 | (with_reducible refine Kd.C_alloc ?_ _) | (with_reducible refine Kd.C_drewN ?_ _) | (with_reducible refine Kd.C_drew ?_))); (case side2 => exact (Kd.Q_reads' HO294.out).2.1); rintro e w14 ⟨rfl, hb⟩; have n0_ := Aside0.mk (Kd.Q_below (by (with_reducible repeat (first | apply Kd.Q_alloc | apply Kd.Q_drewN | apply Kd.Q_drew)); exact HO294.out) hb); have n1_ := Aside0.mk (blk_below (g := gb295) (o := .cells #[.int .i64 t290, .int .i64 t291, .slice Ao9 t292.length co9] 29 (0, 0)) (by (with_reducible repeat (first | refine blk_drewN ?_ _ | refine blk_drew ?_ | refine blk_alloc ?_ _)); exact BK295.out) hb); have n2_ := Aside0.mk (below_step (by repeat (first | (with_reducible first | exact HB.out | apply below_alloc | apply pw_below_drewN | apply below_drew1 | refine below_set ?_ GE295.out) | exact HB.out)) hb); clear HO294; clear BK295; clear HB; have HO294 := n0_; have BK295 := n1_; have HB := n2_; clear n0_ n1_ n2_; (try clear hb); (try clear hb2); (try clear hk); (try clear hi)))
        repeat (go_quiet (first | (go_at_call 18; (with_reducible refine (spec_PtrOk.calls k t289 t290 t291 _ _ t292 t297 _ ?side1 ?side2 A11.out).mono ?_); (case side1 => repeat (first | exact (Kd.Q_reads' HO294.out).2.2 | (with_reducible refine Kd.C_alloc ?_ _) | (with_reducible refine Kd.C_drewN ?_ _) | (with_reducible refine Kd.C_drew ?_))); (case side2 => exact (Kd.Q_reads' HO294.out).2.1); rintro e w14 ⟨rfl, hb⟩; have n0_ := Aside0.mk (Kd.Q_below (by (with_reducible repeat (first | apply Kd.Q_alloc | apply Kd.Q_drewN | apply Kd.Q_drew)); exact HO294.out) hb); have n1_ := Aside0.mk (blk_below (g := gb295) (o := .cells #[.int .i64 t290, .int .i64 t291, .slice Ao9 t292.length co9] 29 (0, 0)) (by (with_reducible repeat (first | refine blk_drewN ?_ _ | refine blk_drew ?_ | refine blk_alloc ?_ _)); exact BK295.out) hb); have n2_ := Aside0.mk (below_step (by repeat (first | (with_reducible first | exact HB.out | apply below_alloc | apply pw_below_drewN | apply below_drew1 | refine below_set ?_ GE295.out) | exact HB.out)) hb); clear HO294; clear BK295; clear HB; have HO294 := n0_; have BK295 := n1_; have HB := n2_; clear n0_ n1_ n2_; (try clear hb); (try clear hb2); (try clear hk); (try clear hi))); try go_wp2_with (first | (go_at_call 18; (with_reducible refine (spec_PtrOk.calls k t289 t290 t291 _ _ t292 t297 _ ?side1 ?side2 A11.out).mono ?_); (case side1 => repeat (first | exact (Kd.Q_reads' HO294.out).2.2 | (with_reducible refine Kd.C_alloc ?_ _) | (with_reducible refine Kd.C_drewN ?_ _) | (with_reducible refine Kd.C_drew ?_))); (case side2 => exact (Kd.Q_reads' HO294.out).2.1); rintro e w14 ⟨rfl, hb⟩; have n0_ := Aside0.mk (Kd.Q_below (by (with_reducible repeat (first | apply Kd.Q_alloc | apply Kd.Q_drewN | apply Kd.Q_drew)); exact HO294.out) hb); have n1_ := Aside0.mk (blk_below (g := gb295) (o := .cells #[.int .i64 t290, .int .i64 t291, .slice Ao9 t292.length co9] 29 (0, 0)) (by (with_reducible repeat (first | refine blk_drewN ?_ _ | refine blk_drew ?_ | refine blk_alloc ?_ _)); exact BK295.out) hb); have n2_ := Aside0.mk (below_step (by repeat (first | (with_reducible first | exact HB.out | apply below_alloc | apply pw_below_drewN | apply below_drew1 | refine below_set ?_ GE295.out) | exact HB.out)) hb); clear HO294; clear BK295; clear HB; have HO294 := n0_; have BK295 := n1_; have HB := n2_; clear n0_ n1_ n2_; (try clear hb); (try clear hb2); (try clear hk); (try clear hi))))
        go_meet
        case rel => exact ⟨_, (true), (by first | rfl | (simp; done) | (simp [*]; done)), H', ⟨by first | omega | exact Nat.le_refl _⟩, ⟨by (with_reducible repeat (first | apply Kd.Q_alloc | apply Kd.Q_drewN | apply Kd.Q_drew)); exact HO294.out⟩, ⟨by (with_reducible repeat (first | refine blk_drewN ?_ _ | refine blk_drew ?_ | refine blk_alloc ?_ _)); exact BK295.out⟩, ⟨by repeat (first | (with_reducible first | exact HB.out | apply below_alloc | apply pw_below_drewN | apply below_drew1 | refine below_set ?_ GE295.out) | exact HB.out)⟩⟩
      · rw [if_neg c12] at H
        have c12b0 : (t296 != t297) = false := by simpa using c12
        (try (have c12b1 : decide (t296 = t297) = true := by simpa using c12))
        (try (have c12b2 : (t296 == t297) = true := by simpa using c12))
        clear c12
        (first | rw [c12b0] | (simp only [i64_w, i32_w]; rw [c12b0]) | skip)
        have H' := Aside0.mk H
        clear H
        have hcz15_0 : w10.cell? ⟨gb295, 0, none⟩ = some (.int .i64 t290) := (blk_cell BK295.out 0).trans rfl
        have hcz15_1 : w10.cell? ⟨gb295, 1, none⟩ = some (.int .i64 t291) := (blk_cell BK295.out 1).trans rfl
        have hcz15_2 : w10.cell? ⟨gb295, 2, none⟩ = some (.slice Ao9 t292.length co9) := (blk_cell BK295.out 2).trans rfl
        have hfz15_0 := blk_frozen BK295.out 0
        have hfz15_1 := blk_frozen BK295.out 1
        have hfz15_2 := blk_frozen BK295.out 2
        go_wp2_with (first | (go_at_call 18; (with_reducible refine (spec_PtrOk.calls k t289 t290 t291 _ _ t292 t297 _ ?side1 ?side2 A11.out).mono ?_); (case side1 => repeat (first | exact (Kd.Q_reads' HO294.out).2.2 | (with_reducible refine Kd.C_alloc ?_ _) | (with_reducible refine Kd.C_drewN ?_ _) | (with_reducible refine Kd.C_drew ?_))); (case side2 => exact (Kd.Q_reads' HO294.out).2.1); rintro e w16 ⟨rfl, hb⟩; have n0_ := Aside0.mk (Kd.Q_below (by (with_reducible repeat (first | apply Kd.Q_alloc | apply Kd.Q_drewN | apply Kd.Q_drew)); exact HO294.out) hb); have n1_ := Aside0.mk (blk_below (g := gb295) (o := .cells #[.int .i64 t290, .int .i64 t291, .slice Ao9 t292.length co9] 29 (0, 0)) (by (with_reducible repeat (first | refine blk_drewN ?_ _ | refine blk_drew ?_ | refine blk_alloc ?_ _)); exact BK295.out) hb); have n2_ := Aside0.mk (below_step (by repeat (first | (with_reducible first | exact HB.out | apply below_alloc | apply pw_below_drewN | apply below_drew1 | refine below_set ?_ GE295.out) | exact HB.out)) hb); clear HO294; clear BK295; clear HB; have HO294 := n0_; have BK295 := n1_; have HB := n2_; clear n0_ n1_ n2_; (try clear hb); (try clear hb2); (try clear hk); (try clear hi)))
        repeat (go_quiet (first | (go_at_call 18; (with_reducible refine (spec_PtrOk.calls k t289 t290 t291 _ _ t292 t297 _ ?side1 ?side2 A11.out).mono ?_); (case side1 => repeat (first | exact (Kd.Q_reads' HO294.out).2.2 | (with_reducible refine Kd.C_alloc ?_ _) | (with_reducible refine Kd.C_drewN ?_ _) | (with_reducible refine Kd.C_drew ?_))); (case side2 => exact (Kd.Q_reads' HO294.out).2.1); rintro e w16 ⟨rfl, hb⟩; have n0_ := Aside0.mk (Kd.Q_below (by (with_reducible repeat (first | apply Kd.Q_alloc | apply Kd.Q_drewN | apply Kd.Q_drew)); exact HO294.out) hb); have n1_ := Aside0.mk (blk_below (g := gb295) (o := .cells #[.int .i64 t290, .int .i64 t291, .slice Ao9 t292.length co9] 29 (0, 0)) (by (with_reducible repeat (first | refine blk_drewN ?_ _ | refine blk_drew ?_ | refine blk_alloc ?_ _)); exact BK295.out) hb); have n2_ := Aside0.mk (below_step (by repeat (first | (with_reducible first | exact HB.out | apply below_alloc | apply pw_below_drewN | apply below_drew1 | refine below_set ?_ GE295.out) | exact HB.out)) hb); clear HO294; clear BK295; clear HB; have HO294 := n0_; have BK295 := n1_; have HB := n2_; clear n0_ n1_ n2_; (try clear hb); (try clear hb2); (try clear hk); (try clear hi))); try go_wp2_with (first | (go_at_call 18; (with_reducible refine (spec_PtrOk.calls k t289 t290 t291 _ _ t292 t297 _ ?side1 ?side2 A11.out).mono ?_); (case side1 => repeat (first | exact (Kd.Q_reads' HO294.out).2.2 | (with_reducible refine Kd.C_alloc ?_ _) | (with_reducible refine Kd.C_drewN ?_ _) | (with_reducible refine Kd.C_drew ?_))); (case side2 => exact (Kd.Q_reads' HO294.out).2.1); rintro e w16 ⟨rfl, hb⟩; have n0_ := Aside0.mk (Kd.Q_below (by (with_reducible repeat (first | apply Kd.Q_alloc | apply Kd.Q_drewN | apply Kd.Q_drew)); exact HO294.out) hb); have n1_ := Aside0.mk (blk_below (g := gb295) (o := .cells #[.int .i64 t290, .int .i64 t291, .slice Ao9 t292.length co9] 29 (0, 0)) (by (with_reducible repeat (first | refine blk_drewN ?_ _ | refine blk_drew ?_ | refine blk_alloc ?_ _)); exact BK295.out) hb); have n2_ := Aside0.mk (below_step (by repeat (first | (with_reducible first | exact HB.out | apply below_alloc | apply pw_below_drewN | apply below_drew1 | refine below_set ?_ GE295.out) | exact HB.out)) hb); clear HO294; clear BK295; clear HB; have HO294 := n0_; have BK295 := n1_; have HB := n2_; clear n0_ n1_ n2_; (try clear hb); (try clear hb2); (try clear hk); (try clear hi))))
        go_meet
        case rel => exact ⟨_, (!t296), (by first | rfl | (simp; done) | (simp [*]; done)), H', ⟨by first | omega | exact Nat.le_refl _⟩, ⟨by (with_reducible repeat (first | apply Kd.Q_alloc | apply Kd.Q_drewN | apply Kd.Q_drew)); exact HO294.out⟩, ⟨by (with_reducible repeat (first | refine blk_drewN ?_ _ | refine blk_drew ?_ | refine blk_alloc ?_ _)); exact BK295.out⟩, ⟨by repeat (first | (with_reducible first | exact HB.out | apply below_alloc | apply pw_below_drewN | apply below_drew1 | refine below_set ?_ GE295.out) | exact HB.out)⟩⟩
    case rest =>
      clear HC5
      try clear c1
      try clear c2
      try clear c2b0
      try clear c2b1
      try clear p2
      try clear c4
      try clear c12
      try clear c12b0
      try clear c12b1
      try clear c12b2
      try clear hcz13_0
      try clear hcz13_1
      try clear hcz13_2
      try clear hcz15_0
      try clear hcz15_1
      try clear hcz15_2
      try clear hcz8_0
      try clear hcz8_1
      try clear hcz8_2
      try clear hfz13_0
      try clear hfz13_1
      try clear hfz13_2
      try clear hfz15_0
      try clear hfz15_1
      try clear hfz15_2
      try clear hfz8_0
      try clear hfz8_1
      try clear hfz8_2
      obtain ⟨kq, x27_4, rfl, HA, HJ4, HO_296002, BK295, HB⟩ := hcut
      cases kq with
      | zero => exact absurd HA.out (by simp [laws_FnPtrApart.j0])
      | succ kj4 =>
        have H := HA.out
        clear HA
        simp only [laws_FnPtrApart.j0] at H
        by_cases c17 : x27_4 = true
        · subst c17
          have H1 : ((spec_PtrOk.f kj4 t289 t290 t291 t292).bind fun t298 => (some (t296 == t298))) = some r := by rw [if_pos rfl] at H; exact H
          clear H
          have H := H1
          clear H1
          replace H := Option.bind_eq_some_iff.mp H
          obtain ⟨t298, A180, H⟩ := H
          replace H : (some (t296 == t298)) = some r := H
          have A18 := Aside0.mk A180
          clear A180
          obtain rfl := Option.some.inj H
          have hcz19_0 : wc.cell? ⟨gb295, 0, none⟩ = some (.int .i64 t290) := (blk_cell BK295.out 0).trans rfl
          have hcz19_1 : wc.cell? ⟨gb295, 1, none⟩ = some (.int .i64 t291) := (blk_cell BK295.out 1).trans rfl
          have hcz19_2 : wc.cell? ⟨gb295, 2, none⟩ = some (.slice Ao9 t292.length co9) := (blk_cell BK295.out 2).trans rfl
          have hfz19_0 := blk_frozen BK295.out 0
          have hfz19_1 := blk_frozen BK295.out 1
          have hfz19_2 := blk_frozen BK295.out 2
          go_wp2_with (first | (go_at_call 18; (with_reducible refine (spec_PtrOk.calls kj4 t289 t290 t291 _ _ t292 t298 _ ?side1 ?side2 A18.out).mono ?_); (case side1 => repeat (first | exact (Kd.Q_reads' HO_296002.out).2.2 | (with_reducible refine Kd.C_alloc ?_ _) | (with_reducible refine Kd.C_drewN ?_ _) | (with_reducible refine Kd.C_drew ?_))); (case side2 => exact (Kd.Q_reads' HO_296002.out).2.1); rintro e w20 ⟨rfl, hb⟩; have n0_ := Aside0.mk (Kd.Q_below (by (with_reducible repeat (first | apply Kd.Q_alloc | apply Kd.Q_drewN | apply Kd.Q_drew)); exact HO_296002.out) hb); have n1_ := Aside0.mk (blk_below (g := gb295) (o := .cells #[.int .i64 t290, .int .i64 t291, .slice Ao9 t292.length co9] 29 (0, 0)) (by (with_reducible repeat (first | refine blk_drewN ?_ _ | refine blk_drew ?_ | refine blk_alloc ?_ _)); exact BK295.out) hb); have n2_ := Aside0.mk (below_step (by repeat (first | (with_reducible first | exact HB.out | apply below_alloc | apply pw_below_drewN | apply below_drew1 | refine below_set ?_ GE295.out) | exact HB.out)) hb); clear HO_296002; clear BK295; clear HB; have HO_296002 := n0_; have BK295 := n1_; have HB := n2_; clear n0_ n1_ n2_; (try clear hb); (try clear hb2); (try clear hk); (try clear hi)))
          repeat (go_quiet (first | (go_at_call 18; (with_reducible refine (spec_PtrOk.calls kj4 t289 t290 t291 _ _ t292 t298 _ ?side1 ?side2 A18.out).mono ?_); (case side1 => repeat (first | exact (Kd.Q_reads' HO_296002.out).2.2 | (with_reducible refine Kd.C_alloc ?_ _) | (with_reducible refine Kd.C_drewN ?_ _) | (with_reducible refine Kd.C_drew ?_))); (case side2 => exact (Kd.Q_reads' HO_296002.out).2.1); rintro e w20 ⟨rfl, hb⟩; have n0_ := Aside0.mk (Kd.Q_below (by (with_reducible repeat (first | apply Kd.Q_alloc | apply Kd.Q_drewN | apply Kd.Q_drew)); exact HO_296002.out) hb); have n1_ := Aside0.mk (blk_below (g := gb295) (o := .cells #[.int .i64 t290, .int .i64 t291, .slice Ao9 t292.length co9] 29 (0, 0)) (by (with_reducible repeat (first | refine blk_drewN ?_ _ | refine blk_drew ?_ | refine blk_alloc ?_ _)); exact BK295.out) hb); have n2_ := Aside0.mk (below_step (by repeat (first | (with_reducible first | exact HB.out | apply below_alloc | apply pw_below_drewN | apply below_drew1 | refine below_set ?_ GE295.out) | exact HB.out)) hb); clear HO_296002; clear BK295; clear HB; have HO_296002 := n0_; have BK295 := n1_; have HB := n2_; clear n0_ n1_ n2_; (try clear hb); (try clear hb2); (try clear hk); (try clear hi))); try go_wp2_with (first | (go_at_call 18; (with_reducible refine (spec_PtrOk.calls kj4 t289 t290 t291 _ _ t292 t298 _ ?side1 ?side2 A18.out).mono ?_); (case side1 => repeat (first | exact (Kd.Q_reads' HO_296002.out).2.2 | (with_reducible refine Kd.C_alloc ?_ _) | (with_reducible refine Kd.C_drewN ?_ _) | (with_reducible refine Kd.C_drew ?_))); (case side2 => exact (Kd.Q_reads' HO_296002.out).2.1); rintro e w20 ⟨rfl, hb⟩; have n0_ := Aside0.mk (Kd.Q_below (by (with_reducible repeat (first | apply Kd.Q_alloc | apply Kd.Q_drewN | apply Kd.Q_drew)); exact HO_296002.out) hb); have n1_ := Aside0.mk (blk_below (g := gb295) (o := .cells #[.int .i64 t290, .int .i64 t291, .slice Ao9 t292.length co9] 29 (0, 0)) (by (with_reducible repeat (first | refine blk_drewN ?_ _ | refine blk_drew ?_ | refine blk_alloc ?_ _)); exact BK295.out) hb); have n2_ := Aside0.mk (below_step (by repeat (first | (with_reducible first | exact HB.out | apply below_alloc | apply pw_below_drewN | apply below_drew1 | refine below_set ?_ GE295.out) | exact HB.out)) hb); clear HO_296002; clear BK295; clear HB; have HO_296002 := n0_; have BK295 := n1_; have HB := n2_; clear n0_ n1_ n2_; (try clear hb); (try clear hb2); (try clear hk); (try clear hi))))
          go_ret
          exact ⟨by first | rfl | (simp [errW_none, errW_some] <;> rfl) | (simp [*, errW_none, errW_some] <;> rfl), by repeat (first | (with_reducible first | exact HB.out | apply below_alloc | apply pw_below_drewN | apply below_drew1 | refine below_set ?_ GE295.out) | exact HB.out)⟩
        · replace c17 := Bool.eq_false_iff.mpr c17
          subst c17
          have H1 : (if t290 = 0 then ((laws_lpaPtr.f kj4 t290 t291 t292 0 0 ([] : List (S37))).bind fun t299 => (some t299)) else (laws_FnPtrApart.l0 kj4 t289 0 t290 t291 t292)) = some r := by rw [if_neg (show ¬ (false = true) by decide)] at H; exact H
          clear H
          have H := H1
          clear H1
          by_cases c21 : t290 = 0
          · rw [if_pos c21] at H
            have c21b0 : (t290 == 0) = true := beq_iff_eq.mpr c21
            have c21b1 : (t290 != 0) = false := bne_eq_false_iff_eq.mpr c21
            clear c21
            replace H := Option.bind_eq_some_iff.mp H
            obtain ⟨t299, A220, H⟩ := H
            replace H : (some t299) = some r := H
            have A22 := Aside0.mk A220
            clear A220
            obtain rfl := Option.some.inj H
            have hcz23_0 : wc.cell? ⟨gb295, 0, none⟩ = some (.int .i64 t290) := (blk_cell BK295.out 0).trans rfl
            have hcz23_1 : wc.cell? ⟨gb295, 1, none⟩ = some (.int .i64 t291) := (blk_cell BK295.out 1).trans rfl
            have hcz23_2 : wc.cell? ⟨gb295, 2, none⟩ = some (.slice Ao9 t292.length co9) := (blk_cell BK295.out 2).trans rfl
            have hfz23_0 := blk_frozen BK295.out 0
            have hfz23_1 := blk_frozen BK295.out 1
            have hfz23_2 := blk_frozen BK295.out 2
            go_wp2_with (first | (go_at_call 23; (refine (laws_lpaPtr.calls kj4 t290 t291 _ _ t292 0 0 _ _ ([] : List (S37)) t299 _ ?side1 ?side2 ?side3 ?side4 A22.out).mono ?_); (case side1 => repeat (first | exact (Kd.Q_reads' HO_296002.out).2.2 | (with_reducible refine Kd.C_alloc ?_ _) | (with_reducible refine Kd.C_drewN ?_ _) | (with_reducible refine Kd.C_drew ?_))); (case side2 => exact (Kd.Q_reads' HO_296002.out).2.1); (case side3 => exact Kd.C_nil _ _); (case side4 => exact Nat.le_refl _); rintro e w24 ⟨rfl, hb⟩; have n0_ := Aside0.mk (Kd.Q_below (by (with_reducible repeat (first | apply Kd.Q_alloc | apply Kd.Q_drewN | apply Kd.Q_drew)); exact HO_296002.out) hb); have n1_ := Aside0.mk (blk_below (g := gb295) (o := .cells #[.int .i64 t290, .int .i64 t291, .slice Ao9 t292.length co9] 29 (0, 0)) (by (with_reducible repeat (first | refine blk_drewN ?_ _ | refine blk_drew ?_ | refine blk_alloc ?_ _)); exact BK295.out) hb); have n2_ := Aside0.mk (below_step (by repeat (first | (with_reducible first | exact HB.out | apply below_alloc | apply pw_below_drewN | apply below_drew1 | refine below_set ?_ GE295.out) | exact HB.out)) hb); clear HO_296002; clear BK295; clear HB; have HO_296002 := n0_; have BK295 := n1_; have HB := n2_; clear n0_ n1_ n2_; (try clear hb); (try clear hb2); (try clear hk); (try clear hi)))
            repeat (go_quiet (first | (go_at_call 23; (refine (laws_lpaPtr.calls kj4 t290 t291 _ _ t292 0 0 _ _ ([] : List (S37)) t299 _ ?side1 ?side2 ?side3 ?side4 A22.out).mono ?_); (case side1 => repeat (first | exact (Kd.Q_reads' HO_296002.out).2.2 | (with_reducible refine Kd.C_alloc ?_ _) | (with_reducible refine Kd.C_drewN ?_ _) | (with_reducible refine Kd.C_drew ?_))); (case side2 => exact (Kd.Q_reads' HO_296002.out).2.1); (case side3 => exact Kd.C_nil _ _); (case side4 => exact Nat.le_refl _); rintro e w24 ⟨rfl, hb⟩; have n0_ := Aside0.mk (Kd.Q_below (by (with_reducible repeat (first | apply Kd.Q_alloc | apply Kd.Q_drewN | apply Kd.Q_drew)); exact HO_296002.out) hb); have n1_ := Aside0.mk (blk_below (g := gb295) (o := .cells #[.int .i64 t290, .int .i64 t291, .slice Ao9 t292.length co9] 29 (0, 0)) (by (with_reducible repeat (first | refine blk_drewN ?_ _ | refine blk_drew ?_ | refine blk_alloc ?_ _)); exact BK295.out) hb); have n2_ := Aside0.mk (below_step (by repeat (first | (with_reducible first | exact HB.out | apply below_alloc | apply pw_below_drewN | apply below_drew1 | refine below_set ?_ GE295.out) | exact HB.out)) hb); clear HO_296002; clear BK295; clear HB; have HO_296002 := n0_; have BK295 := n1_; have HB := n2_; clear n0_ n1_ n2_; (try clear hb); (try clear hb2); (try clear hk); (try clear hi))); try go_wp2_with (first | (go_at_call 23; (refine (laws_lpaPtr.calls kj4 t290 t291 _ _ t292 0 0 _ _ ([] : List (S37)) t299 _ ?side1 ?side2 ?side3 ?side4 A22.out).mono ?_); (case side1 => repeat (first | exact (Kd.Q_reads' HO_296002.out).2.2 | (with_reducible refine Kd.C_alloc ?_ _) | (with_reducible refine Kd.C_drewN ?_ _) | (with_reducible refine Kd.C_drew ?_))); (case side2 => exact (Kd.Q_reads' HO_296002.out).2.1); (case side3 => exact Kd.C_nil _ _); (case side4 => exact Nat.le_refl _); rintro e w24 ⟨rfl, hb⟩; have n0_ := Aside0.mk (Kd.Q_below (by (with_reducible repeat (first | apply Kd.Q_alloc | apply Kd.Q_drewN | apply Kd.Q_drew)); exact HO_296002.out) hb); have n1_ := Aside0.mk (blk_below (g := gb295) (o := .cells #[.int .i64 t290, .int .i64 t291, .slice Ao9 t292.length co9] 29 (0, 0)) (by (with_reducible repeat (first | refine blk_drewN ?_ _ | refine blk_drew ?_ | refine blk_alloc ?_ _)); exact BK295.out) hb); have n2_ := Aside0.mk (below_step (by repeat (first | (with_reducible first | exact HB.out | apply below_alloc | apply pw_below_drewN | apply below_drew1 | refine below_set ?_ GE295.out) | exact HB.out)) hb); clear HO_296002; clear BK295; clear HB; have HO_296002 := n0_; have BK295 := n1_; have HB := n2_; clear n0_ n1_ n2_; (try clear hb); (try clear hb2); (try clear hk); (try clear hi))))
            go_ret
            exact ⟨by first | rfl | (simp [errW_none, errW_some] <;> rfl) | (simp [*, errW_none, errW_some] <;> rfl), by repeat (first | (with_reducible first | exact HB.out | apply below_alloc | apply pw_below_drewN | apply below_drew1 | refine below_set ?_ GE295.out) | exact HB.out)⟩
          · rw [if_neg c21] at H
            have c21b0 : (t290 == 0) = false := beq_eq_false_iff_ne.mpr c21
            have c21b1 : (t290 != 0) = true := bne_iff_ne.mpr c21
            have H' := Aside0.mk H
            clear H
            have hcz25_0 : wc.cell? ⟨gb295, 0, none⟩ = some (.int .i64 t290) := (blk_cell BK295.out 0).trans rfl
            have hcz25_1 : wc.cell? ⟨gb295, 1, none⟩ = some (.int .i64 t291) := (blk_cell BK295.out 1).trans rfl
            have hcz25_2 : wc.cell? ⟨gb295, 2, none⟩ = some (.slice Ao9 t292.length co9) := (blk_cell BK295.out 2).trans rfl
            have hfz25_0 := blk_frozen BK295.out 0
            have hfz25_1 := blk_frozen BK295.out 1
            have hfz25_2 := blk_frozen BK295.out 2
            go_wp2
            repeat (go_quiet (fail); try go_wp2)
            go_loopg [6] kj4 (fun kq v6 w' => ∃ (x6_2 : Int), v6 = .int .i64 x6_2 ∧ Aside0 (laws_FnPtrApart.l0 kq t289 x6_2 t290 t291 t292 = some r) ∧ Aside0 (kq ≤ kj4) ∧ Aside0 (Kd.Q k37 37 w' w.heap.size (fun _ => True) (.slice Ao9 t292.length co9) t292) ∧ Aside0 (w'.heap[gb295]? = some (.cells #[.int .i64 t290, .int .i64 t291, (.slice Ao9 t292.length co9)] 29 (0, 0))) ∧ Aside0 (Below w.heap.size w w'))
            case atStart => exact ⟨(0), (by first | rfl | (simp; done) | (simp [*]; done)), H', ⟨Nat.le_refl _⟩, ⟨by (with_reducible repeat (first | apply Kd.Q_alloc | apply Kd.Q_drewN | apply Kd.Q_drew)); exact HO_296002.out⟩, ⟨by (with_reducible repeat (first | refine blk_drewN ?_ _ | refine blk_drew ?_ | refine blk_alloc ?_ _)); exact BK295.out⟩, ⟨by repeat (first | (with_reducible first | exact HB.out | apply below_alloc | apply pw_below_drewN | apply below_drew1 | refine below_set ?_ GE295.out) | exact HB.out)⟩⟩
            case round =>
              clear H'
              try clear c1
              try clear c2
              try clear c2b0
              try clear c2b1
              try clear p2
              try clear c4
              try clear c12
              try clear c12b0
              try clear c12b1
              try clear c12b2
              try clear c17
              try clear c21
              try clear c21b0
              try clear c21b1
              try clear hcz13_0
              try clear hcz13_1
              try clear hcz13_2
              try clear hcz15_0
              try clear hcz15_1
              try clear hcz15_2
              try clear hcz19_0
              try clear hcz19_1
              try clear hcz19_2
              try clear hcz23_0
              try clear hcz23_1
              try clear hcz23_2
              try clear hcz25_0
              try clear hcz25_1
              try clear hcz25_2
              try clear hcz8_0
              try clear hcz8_1
              try clear hcz8_2
              try clear hfz13_0
              try clear hfz13_1
              try clear hfz13_2
              try clear hfz15_0
              try clear hfz15_1
              try clear hfz15_2
              try clear hfz19_0
              try clear hfz19_1
              try clear hfz19_2
              try clear hfz23_0
              try clear hfz23_1
              try clear hfz23_2
              try clear hfz25_0
              try clear hfz25_1
              try clear hfz25_2
              try clear hfz8_0
              try clear hfz8_1
              try clear hfz8_2
              try clear p2
              obtain ⟨x6_2, rfl, HA, HK2, HO_296002, BK295, HB⟩ := hrel
              cases gk with
              | zero => exact absurd HA.out (by simp [laws_FnPtrApart.l0])
              | succ k2 =>
                have H := HA.out
                clear HA
                simp only [laws_FnPtrApart.l0] at H
                by_cases c26 : x6_2 < (t292.length : Int)
                · rw [if_pos c26] at H
                  have c26b0 : decide (x6_2 < (t292.length : Int)) = true := decide_eq_true c26
                  clear c26
                  have H' := Aside0.mk H
                  clear H
                  have hcz27_0 : wr.cell? ⟨gb295, 0, none⟩ = some (.int .i64 t290) := (blk_cell BK295.out 0).trans rfl
                  have hcz27_1 : wr.cell? ⟨gb295, 1, none⟩ = some (.int .i64 t291) := (blk_cell BK295.out 1).trans rfl
                  have hcz27_2 : wr.cell? ⟨gb295, 2, none⟩ = some (.slice Ao9 t292.length co9) := (blk_cell BK295.out 2).trans rfl
                  have hfz27_0 := blk_frozen BK295.out 0
                  have hfz27_1 := blk_frozen BK295.out 1
                  have hfz27_2 := blk_frozen BK295.out 2
                  go_wp2
                  repeat (go_quiet (fail); try go_wp2)
                  go_loopg [7] k2 (fun kq v7 w' => ∃ (x7_3 : Int), v7 = .int .i64 x7_3 ∧ Aside0 (laws_FnPtrApart.l1 kq t289 x6_2 x7_3 t290 t291 t292 = some r) ∧ Aside0 (kq ≤ k2) ∧ Aside0 (Kd.Q k37 37 w' w.heap.size (fun _ => True) (.slice Ao9 t292.length co9) t292) ∧ Aside0 (w'.heap[gb295]? = some (.cells #[.int .i64 t290, .int .i64 t291, (.slice Ao9 t292.length co9)] 29 (0, 0))) ∧ Aside0 (Below w.heap.size w w'))
                  case atStart => exact ⟨(0), (by first | rfl | (simp; done) | (simp [*]; done)), H', ⟨Nat.le_refl _⟩, ⟨by (with_reducible repeat (first | apply Kd.Q_alloc | apply Kd.Q_drewN | apply Kd.Q_drew)); exact HO_296002.out⟩, ⟨by (with_reducible repeat (first | refine blk_drewN ?_ _ | refine blk_drew ?_ | refine blk_alloc ?_ _)); exact BK295.out⟩, ⟨by repeat (first | (with_reducible first | exact HB.out | apply below_alloc | apply pw_below_drewN | apply below_drew1 | refine below_set ?_ GE295.out) | exact HB.out)⟩⟩
                  case round =>
                    clear H'
                    try clear c1
                    try clear c2
                    try clear c2b0
                    try clear c2b1
                    try clear p2
                    try clear c4
                    try clear c12
                    try clear c12b0
                    try clear c12b1
                    try clear c12b2
                    try clear c17
                    try clear c21
                    try clear c21b0
                    try clear c21b1
                    try clear c26
                    try clear c26b0
                    try clear hcz13_0
                    try clear hcz13_1
                    try clear hcz13_2
                    try clear hcz15_0
                    try clear hcz15_1
                    try clear hcz15_2
                    try clear hcz19_0
                    try clear hcz19_1
                    try clear hcz19_2
                    try clear hcz23_0
                    try clear hcz23_1
                    try clear hcz23_2
                    try clear hcz25_0
                    try clear hcz25_1
                    try clear hcz25_2
                    try clear hcz27_0
                    try clear hcz27_1
                    try clear hcz27_2
                    try clear hcz8_0
                    try clear hcz8_1
                    try clear hcz8_2
                    try clear hfz13_0
                    try clear hfz13_1
                    try clear hfz13_2
                    try clear hfz15_0
                    try clear hfz15_1
                    try clear hfz15_2
                    try clear hfz19_0
                    try clear hfz19_1
                    try clear hfz19_2
                    try clear hfz23_0
                    try clear hfz23_1
                    try clear hfz23_2
                    try clear hfz25_0
                    try clear hfz25_1
                    try clear hfz25_2
                    try clear hfz27_0
                    try clear hfz27_1
                    try clear hfz27_2
                    try clear hfz8_0
                    try clear hfz8_1
                    try clear hfz8_2
                    try clear p2
                    obtain ⟨x7_3, rfl, HA, HK3, HO_296002, BK295, HB⟩ := hrel
                    cases gk with
                    | zero => exact absurd HA.out (by simp [laws_FnPtrApart.l1])
                    | succ k3 =>
                      have H := HA.out
                      clear HA
                      simp only [laws_FnPtrApart.l1] at H
                      by_cases c28 : x7_3 < x6_2
                      · rw [if_pos c28] at H
                        have c28b0 : decide (x7_3 < x6_2) = true := decide_eq_true c28
                        clear c28
                        by_cases c29 : 0 ≤ x7_3
                        · rw [if_pos c29] at H
                          have c29b0 : decide (0 ≤ x7_3) = true := decide_eq_true c29
                          clear c29
                          by_cases c30 : x7_3 < (t292.length : Int)
                          · rw [if_pos c30] at H
                            have c30b0 : decide (x7_3 < (t292.length : Int)) = true := decide_eq_true c30
                            clear c30
                            by_cases c31 : 0 ≤ x6_2
                            · rw [if_pos c31] at H
                              have c31b0 : decide (0 ≤ x6_2) = true := decide_eq_true c31
                              clear c31
                              by_cases c32 : x6_2 < (t292.length : Int)
                              · rw [if_pos c32] at H
                                have c32b0 : decide (x6_2 < (t292.length : Int)) = true := decide_eq_true c32
                                clear c32
                                by_cases c33 : ((rd_T37 t292 x7_3).f0) = ((rd_T37 t292 x6_2).f0)
                                · rw [if_pos c33] at H
                                  have c33b0 : (((rd_T37 t292 x7_3).f0) == ((rd_T37 t292 x6_2).f0)) = true := beq_iff_eq.mpr c33
                                  have c33b1 : (((rd_T37 t292 x7_3).f0) != ((rd_T37 t292 x6_2).f0)) = false := bne_eq_false_iff_eq.mpr c33
                                  clear c33
                                  obtain rfl := Option.some.inj H
                                  have hcz34_0 : wr.cell? ⟨gb295, 0, none⟩ = some (.int .i64 t290) := (blk_cell BK295.out 0).trans rfl
                                  have hcz34_1 : wr.cell? ⟨gb295, 1, none⟩ = some (.int .i64 t291) := (blk_cell BK295.out 1).trans rfl
                                  have hcz34_2 : wr.cell? ⟨gb295, 2, none⟩ = some (.slice Ao9 t292.length co9) := (blk_cell BK295.out 2).trans rfl
                                  have hfz34_0 := blk_frozen BK295.out 0
                                  have hfz34_1 := blk_frozen BK295.out 1
                                  have hfz34_2 := blk_frozen BK295.out 2
                                  have p300 : 0 ≤ (x7_3 : Int) := of_decide_eq_true (by first | (with_reducible assumption) | assumption)
                                  have q300 : x7_3 < (t292.length : Int) := of_decide_eq_true (by first | (with_reducible assumption) | assumption)
                                  obtain ⟨ad300, e300, hx300_0, hx300_1⟩ := at_T37 (Kd.Q_reads' HO_296002.out).2.2 x7_3 p300 q300
                                  cases e300
                                  replace p300 := eq_true p300
                                  replace q300 := eq_true q300
                                  have p301 : 0 ≤ (x6_2 : Int) := of_decide_eq_true (by first | (with_reducible assumption) | assumption)
                                  have q301 : x6_2 < (t292.length : Int) := of_decide_eq_true (by first | (with_reducible assumption) | assumption)
                                  obtain ⟨ad301, e301, hx301_0, hx301_1⟩ := at_T37 (Kd.Q_reads' HO_296002.out).2.2 x6_2 p301 q301
                                  obtain rfl : ad300 = ad301 := (by injection e301)
                                  replace p301 := eq_true p301
                                  replace q301 := eq_true q301
                                  go_wp2
                                  repeat (go_quiet (fail); try go_wp2)
                                  go_ret
                                  exact ⟨by first | rfl | (simp [errW_none, errW_some] <;> rfl) | (simp [*, errW_none, errW_some] <;> rfl), by repeat (first | (with_reducible first | exact HB.out | apply below_alloc | apply pw_below_drewN | apply below_drew1 | refine below_set ?_ GE295.out) | exact HB.out)⟩
                                · rw [if_neg c33] at H
                                  have c33b0 : (((rd_T37 t292 x7_3).f0) == ((rd_T37 t292 x6_2).f0)) = false := beq_eq_false_iff_ne.mpr c33
                                  have c33b1 : (((rd_T37 t292 x7_3).f0) != ((rd_T37 t292 x6_2).f0)) = true := bne_iff_ne.mpr c33
                                  have H' := Aside0.mk H
                                  clear H
                                  have hcz35_0 : wr.cell? ⟨gb295, 0, none⟩ = some (.int .i64 t290) := (blk_cell BK295.out 0).trans rfl
                                  have hcz35_1 : wr.cell? ⟨gb295, 1, none⟩ = some (.int .i64 t291) := (blk_cell BK295.out 1).trans rfl
                                  have hcz35_2 : wr.cell? ⟨gb295, 2, none⟩ = some (.slice Ao9 t292.length co9) := (blk_cell BK295.out 2).trans rfl
                                  have hfz35_0 := blk_frozen BK295.out 0
                                  have hfz35_1 := blk_frozen BK295.out 1
                                  have hfz35_2 := blk_frozen BK295.out 2
                                  have p300 : 0 ≤ (x7_3 : Int) := of_decide_eq_true (by first | (with_reducible assumption) | assumption)
                                  have q300 : x7_3 < (t292.length : Int) := of_decide_eq_true (by first | (with_reducible assumption) | assumption)
                                  obtain ⟨ad300, e300, hx300_0, hx300_1⟩ := at_T37 (Kd.Q_reads' HO_296002.out).2.2 x7_3 p300 q300
                                  cases e300
                                  replace p300 := eq_true p300
                                  replace q300 := eq_true q300
                                  have p301 : 0 ≤ (x6_2 : Int) := of_decide_eq_true (by first | (with_reducible assumption) | assumption)
                                  have q301 : x6_2 < (t292.length : Int) := of_decide_eq_true (by first | (with_reducible assumption) | assumption)
                                  obtain ⟨ad301, e301, hx301_0, hx301_1⟩ := at_T37 (Kd.Q_reads' HO_296002.out).2.2 x6_2 p301 q301
                                  obtain rfl : ad300 = ad301 := (by injection e301)
                                  replace p301 := eq_true p301
                                  replace q301 := eq_true q301
                                  go_wp2
                                  repeat (go_quiet (fail); try go_wp2)
                                  go_roundg k3
                                  case measure => have := HJ4.out; have := HK2.out; have := HK3.out; omega
                                  case rel => exact ⟨(wrap64 (x7_3 + 1)), (by first | rfl | (simp; done) | (simp [*]; done)), H', ⟨by have := HJ4.out; have := HK2.out; have := HK3.out; omega⟩, ⟨by (with_reducible repeat (first | apply Kd.Q_alloc | apply Kd.Q_drewN | apply Kd.Q_drew)); exact HO_296002.out⟩, ⟨by (with_reducible repeat (first | refine blk_drewN ?_ _ | refine blk_drew ?_ | refine blk_alloc ?_ _)); exact BK295.out⟩, ⟨by repeat (first | (with_reducible first | exact HB.out | apply below_alloc | apply pw_below_drewN | apply below_drew1 | refine below_set ?_ GE295.out) | exact HB.out)⟩⟩
                              · rw [if_neg c32] at H
                                exact absurd H (by simp)
                            · rw [if_neg c31] at H
                              exact absurd H (by simp)
                          · rw [if_neg c30] at H
                            exact absurd H (by simp)
                        · rw [if_neg c29] at H
                          exact absurd H (by simp)
                      · rw [if_neg c28] at H
                        have c28b0 : decide (x7_3 < x6_2) = false := decide_eq_false c28
                        clear c28
                        by_cases c36 : 0 ≤ x6_2
                        · rw [if_pos c36] at H
                          have c36b0 : decide (0 ≤ x6_2) = true := decide_eq_true c36
                          clear c36
                          by_cases c37 : x6_2 < (t292.length : Int)
                          · rw [if_pos c37] at H
                            have c37b0 : decide (x6_2 < (t292.length : Int)) = true := decide_eq_true c37
                            clear c37
                            by_cases c38 : ((rd_T37 t292 x6_2).f0) < 0
                            · rw [if_pos c38] at H
                              have c38b0 : decide (((rd_T37 t292 x6_2).f0) < 0) = true := decide_eq_true c38
                              clear c38
                              obtain rfl := Option.some.inj H
                              have hcz39_0 : wr.cell? ⟨gb295, 0, none⟩ = some (.int .i64 t290) := (blk_cell BK295.out 0).trans rfl
                              have hcz39_1 : wr.cell? ⟨gb295, 1, none⟩ = some (.int .i64 t291) := (blk_cell BK295.out 1).trans rfl
                              have hcz39_2 : wr.cell? ⟨gb295, 2, none⟩ = some (.slice Ao9 t292.length co9) := (blk_cell BK295.out 2).trans rfl
                              have hfz39_0 := blk_frozen BK295.out 0
                              have hfz39_1 := blk_frozen BK295.out 1
                              have hfz39_2 := blk_frozen BK295.out 2
                              have p302 : 0 ≤ (x6_2 : Int) := of_decide_eq_true (by first | (with_reducible assumption) | assumption)
                              have q302 : x6_2 < (t292.length : Int) := of_decide_eq_true (by first | (with_reducible assumption) | assumption)
                              obtain ⟨ad302, e302, hx302_0, hx302_1⟩ := at_T37 (Kd.Q_reads' HO_296002.out).2.2 x6_2 p302 q302
                              cases e302
                              replace p302 := eq_true p302
                              replace q302 := eq_true q302
                              go_wp2
                              repeat (go_quiet (fail); try go_wp2)
                              go_ret
                              exact ⟨by first | rfl | (simp [errW_none, errW_some] <;> rfl) | (simp [*, errW_none, errW_some] <;> rfl), by repeat (first | (with_reducible first | exact HB.out | apply below_alloc | apply pw_below_drewN | apply below_drew1 | refine below_set ?_ GE295.out) | exact HB.out)⟩
                            · rw [if_neg c38] at H
                              have c38b0 : decide (((rd_T37 t292 x6_2).f0) < 0) = false := decide_eq_false c38
                              clear c38
                              by_cases c40 : ((rd_T37 t292 x6_2).f0) ≥ t289
                              · rw [if_pos c40] at H
                                have c40b0 : decide (t289 ≤ ((rd_T37 t292 x6_2).f0)) = true := decide_eq_true c40
                                clear c40
                                obtain rfl := Option.some.inj H
                                have hcz41_0 : wr.cell? ⟨gb295, 0, none⟩ = some (.int .i64 t290) := (blk_cell BK295.out 0).trans rfl
                                have hcz41_1 : wr.cell? ⟨gb295, 1, none⟩ = some (.int .i64 t291) := (blk_cell BK295.out 1).trans rfl
                                have hcz41_2 : wr.cell? ⟨gb295, 2, none⟩ = some (.slice Ao9 t292.length co9) := (blk_cell BK295.out 2).trans rfl
                                have hfz41_0 := blk_frozen BK295.out 0
                                have hfz41_1 := blk_frozen BK295.out 1
                                have hfz41_2 := blk_frozen BK295.out 2
                                have p302 : 0 ≤ (x6_2 : Int) := of_decide_eq_true (by first | (with_reducible assumption) | assumption)
                                have q302 : x6_2 < (t292.length : Int) := of_decide_eq_true (by first | (with_reducible assumption) | assumption)
                                obtain ⟨ad302, e302, hx302_0, hx302_1⟩ := at_T37 (Kd.Q_reads' HO_296002.out).2.2 x6_2 p302 q302
                                cases e302
                                replace p302 := eq_true p302
                                replace q302 := eq_true q302
                                have p303 : 0 ≤ (x6_2 : Int) := of_decide_eq_true (by first | (with_reducible assumption) | assumption)
                                have q303 : x6_2 < (t292.length : Int) := of_decide_eq_true (by first | (with_reducible assumption) | assumption)
                                obtain ⟨ad303, e303, hx303_0, hx303_1⟩ := at_T37 (Kd.Q_reads' HO_296002.out).2.2 x6_2 p303 q303
                                obtain rfl : ad302 = ad303 := (by injection e303)
                                replace p303 := eq_true p303
                                replace q303 := eq_true q303
                                go_wp2
                                repeat (go_quiet (fail); try go_wp2)
                                go_ret
                                exact ⟨by first | rfl | (simp [errW_none, errW_some] <;> rfl) | (simp [*, errW_none, errW_some] <;> rfl), by repeat (first | (with_reducible first | exact HB.out | apply below_alloc | apply pw_below_drewN | apply below_drew1 | refine below_set ?_ GE295.out) | exact HB.out)⟩
                              · rw [if_neg c40] at H
                                have c40b0 : decide (t289 ≤ ((rd_T37 t292 x6_2).f0)) = false := decide_eq_false c40
                                clear c40
                                have H' := Aside0.mk H
                                clear H
                                have hcz42_0 : wr.cell? ⟨gb295, 0, none⟩ = some (.int .i64 t290) := (blk_cell BK295.out 0).trans rfl
                                have hcz42_1 : wr.cell? ⟨gb295, 1, none⟩ = some (.int .i64 t291) := (blk_cell BK295.out 1).trans rfl
                                have hcz42_2 : wr.cell? ⟨gb295, 2, none⟩ = some (.slice Ao9 t292.length co9) := (blk_cell BK295.out 2).trans rfl
                                have hfz42_0 := blk_frozen BK295.out 0
                                have hfz42_1 := blk_frozen BK295.out 1
                                have hfz42_2 := blk_frozen BK295.out 2
                                have p302 : 0 ≤ (x6_2 : Int) := of_decide_eq_true (by first | (with_reducible assumption) | assumption)
                                have q302 : x6_2 < (t292.length : Int) := of_decide_eq_true (by first | (with_reducible assumption) | assumption)
                                obtain ⟨ad302, e302, hx302_0, hx302_1⟩ := at_T37 (Kd.Q_reads' HO_296002.out).2.2 x6_2 p302 q302
                                cases e302
                                replace p302 := eq_true p302
                                replace q302 := eq_true q302
                                have p303 : 0 ≤ (x6_2 : Int) := of_decide_eq_true (by first | (with_reducible assumption) | assumption)
                                have q303 : x6_2 < (t292.length : Int) := of_decide_eq_true (by first | (with_reducible assumption) | assumption)
                                obtain ⟨ad303, e303, hx303_0, hx303_1⟩ := at_T37 (Kd.Q_reads' HO_296002.out).2.2 x6_2 p303 q303
                                obtain rfl : ad302 = ad303 := (by injection e303)
                                replace p303 := eq_true p303
                                replace q303 := eq_true q303
                                go_wp2
                                repeat (go_quiet (fail); try go_wp2)
                                go_roundg k3
                                case measure => have := HJ4.out; have := HK2.out; have := HK3.out; omega
                                case rel => exact ⟨(wrap64 (x6_2 + 1)), (by first | rfl | (simp; done) | (simp [*]; done)), H', ⟨by have := HJ4.out; have := HK2.out; have := HK3.out; omega⟩, ⟨by (with_reducible repeat (first | apply Kd.Q_alloc | apply Kd.Q_drewN | apply Kd.Q_drew)); exact HO_296002.out⟩, ⟨by (with_reducible repeat (first | refine blk_drewN ?_ _ | refine blk_drew ?_ | refine blk_alloc ?_ _)); exact BK295.out⟩, ⟨by repeat (first | (with_reducible first | exact HB.out | apply below_alloc | apply pw_below_drewN | apply below_drew1 | refine below_set ?_ GE295.out) | exact HB.out)⟩⟩
                          · rw [if_neg c37] at H
                            exact absurd H (by simp)
                        · rw [if_neg c36] at H
                          exact absurd H (by simp)
                · rw [if_neg c26] at H
                  have c26b0 : decide (x6_2 < (t292.length : Int)) = false := decide_eq_false c26
                  clear c26
                  by_cases c43 : (t292.length : Int) = (wrap64 ((wrap64 (Int.tdiv (wrap64 ((wrap64 (t290 + 3)) - 1)) 3)) + 1))
                  · rw [if_pos c43] at H
                    have c43b0 : ((t292.length : Int) == (wrap64 ((wrap64 (Int.tdiv (wrap64 ((wrap64 (t290 + 3)) - 1)) 3)) + 1))) = true := beq_iff_eq.mpr c43
                    have c43b1 : ((t292.length : Int) != (wrap64 ((wrap64 (Int.tdiv (wrap64 ((wrap64 (t290 + 3)) - 1)) 3)) + 1))) = false := bne_eq_false_iff_eq.mpr c43
                    clear c43
                    obtain rfl := Option.some.inj H
                    have hcz44_0 : wr.cell? ⟨gb295, 0, none⟩ = some (.int .i64 t290) := (blk_cell BK295.out 0).trans rfl
                    have hcz44_1 : wr.cell? ⟨gb295, 1, none⟩ = some (.int .i64 t291) := (blk_cell BK295.out 1).trans rfl
                    have hcz44_2 : wr.cell? ⟨gb295, 2, none⟩ = some (.slice Ao9 t292.length co9) := (blk_cell BK295.out 2).trans rfl
                    have hfz44_0 := blk_frozen BK295.out 0
                    have hfz44_1 := blk_frozen BK295.out 1
                    have hfz44_2 := blk_frozen BK295.out 2
                    go_wp2
                    repeat (go_quiet (fail); try go_wp2)
                    go_ret
                    exact ⟨by first | rfl | (simp [errW_none, errW_some] <;> rfl) | (simp [*, errW_none, errW_some] <;> rfl), by repeat (first | (with_reducible first | exact HB.out | apply below_alloc | apply pw_below_drewN | apply below_drew1 | refine below_set ?_ GE295.out) | exact HB.out)⟩
                  · rw [if_neg c43] at H
                    have c43b0 : ((t292.length : Int) == (wrap64 ((wrap64 (Int.tdiv (wrap64 ((wrap64 (t290 + 3)) - 1)) 3)) + 1))) = false := beq_eq_false_iff_ne.mpr c43
                    have c43b1 : ((t292.length : Int) != (wrap64 ((wrap64 (Int.tdiv (wrap64 ((wrap64 (t290 + 3)) - 1)) 3)) + 1))) = true := bne_iff_ne.mpr c43
                    obtain rfl := Option.some.inj H
                    have hcz45_0 : wr.cell? ⟨gb295, 0, none⟩ = some (.int .i64 t290) := (blk_cell BK295.out 0).trans rfl
                    have hcz45_1 : wr.cell? ⟨gb295, 1, none⟩ = some (.int .i64 t291) := (blk_cell BK295.out 1).trans rfl
                    have hcz45_2 : wr.cell? ⟨gb295, 2, none⟩ = some (.slice Ao9 t292.length co9) := (blk_cell BK295.out 2).trans rfl
                    have hfz45_0 := blk_frozen BK295.out 0
                    have hfz45_1 := blk_frozen BK295.out 1
                    have hfz45_2 := blk_frozen BK295.out 2
                    go_wp2
                    repeat (go_quiet (fail); try go_wp2)
                    go_ret
                    exact ⟨by first | rfl | (simp [errW_none, errW_some] <;> rfl) | (simp [*, errW_none, errW_some] <;> rfl), by repeat (first | (with_reducible first | exact HB.out | apply below_alloc | apply pw_below_drewN | apply below_drew1 | refine below_set ?_ GE295.out) | exact HB.out)⟩
def laws_FnPtrApart.Pure : Prop := ∀ (l0 : List Int), l0.length ≤ maxLen → l0.length * 1 ≤ 140737488351232 → (∀ x ∈ l0, (Lit.int .u8 x).wf = true) → ∃ k, laws_FnPtrApart.f k l0 = some true
theorem laws_FnPtrApart.walk (P : laws_FnPtrApart.Pure) (a0 : Option Addr) (len0 cap0 : Nat) (z0 : List Int) (w : World) (w0 : (a0 = none ∧ len0 = 0 ∧ cap0 = 0 ∧ z0 = []) ∨ ∃ x, a0 = some x ∧ len0 ≤ cap0 ∧ cap0 ≤ maxLen ∧ z0.length = cap0 ∧ (∀ i, i < z0.length → w.cell? (x.add i) = some (.int .u8 (z0.getD i 0))) ∧ ∀ n ∈ z0, (Lit.int .u8 n).wf = true) (y0 : len0 * 1 ≤ 140737488351232) :
    Calls Try.prog 4 #[.slice a0 len0 cap0] w fun e w' => e = .returned (.bool true) ∧ Below w.heap.size w w' := by
  obtain ⟨l0, rfl, hr0, hm0, hw0, hc0⟩ := ReadsInt.ofRowC w0
  obtain ⟨k, h⟩ := P l0 hm0 y0 hw0
  refine (laws_FnPtrApart.calls k _ _ l0 true w (Kd.C_of_reads (d := (0 : Int)) (h1 := fun _ => rfl) hr0) hc0 h).mono ?_
  rintro e w' ⟨rfl, hd⟩
  exact ⟨rfl, hd⟩
end Go.Proofs.Ytkoimmeghdbodaa.Print
namespace Go.Proofs.Ytkoimmeghdbodaa.Pure
open Go.RowKit Go.Proofs.YtkoimmeghdbodaaW.PrintWords
theorem Ev.pos {α : Type} {c : Prop} [Decidable c] {f g : Nat → Option α} {r : α} (h : c) (k : Ev f r) : Ev (fun n => if c then f n else g n) r := by
  obtain ⟨K, k⟩ := k
  exact ⟨K, fun n hn => by simp only [if_pos h]; exact k n hn⟩
theorem Ev.neg {α : Type} {c : Prop} [Decidable c] {f g : Nat → Option α} {r : α} (h : ¬ c) (k : Ev g r) : Ev (fun n => if c then f n else g n) r := by
  obtain ⟨K, k⟩ := k
  exact ⟨K, fun n hn => by simp only [if_neg h]; exact k n hn⟩
theorem Ev.ite {α : Type} {c : Prop} [Decidable c] {f g : Nat → Option α} {r : α} (k1 : c → Ev f r) (k2 : ¬ c → Ev g r) : Ev (fun n => if c then f n else g n) r := by
  by_cases h : c
  · exact Ev.pos h (k1 h)
  · exact Ev.neg h (k2 h)
theorem Ev.take {α β : Type} {g : Option α} {f : Nat → α → Option β} {a : α} {r : β} (h : g = some a) (k : Ev (fun n => f n a) r) : Ev (fun n => g.bind (f n)) r := by
  subst h
  exact k
theorem Ev.ret {α : Type} {a r : α} (h : a = r) : Ev (fun _ => some a) r := ⟨0, fun _ _ => by rw [h]⟩
theorem wrap_ok {x : Int} (h : -9223372036854775808 ≤ x ∧ x ≤ 9223372036854775807) : wrap64 x = x := by
  unfold wrap64
  omega
theorem bits_xor_nat (k : IntKind) (j : Nat) (hj : j ≤ k.bits) (hk : ∀ n : Int, 0 ≤ n → n < 2 ^ j → k.wrap n = n) (a b : Nat) (ha : a < 2 ^ j) (hb : b < 2 ^ j) :
    Go.bits .xor k a b = ((a ^^^ b : Nat) : Int) := by
  have hp : 2 ^ j ≤ 2 ^ k.bits := Nat.pow_le_pow_right (by decide) hj
  have ha' : a % 2 ^ k.bits = a := Nat.mod_eq_of_lt (Nat.lt_of_lt_of_le ha hp)
  have hb' : b % 2 ^ k.bits = b := Nat.mod_eq_of_lt (Nat.lt_of_lt_of_le hb hp)
  simp only [Go.bits, BitVec.ofInt_natCast, BitVec.toNat_xor, BitVec.toNat_ofNat, ha', hb']
  exact hk _ (Int.natCast_nonneg _) (by exact_mod_cast (Nat.xor_lt_two_pow ha hb))
theorem xor64_bd (x y : Int) (hx : 0 ≤ x ∧ x < 4611686018427387904) (hy : 0 ≤ y ∧ y < 4611686018427387904) : 0 ≤ Go.bits .xor .i64 x y ∧ Go.bits .xor .i64 x y < 4611686018427387904 := by
  obtain ⟨a, rfl⟩ := Int.eq_ofNat_of_zero_le hx.1
  obtain ⟨b, rfl⟩ := Int.eq_ofNat_of_zero_le hy.1
  rw [bits_xor_nat .i64 62 (by decide) (fun n h0 h1 => by rw [IntKind.wrap_i64]; omega) a b (by omega) (by omega)]
  have := Nat.xor_lt_two_pow (x := a) (y := b) (n := 62) (by omega) (by omega)
  omega
theorem bt_bd (s : ByteArray) (i : Int) : 0 ≤ bt s i ∧ bt s i < 256 := by
  unfold bt
  split
  · rename_i h
    have := (s[i.toNat]'h).toNat_lt
    omega
  · omega
theorem strOfNums_size (xs : List Int) : (strOfNums xs).size = xs.length := by simp [strOfNums, ByteArray.size]
theorem rd_bd (l : List Int) (h : ∀ x ∈ l, 0 ≤ x ∧ x < 256) (i : Int) : 0 ≤ rd l i ∧ rd l i < 256 := by
  unfold rd
  simp only [List.getD]
  cases e : l[i.toNat]? with
  | none => simp
  | some x => exact h x (List.mem_of_getElem? e)
theorem wf_u8 {l : List Int} (h : ∀ x ∈ l, (Lit.int .u8 x).wf = true) : ∀ x ∈ l, 0 ≤ x ∧ x < 256 := by
  intro x hx
  have := h x hx
  have e1 : IntKind.u8.min = 0 := by decide
  have e2 : IntKind.u8.max = 255 := by decide
  simp [Lit.wf, e1, e2] at this
  omega
end Go.Proofs.Ytkoimmeghdbodaa.Pure
namespace Go.Proofs.Ytkoimmeghdbodaa.Pure
open Go.RowKit Go.Proofs.Ytkoimmeghdbodaa.Print Go.Proofs.YtkoimmeghdbodaaW.PrintWords
theorem Ev.next {α : Type} {g : Nat → Option α} {r : α} (k : Ev (fun n => g (n + 1)) r) : Ev g r := Ev.step (fun _ => rfl) k
structure Code (b : List Int) : Prop where
  byte : ∀ x ∈ b, 0 ≤ x ∧ x < 256
  len : b.length ≤ 2000
theorem tmod_bd {x n : Int} (hx : 0 ≤ x) (hn : 0 < n) : 0 ≤ Int.tmod x n ∧ Int.tmod x n < n :=
  ⟨Int.tmod_nonneg n hx, Int.tmod_lt_of_pos x hn⟩
theorem pick_ev {b : List Int} (hb : Code b) (p n : Int) (hp : 0 ≤ p ∧ p ≤ 1099511627776) (hn : n ≤ 1099511627776) :
    ∃ r, Ev (fun k => spec_l6Rd_pick.f k b p n) (r, p + 1) ∧ 0 ≤ r ∧ (1 ≤ n → r < n) ∧ (n < 1 → r = 0) := by
  have e1 : wrap64 (p + 1) = p + 1 := wrap_ok (by omega)
  have e2 : wrap64 (p + 1 - 1) = p := by rw [wrap_ok (by omega)]; omega
  unfold spec_l6Rd_pick.f
  simp only [e1]
  by_cases h1 : n < 1
  · refine ⟨0, Ev.pos h1 (Ev.next ?_), by omega, by omega, by omega⟩
    simp only [spec_l6Rd_pick.j0]
    exact Ev.pos trivial (Ev.ret rfl)
  · by_cases h0 : (b.length : Int) = 0
    · refine ⟨0, Ev.neg h1 (Ev.next ?_), by omega, by omega, by omega⟩
      simp only [spec_l6Rd_pick.j0]
      exact Ev.pos (by simpa using h0) (Ev.ret rfl)
    · have h0' : ¬ (((b.length : Int) == 0) = true) := by simpa using h0
      have hl : 0 < (b.length : Int) := by omega
      by_cases h2 : p < (b.length : Int)
      · have hr := rd_bd b hb.byte p
        have e3 : wrap64 (rd b p) = rd b p := wrap_ok (by omega)
        have hm := tmod_bd hr.1 (show 0 < n by omega)
        refine ⟨Int.tmod (rd b p) n, Ev.neg h1 (Ev.next ?_), hm.1, fun _ => hm.2, by omega⟩
        simp only [spec_l6Rd_pick.j0, e2, e3]
        exact Ev.neg h0' (Ev.pos h2 (Ev.pos hp.1 (Ev.neg (by omega) (Ev.ret rfl))))
      · have hm1 := tmod_bd hp.1 hl
        have e3 : wrap64 (p * 7) = p * 7 := wrap_ok (by omega)
        have e4 : wrap64 (p * 7 + 3) = p * 7 + 3 := wrap_ok (by omega)
        have hm2 := tmod_bd (x := p * 7 + 3) (by omega) hl
        have hr1 := rd_bd b hb.byte (Int.tmod p (b.length : Int))
        have hr2 := rd_bd b hb.byte (Int.tmod (p * 7 + 3) (b.length : Int))
        generalize hg1 : rd b (Int.tmod p (b.length : Int)) = r1 at hr1
        generalize hg2 : rd b (Int.tmod (p * 7 + 3) (b.length : Int)) = r2 at hr2
        have hd : 0 ≤ Int.tdiv p (b.length : Int) ∧ Int.tdiv p (b.length : Int) ≤ p := by
          rw [Int.tdiv_eq_ediv_of_nonneg hp.1]
          exact ⟨Int.ediv_nonneg hp.1 (by omega), Int.ediv_le_self _ hp.1⟩
        generalize hg3 : Int.tdiv p (b.length : Int) = dd at hd
        have e5 : wrap64 r1 = r1 := wrap_ok (by omega)
        have e6 : wrap64 r2 = r2 := wrap_ok (by omega)
        have e7 : wrap64 (r1 * 131) = r1 * 131 := wrap_ok (by omega)
        have e8 : wrap64 (r2 * 1117) = r2 * 1117 := wrap_ok (by omega)
        have e9 : wrap64 (r1 * 131 + r2 * 1117) = r1 * 131 + r2 * 1117 := wrap_ok (by omega)
        have e10 : wrap64 (p * 29) = p * 29 := wrap_ok (by omega)
        have e11 : wrap64 (r1 * 131 + r2 * 1117 + p * 29) = r1 * 131 + r2 * 1117 + p * 29 := wrap_ok (by omega)
        have e12 : wrap64 dd = dd := wrap_ok (by omega)
        have e13 : wrap64 (dd * 53) = dd * 53 := wrap_ok (by omega)
        obtain ⟨X, hX⟩ : ∃ X, X = r1 * 131 + r2 * 1117 + p * 29 + dd * 53 := ⟨_, rfl⟩
        have hXb : 0 ≤ X ∧ X < 4611686018427387904 := by omega
        have e14 : wrap64 X = X := wrap_ok (by omega)
        have hdX : 0 ≤ Int.tdiv X 64 ∧ Int.tdiv X 64 < 4611686018427387904 := by
          rw [Int.tdiv_eq_ediv_of_nonneg hXb.1]
          omega
        have e15 : wrap64 (Int.tdiv X 64) = Int.tdiv X 64 := wrap_ok (by omega)
        have hx := xor64_bd X (Int.tdiv X 64) hXb hdX
        have hm := tmod_bd hx.1 (show 0 < n by omega)
        refine ⟨Int.tmod (Go.bits .xor .i64 X (Int.tdiv X 64)) n, Ev.neg h1 (Ev.next ?_), hm.1, fun _ => hm.2, by omega⟩
        simp only [spec_l6Rd_pick.j0, e2, e3, e4, hg1, hg2, hg3, e5, e6, e7, e8, e9, e10, e11, e12, e13, ← hX, e14, e15]
        exact Ev.neg h0' (Ev.neg h2 (Ev.neg h0 (Ev.pos hm1.1 (Ev.pos hm1.2 (Ev.pos hm2.1 (Ev.pos hm2.2 (Ev.neg (by omega) (Ev.ret rfl))))))))
theorem open_ev (l : List Int) (h : ∀ x ∈ l, (Lit.int .u8 x).wf = true) : ∃ b, spec_l6Open.f l = some (b, 0) ∧ Code b := by
  have hb := wf_u8 h
  unfold spec_l6Open.f
  by_cases h1 : (l.length : Int) > 2000
  · rw [if_pos h1, if_pos (by omega)]
    exact ⟨_, rfl, fun x hx => hb x (List.mem_of_mem_take hx), by rw [List.length_take]; omega⟩
  · rw [if_neg h1]
    exact ⟨_, rfl, hb, by omega⟩
theorem text_l0_ev {b : List Int} (hb : Code b) (d : Nat) : ∀ (xs : List Int) (p : Int), xs.length + d ≤ 100 → 0 ≤ p → p + 2 * d ≤ 1099511627776 →
    ∃ (t : ByteArray) (q : Int), Ev (fun k => spec_l71Text.l0 k xs (d : Int) b p) (t, q) ∧ t.size = xs.length + d ∧ p ≤ q ∧ q ≤ p + 2 * d := by
  induction d with
  | zero =>
    intro xs p _ _ _
    refine ⟨strOfNums xs, p, Ev.next ?_, by rw [strOfNums_size]; omega, by omega, by omega⟩
    simp only [spec_l71Text.l0]
    exact Ev.neg (by simp) (Ev.ret rfl)
  | succ d ih =>
    intro xs p hx hp hp2
    obtain ⟨r1, h1, h1a, h1b, _⟩ := pick_ev hb p 6 (by omega) (by omega)
    obtain ⟨r2, h2, h2a, h2b, _⟩ := pick_ev hb (p + 1) 3 (by omega) (by omega)
    obtain ⟨t, q, h3, h4, h5, h6⟩ := ih (xs ++ [(rd [97, 98, 122, 0, 255, 128] r1 + r2 % 256) % 256]) (p + 1 + 1) (by simp; omega) (by omega) (by omega)
    have e : wrap64 (((d + 1 : Nat) : Int) - 1) = (d : Int) := by rw [wrap_ok (by omega)]; omega
    refine ⟨t, q, Ev.next ?_, by rw [h4]; simp; omega, by omega, by omega⟩
    simp only [spec_l71Text.l0, e]
    refine Ev.pos (by omega) (Ev.take rfl (Ev.bind h1 ?_))
    refine Ev.pos h1a (Ev.pos (by simp; omega) (Ev.bind h2 ?_))
    exact Ev.pos (by omega) h3
theorem text_ev {b : List Int} (hb : Code b) (p most : Int) (hp : 0 ≤ p ∧ p ≤ 1000000000) (hm : 0 ≤ most ∧ most ≤ 50) :
    ∃ (t : ByteArray) (q : Int), Ev (fun k => spec_l71Text.f k b p most) (t, q) ∧ (t.size : Int) ≤ most ∧ p ≤ q ∧ q ≤ p + 2 * most + 1 := by
  have e : wrap64 (most + 1) = most + 1 := wrap_ok (by omega)
  obtain ⟨r, h1, h1a, h1b, _⟩ := pick_ev hb p (most + 1) (by omega) (by omega)
  have h1b := h1b (by omega)
  obtain ⟨m, rfl⟩ := Int.eq_ofNat_of_zero_le h1a
  obtain ⟨t, q, h3, h4, h5, h6⟩ := text_l0_ev hb m [] (p + 1) (by simp; omega) (by omega) (by omega)
  simp only [List.length_nil, Nat.zero_add] at h4
  refine ⟨t, q, ?_, by omega, by omega, by omega⟩
  unfold spec_l71Text.f
  simp only [e]
  exact Ev.bind h1 h3
end Go.Proofs.Ytkoimmeghdbodaa.Pure
namespace Go.Proofs.Ytkoimmeghdbodaa.Pure
open Go.RowKit Go.Proofs.Ytkoimmeghdbodaa.Print Go.Proofs.YtkoimmeghdbodaaW.PrintWords
theorem l6In_eq (n lo hi : Int) : spec_l6In.f n lo hi = some (decide (lo ≤ n ∧ n ≤ hi)) := by
  unfold spec_l6In.f
  by_cases h : n ≥ lo
  · rw [if_pos h]
    congr 1
    by_cases h2 : n ≤ hi
    · rw [decide_eq_true h2, decide_eq_true ⟨h, h2⟩]
    · rw [decide_eq_false h2, decide_eq_false (fun h3 => h2 h3.2)]
  · rw [if_neg h, decide_eq_false (fun h3 => h h3.1)]
def plAt (l : List S37) (i : Nat) : S37 := l.getD i z37
theorem rd37_nat (l : List S37) (i : Nat) : rd_T37 l (i : Int) = plAt l i := by simp [rd_T37, plAt]
def PlaceIn (n : Int) (p : S37) : Prop := (0 ≤ p.f0 ∧ p.f0 < n) ∧ 0 ≤ p.f1 ∧ p.f1 < 12
def GoodAt (n : Int) (l : List S37) (i : Nat) : Prop := PlaceIn n (plAt l i) ∧ ∀ k, k < i → (plAt l k).f0 ≠ (plAt l i).f0
def AllGood (n : Int) (l : List S37) : Prop := ∀ i, i < l.length → GoodAt n l i
theorem spec_l1_good {n s m : Int} {l : List S37} (hl : l.length ≤ 1099511627776) {i : Nat} (hi : i < l.length) {r : Bool} (k : Ev (fun k => spec_l2Ptr.l0 k n ((i + 1 : Nat) : Int) s m l) r) (d : Nat) :
    ∀ q : Nat, q + d = i → (∀ j, q ≤ j → j < i → (plAt l j).f0 ≠ (plAt l i).f0) → Ev (fun k => spec_l2Ptr.l1 k n (i : Int) (q : Int) s m l) r := by
  have e : wrap64 ((i : Int) + 1) = ((i + 1 : Nat) : Int) := by rw [wrap_ok (by omega)]; omega
  induction d with
  | zero =>
    intro q hq _
    refine Ev.next ?_
    simp only [spec_l2Ptr.l1, e]
    clear e
    exact Ev.neg (by omega) k
  | succ d ih =>
    intro q hq h
    have e2 : wrap64 ((q : Int) + 1) = ((q + 1 : Nat) : Int) := by rw [wrap_ok (by omega)]; omega
    have hih := ih (q + 1) (by omega) (fun j h1 h2 => h j (by omega) h2)
    refine Ev.next ?_
    simp only [spec_l2Ptr.l1, e2, rd37_nat]
    clear e e2
    exact Ev.pos (by omega) (Ev.pos (by omega) (Ev.pos (by omega) (Ev.pos (by omega) (Ev.pos (by omega) (Ev.neg (h q (by omega) (by omega)) hih)))))
theorem spec_l1_bad {n s m : Int} {l : List S37} (hl : l.length ≤ 1099511627776) {i : Nat} (hi : i < l.length) (d : Nat) :
    ∀ q : Nat, q + d = i → (∃ j, q ≤ j ∧ j < i ∧ (plAt l j).f0 = (plAt l i).f0) → Ev (fun k => spec_l2Ptr.l1 k n (i : Int) (q : Int) s m l) false := by
  induction d with
  | zero =>
    rintro q hq ⟨j, h1, h2, _⟩
    omega
  | succ d ih =>
    rintro q hq ⟨j, h1, h2, h3⟩
    have e2 : wrap64 ((q : Int) + 1) = ((q + 1 : Nat) : Int) := by rw [wrap_ok (by omega)]; omega
    refine Ev.next ?_
    simp only [spec_l2Ptr.l1, e2, rd37_nat]
    clear e2
    refine Ev.pos (by omega) (Ev.pos (by omega) (Ev.pos (by omega) (Ev.pos (by omega) (Ev.pos (by omega) (Ev.ite (fun _ => Ev.ret rfl) (fun hne => ih (q + 1) (by omega) ⟨j, ?_, h2, h3⟩))))))
    by_cases e : j = q
    · subst e
      exact absurd h3 hne
    · omega
open Classical in
theorem spec_l0_ev {n s m : Int} (hn : 3 ≤ n ∧ n ≤ 4) {l : List S37} (hl : l.length ≤ 1099511627776) (d : Nat) : ∀ i : Nat, i + d = l.length →
    Ev (fun k => spec_l2Ptr.l0 k n (i : Int) s m l) (decide (∀ j, i ≤ j → j < l.length → GoodAt n l j)) := by
  induction d with
  | zero =>
    intro i hi
    refine Ev.next ?_
    simp only [spec_l2Ptr.l0]
    refine Ev.neg (by omega) (Ev.ret ?_)
    rw [decide_eq_true]
    intro j h1 h2
    omega
  | succ d ih =>
    intro i hi
    have hih := ih (i + 1) (by omega)
    have e : wrap64 (n - 1) = n - 1 := wrap_ok (by omega)
    refine Ev.next ?_
    simp only [spec_l2Ptr.l0, e, rd37_nat]
    clear e
    refine Ev.pos (by omega) (Ev.pos (by omega) (Ev.take (l6In_eq _ _ _) ?_))
    by_cases h1 : 0 ≤ (plAt l i).f0 ∧ (plAt l i).f0 ≤ n - 1
    · refine Ev.pos (by simpa using h1) (Ev.take (l6In_eq _ _ _) (Ev.next ?_))
      simp only [spec_l2Ptr.j2]
      by_cases h2 : 0 ≤ (plAt l i).f1 ∧ (plAt l i).f1 ≤ 11
      · refine Ev.neg (by simpa using h2) ?_
        by_cases h3 : ∀ j, j < i → (plAt l j).f0 ≠ (plAt l i).f0
        · have hg : GoodAt n l i := ⟨⟨⟨h1.1, by omega⟩, h2.1, by omega⟩, h3⟩
          have : (∀ j, i ≤ j → j < l.length → GoodAt n l j) ↔ (∀ j, i + 1 ≤ j → j < l.length → GoodAt n l j) :=
            ⟨fun h j h1 h2 => h j (by omega) h2, fun h j h1 h2 => by
              by_cases e : j = i
              · rw [e]; exact hg
              · exact h j (by omega) h2⟩
          simp only [this]
          exact spec_l1_good hl (by omega) hih i 0 (Nat.zero_add _) (fun j _ h => h3 j h)
        · have hx : ∃ j, 0 ≤ j ∧ j < i ∧ (plAt l j).f0 = (plAt l i).f0 := by
            apply Classical.byContradiction
            intro hc
            exact h3 fun j hj he => hc ⟨j, Nat.zero_le _, hj, he⟩
          rw [decide_eq_false (fun h => h3 (h i (Nat.le_refl _) (by omega)).2)]
          exact spec_l1_bad hl (by omega) i 0 (Nat.zero_add _) hx
      · refine Ev.pos (by rw [decide_eq_false h2]; rfl) (Ev.ret ?_)
        rw [decide_eq_false]
        intro h
        have := (h i (Nat.le_refl _) (by omega)).1.2
        exact h2 ⟨this.1, by omega⟩
    · refine Ev.neg (by simpa using h1) (Ev.next ?_)
      simp only [spec_l2Ptr.j2]
      refine Ev.pos trivial (Ev.ret ?_)
      rw [decide_eq_false]
      intro h
      have := (h i (Nat.le_refl _) (by omega)).1.1
      exact h1 ⟨this.1, by omega⟩
theorem placeOk_eq (p : S37) (n : Int) [Decidable (PlaceIn n p)] : impl_Place_ok.f p.f0 p.f1 n = some (decide (PlaceIn n p)) := by
  unfold impl_Place_ok.f
  by_cases h1 : p.f0 ≥ 0
  · by_cases h2 : p.f0 < n
    · by_cases h3 : p.f1 ≥ 0
      · rw [if_pos h1, if_pos h2, if_pos h3]
        congr 1
        by_cases h4 : p.f1 < 12
        · rw [decide_eq_true h4, decide_eq_true (show PlaceIn n p from ⟨⟨h1, h2⟩, h3, h4⟩)]
        · rw [decide_eq_false h4, decide_eq_false (fun h : PlaceIn n p => h4 h.2.2)]
      · rw [if_pos h1, if_pos h2, if_neg h3, decide_eq_false (fun h : PlaceIn n p => h3 h.2.1)]
    · rw [if_pos h1, if_neg h2, decide_eq_false (fun h : PlaceIn n p => h2 h.1.2)]
  · rw [if_neg h1, decide_eq_false (fun h : PlaceIn n p => h1 h.1.1)]
theorem any_take (l : List S37) (i : Nat) (hi : i ≤ l.length) (x : Int) : ((l.take i).any fun y => y.f0 == x) = true ↔ ∃ j, j < i ∧ (plAt l j).f0 = x := by
  rw [List.any_eq_true]
  constructor
  · rintro ⟨y, hy, he⟩
    obtain ⟨j, hj, rfl⟩ := List.getElem_of_mem hy
    simp only [List.length_take] at hj
    refine ⟨j, by omega, ?_⟩
    have hjl : j < l.length := by omega
    simpa [plAt, List.getD, hjl] using he
  · rintro ⟨j, hj, he⟩
    have hjl : j < l.length := by omega
    refine ⟨l[j], ?_, by simpa [plAt, List.getD, hjl] using he⟩
    rw [List.mem_take_iff_getElem]
    exact ⟨j, by omega, rfl⟩
open Classical in
theorem impl_l0_ev {n s m : Int} {l : List S37} (hl : l.length ≤ 1099511627776) (d : Nat) : ∀ i : Nat, i + d = l.length →
    Ev (fun k => impl_PtrOk.l0 k n l (l.length : Int) (i : Int) s m l) (decide (∀ j, i ≤ j → j < l.length → GoodAt n l j)) := by
  induction d with
  | zero =>
    intro i hi
    refine Ev.next ?_
    simp only [impl_PtrOk.l0]
    refine Ev.neg (by omega) (Ev.ret ?_)
    rw [decide_eq_true]
    intro j h1 h2
    omega
  | succ d ih =>
    intro i hi
    have hih := ih (i + 1) (by omega)
    have e : wrap64 ((i : Int) + 1) = ((i + 1 : Nat) : Int) := by rw [wrap_ok (by omega)]; omega
    refine Ev.next ?_
    simp only [impl_PtrOk.l0, e, rd37_nat, Int.toNat_natCast]
    clear e
    refine Ev.pos (by omega) (Ev.pos (by omega) (Ev.pos (by omega) (Ev.take (placeOk_eq _ _) ?_)))
    by_cases h1 : PlaceIn n (plAt l i)
    · refine Ev.pos (by simpa using h1) (Ev.pos (by omega) (Ev.take rfl ?_))
      by_cases h2 : ∃ j, j < i ∧ (plAt l j).f0 = (plAt l i).f0
      · refine Ev.pos ((any_take l i (by omega) _).2 h2) (Ev.ret ?_)
        rw [decide_eq_false]
        intro h
        obtain ⟨j, hj, he⟩ := h2
        exact (h i (Nat.le_refl _) (by omega)).2 j hj he
      · refine Ev.neg (fun h => h2 ((any_take l i (by omega) _).1 h)) ?_
        have hg : GoodAt n l i := ⟨h1, fun j hj he => h2 ⟨j, hj, he⟩⟩
        have : (∀ j, i ≤ j → j < l.length → GoodAt n l j) ↔ (∀ j, i + 1 ≤ j → j < l.length → GoodAt n l j) :=
          ⟨fun h j h1 h2 => h j (by omega) h2, fun h j h1 h2 => by
            by_cases e : j = i
            · rw [e]; exact hg
            · exact h j (by omega) h2⟩
        simp only [this]
        exact hih
    · refine Ev.neg (by simpa using h1) (Ev.ret ?_)
      rw [decide_eq_false]
      intro h
      exact h1 (h i (Nat.le_refl _) (by omega)).1
def PtrGood (n s m : Int) (l : List S37) : Prop := (s = 0 ∧ m = 0 ∧ l.length = 0) ∨ ((1 ≤ s ∧ s ≤ 3 * (n - 1)) ∧ (0 ≤ m ∧ m ≤ 1000000000) ∧ (l.length : Int) = (s + 2) / 3 + 1 ∧ AllGood n l)
theorem cols_eq {s : Int} (h : 0 ≤ s ∧ s ≤ 1099511627776) : wrap64 (Int.tdiv (wrap64 ((wrap64 (s + 3)) - 1)) 3) = (s + 2) / 3 := by
  rw [wrap_ok (x := s + 3) (by omega), wrap_ok (x := s + 3 - 1) (by omega), Int.tdiv_eq_ediv_of_nonneg (by omega), wrap_ok (by omega)]
  omega
theorem most_eq {n : Int} (hn : 3 ≤ n ∧ n ≤ 4) : wrap64 (3 * (mn 3 (wrap64 (n - 1)))) = 3 * (n - 1) := by
  rw [wrap_ok (x := n - 1) (by omega)]
  have : mn 3 (n - 1) = n - 1 := by unfold mn; split <;> omega
  rw [this, wrap_ok (by omega)]
open Classical in
noncomputable def ptrB (n s m : Int) (l : List S37) : Bool := decide ((3 ≤ n ∧ n ≤ 4) ∧ PtrGood n s m l)
open Classical in
theorem spec_l2Ptr_ev {n : Int} (hn : 3 ≤ n ∧ n ≤ 4) (s m : Int) (l : List S37) (hl : l.length ≤ 1099511627776) : Ev (fun k => spec_l2Ptr.f k n s m l) (decide (PtrGood n s m l)) := by
  unfold spec_l2Ptr.f
  have bad : ∀ h : ¬ PtrGood n s m l, Ev (fun k => spec_l2Ptr.j0 k n true s m l) (decide (PtrGood n s m l)) := by
    intro h
    refine Ev.next ?_
    simp only [spec_l2Ptr.j0]
    exact Ev.pos trivial (Ev.ret (decide_eq_false h).symm)
  by_cases h0 : s = 0
  · refine Ev.pos h0 ?_
    by_cases hm : m = 0
    · refine Ev.pos hm (Ev.ret ?_)
      by_cases hz : l.length = 0
      · rw [decide_eq_true (show PtrGood n s m l from Or.inl ⟨h0, hm, hz⟩)]
        simp [hz]
      · rw [decide_eq_false]
        · simp only [beq_eq_false_iff_ne]
          omega
        · rintro (h | h)
          · exact hz h.2.2
          · omega
    · refine Ev.neg hm (Ev.ret ?_)
      rw [decide_eq_false]
      rintro (h | h)
      · exact hm h.2.1
      · omega
  · refine Ev.neg h0 ?_
    rw [most_eq hn]
    refine Ev.take (l6In_eq _ _ _) ?_
    by_cases h1 : 1 ≤ s ∧ s ≤ 3 * (n - 1)
    · refine Ev.pos (by simpa using h1) (Ev.take (l6In_eq _ _ _) ?_)
      by_cases h2 : 0 ≤ m ∧ m ≤ 1000000000
      · refine Ev.pos (by simpa using h2) (Ev.take rfl ?_)
        rw [cols_eq (by omega), wrap_ok (x := (s + 2) / 3 + 1) (by omega)]
        by_cases h3 : (l.length : Int) = (s + 2) / 3 + 1
        · refine Ev.next ?_
          simp only [spec_l2Ptr.j0]
          refine Ev.neg (by simp [h3]) ?_
          have := spec_l0_ev (s := s) (m := m) hn hl l.length 0 (Nat.zero_add _)
          have e : (∀ j, 0 ≤ j → j < l.length → GoodAt n l j) ↔ PtrGood n s m l :=
            ⟨fun h => Or.inr ⟨h1, h2, h3, fun i hi => h i (Nat.zero_le _) hi⟩, fun h j _ hj => by
              rcases h with h | h
              · omega
              · exact h.2.2.2 j hj⟩
          simp only [e] at this
          exact this
        · have : ((l.length : Int) != (s + 2) / 3 + 1) = true := by simpa using h3
          rw [this]
          exact bad (by
            rintro (h | h)
            · exact h0 h.1
            · exact h3 h.2.2.1)
      · exact Ev.neg (by simpa using h2) (bad (by
          rintro (h | h)
          · exact h0 h.1
          · exact h2 h.2.1))
    · exact Ev.neg (by simpa using h1) (bad (by
        rintro (h | h)
        · exact h0 h.1
        · exact h1 h.1))
open Classical in
theorem specPtr_ev (n s m : Int) (l : List S37) (hl : l.length ≤ 1099511627776) : Ev (fun k => spec_PtrOk.f k n s m l) (ptrB n s m l) := by
  unfold spec_PtrOk.f spec_l2Disks.f ptrB
  refine Ev.take (a := decide (3 ≤ n ∧ n ≤ 4)) (by rw [l6In_eq]; rfl) ?_
  by_cases hn : 3 ≤ n ∧ n ≤ 4
  · refine Ev.pos (by simpa using hn) (Ev.bind (spec_l2Ptr_ev hn s m l hl) (Ev.ret ?_))
    simp [hn]
  · refine Ev.neg (by simpa using hn) (Ev.ret ?_)
    rw [decide_eq_false (fun h => hn h.1)]
open Classical in
theorem implPtr_ev (n s m : Int) (l : List S37) (hl : l.length ≤ 1099511627776) : Ev (fun k => impl_PtrOk.f k n s m l) (ptrB n s m l) := by
  unfold impl_PtrOk.f ptrB
  refine Ev.take (a := decide (3 ≤ n ∧ n ≤ 4)) (by
    unfold impl_isPool.f
    by_cases h : n ≥ 3
    · rw [if_pos h]
      congr 1
      by_cases h2 : n ≤ 4
      · rw [decide_eq_true h2, decide_eq_true ⟨h, h2⟩]
      · rw [decide_eq_false h2, decide_eq_false (fun h3 => h2 h3.2)]
    · rw [if_neg h, decide_eq_false (fun h3 => h h3.1)]) ?_
  by_cases hn : 3 ≤ n ∧ n ≤ 4
  · refine Ev.pos (by simpa using hn) ?_
    have bad : ∀ h : ¬ PtrGood n s m l, Ev (fun k => impl_PtrOk.j0 k n true s m l) (decide ((3 ≤ n ∧ n ≤ 4) ∧ PtrGood n s m l)) := by
      intro h
      refine Ev.next ?_
      simp only [impl_PtrOk.j0]
      exact Ev.pos trivial (Ev.ret (decide_eq_false (fun hh => h hh.2)).symm)
    have hz : impl_Ptr_none.f s m l = some (decide (s = 0 ∧ m = 0 ∧ l.length = 0)) := by
      unfold impl_Ptr_none.f
      by_cases h1 : s = 0
      · by_cases h2 : m = 0
        · rw [if_pos h1, if_pos h2]
          congr 1
          by_cases h3 : l.length = 0
          · rw [decide_eq_true ⟨h1, h2, h3⟩]
            simp [h3]
          · rw [decide_eq_false (fun h => h3 h.2.2)]
            simp only [beq_eq_false_iff_ne]
            omega
        · rw [if_pos h1, if_neg h2, decide_eq_false (fun h => h2 h.2.1)]
      · rw [if_neg h1, decide_eq_false (fun h => h1 h.1)]
    refine Ev.take hz ?_
    by_cases h0 : s = 0 ∧ m = 0 ∧ l.length = 0
    · exact Ev.pos (by simpa using h0) (Ev.ret (decide_eq_true ⟨hn, Or.inl h0⟩).symm)
    · refine Ev.neg (by simpa using h0) ?_
      refine Ev.ite (fun h1 => bad (by
        rintro (h | h)
        · exact h0 h
        · omega)) (fun h1 => ?_)
      refine Ev.take (a := 3 * (n - 1)) (by unfold impl_textMost.f; rw [most_eq hn]) ?_
      refine Ev.ite (fun h2 => bad (by
        rintro (h | h)
        · exact h0 h
        · omega)) (fun h2 => ?_)
      refine Ev.ite (fun h3 => bad (by
        rintro (h | h)
        · exact h0 h
        · omega)) (fun h3 => ?_)
      refine Ev.ite (fun h4 => bad (by
        rintro (h | h)
        · exact h0 h
        · omega)) (fun h4 => ?_)
      refine Ev.take (a := (s + 2) / 3) (by unfold impl_columns.f; rw [cols_eq (by omega)]) ?_
      rw [wrap_ok (x := (s + 2) / 3 + 1) (by omega)]
      by_cases h5 : (l.length : Int) = (s + 2) / 3 + 1
      · refine Ev.next ?_
        simp only [impl_PtrOk.j0]
        refine Ev.neg (by simp [h5]) ?_
        have := impl_l0_ev (n := n) (s := s) (m := m) hl l.length 0 (Nat.zero_add _)
        have e : (∀ j, 0 ≤ j → j < l.length → GoodAt n l j) ↔ ((3 ≤ n ∧ n ≤ 4) ∧ PtrGood n s m l) :=
          ⟨fun h => ⟨hn, Or.inr ⟨by omega, by omega, h5, fun i hi => h i (Nat.zero_le _) hi⟩⟩, fun h j _ hj => by
            rcases h.2 with h | h
            · omega
            · exact h.2.2.2 j hj⟩
        simp only [e] at this
        exact this
      · have : ((l.length : Int) != (s + 2) / 3 + 1) = true := by simpa using h5
        rw [this]
        exact bad (by
          rintro (h | h)
          · exact h0 h
          · exact h5 h.2.2.1)
  · refine Ev.neg (by simpa using hn) (Ev.ret ?_)
    rw [decide_eq_false (fun h => hn h.1)]
end Go.Proofs.Ytkoimmeghdbodaa.Pure
namespace Go.Proofs.Ytkoimmeghdbodaa.Print
open Go.RowKit Go.Shelf Go.Proofs.YtkoimmeghdbodaaW.PrintWords
attribute [local go_sem] Oper.semAt_some
def Pos (s : ByteArray) : Type := { k : Nat // k < s.size }
def Pos.byte {s : ByteArray} (x : Pos s) : Int := ((s[x.1]'x.2).toNat : Int)
def KC (Bs : Nat) (A B : World) : Prop := ∀ v, A.cell? ⟨Bs, 0, none⟩ = some v → B.cell? ⟨Bs, 0, none⟩ = some v
theorem KC.refl (Bs : Nat) (A : World) : KC Bs A A := fun _ h => h
theorem KC.trans {Bs : Nat} {A B C : World} (h : KC Bs A B) (k : KC Bs B C) : KC Bs A C := fun v hv => k v (h v hv)
theorem KC.set {Bs : Nat} (W : World) (p : Addr) (x : Value) (h : p.block ≠ Bs) : KC Bs W (W.setCell p x) :=
  fun _ hv => (World.cell?_setCell_other W p ⟨Bs, 0, none⟩ x (fun e => h (by rw [e]))).trans hv
def wsum (s : ByteArray) : Nat → Int
  | 0 => 0
  | k + 1 => wsum s k + bt s (k : Int) * (65536 + ((k : Int) + 1))
end Go.Proofs.Ytkoimmeghdbodaa.Print
namespace Go.Proofs.Ytkoimmeghdbodaa.Print
open Go.RowKit Go.Proofs.YtkoimmeghdbodaaW.PrintWords Go.Proofs.YtkoimmeghdbodaaW.PrintLast Go.Proofs.YtkoimmeghdbodaaW.PrintMore
attribute [local go_sem] max2_int min2_int max_two min_two max_three min_three max_four min_four   -- for this text's walks alone
set_option linter.unusedVariables false
set_option linter.unusedSimpArgs false
end Go.Proofs.Ytkoimmeghdbodaa.Print
namespace Go.Proofs.Ytkoimmeghdbodaa.Pure
open Go.RowKit Go.Proofs.Ytkoimmeghdbodaa.Print Go.Proofs.YtkoimmeghdbodaaW.PrintWords
theorem term_bd (s : ByteArray) (i : Nat) (h : i ≤ 2097152) : 0 ≤ bt s (i : Int) * (65536 + ((i : Int) + 1)) ∧ bt s (i : Int) * (65536 + ((i : Int) + 1)) ≤ 255 * (65536 + ((i : Int) + 1)) := by
  have hb := bt_bd s (i : Int)
  exact ⟨Int.mul_nonneg hb.1 (by omega), Int.mul_le_mul_of_nonneg_right (by omega) (by omega)⟩
theorem wsum_bd (s : ByteArray) (k : Nat) (h : k ≤ 9) : 0 ≤ wsum s k ∧ wsum s k ≤ k * 16713975 := by
  induction k with
  | zero => simp [wsum]
  | succ k ih =>
    have := ih (by omega)
    have ht := term_bd s k (by omega)
    simp only [wsum]
    omega
def nine (s : ByteArray) : Nat := min s.size 9
theorem specSum_l0 (s : ByteArray) (d : Nat) : ∀ i : Nat, i + d = nine s → Ev (fun k => spec_SumOf.l0 k s (wsum s i) (i : Int)) (wsum s (nine s)) := by
  induction d with
  | zero =>
    intro i hi
    refine Ev.next ?_
    simp only [spec_SumOf.l0]
    have hi' : i = nine s := by omega
    by_cases h : (i : Int) < (s.size : Int)
    · exact Ev.pos h (Ev.neg (by unfold nine at hi'; omega) (Ev.ret (by rw [hi'])))
    · exact Ev.neg h (Ev.ret (by rw [hi']))
  | succ d ih =>
    intro i hi
    have hn : nine s ≤ 9 ∧ nine s ≤ s.size := by unfold nine; omega
    refine Ev.next ?_
    simp only [spec_SumOf.l0]
    have hb := bt_bd s (i : Int)
    have ht := term_bd s i (by omega)
    have hw := wsum_bd s i (by omega)
    have e1 : wrap64 (bt s (i : Int)) = bt s (i : Int) := wrap_ok (by omega)
    have e2 : wrap64 (65536 + (i : Int)) = 65536 + (i : Int) := wrap_ok (by omega)
    have e3 : wrap64 (65536 + (i : Int) + 1) = 65536 + ((i : Int) + 1) := by rw [wrap_ok (by omega)]; omega
    have e4 : wrap64 (bt s (i : Int) * (65536 + ((i : Int) + 1))) = bt s (i : Int) * (65536 + ((i : Int) + 1)) := wrap_ok (by omega)
    have e5 : wrap64 (wsum s i + bt s (i : Int) * (65536 + ((i : Int) + 1))) = wsum s (i + 1) := by
      rw [wrap_ok (by omega)]
      simp only [wsum]
    have e6 : wrap64 ((i : Int) + 1) = ((i + 1 : Nat) : Int) := by rw [wrap_ok (by omega)]; omega
    simp only [e1, e2, e3, e4, e5, e6]
    clear e1 e2 e3 e4 e5 e6
    exact Ev.pos (by omega) (Ev.pos (by omega) (Ev.pos (by omega) (ih (i + 1) (by omega))))
theorem specSum_ev (s : ByteArray) : Ev (fun k => spec_SumOf.f k s) (wsum s (nine s)) := by
  unfold spec_SumOf.f
  exact specSum_l0 s (nine s) 0 (by omega)
end Go.Proofs.Ytkoimmeghdbodaa.Pure
namespace Go.Proofs.Ytkoimmeghdbodaa.Print
open Go.RowKit Go.Proofs.YtkoimmeghdbodaaW.PrintWords Go.Proofs.YtkoimmeghdbodaaW.PrintLast Go.Proofs.YtkoimmeghdbodaaW.PrintMore
attribute [local go_sem] max2_int min2_int max_two min_two max_three min_three max_four min_four   -- for this text's walks alone
set_option linter.unusedVariables false
set_option linter.unusedSimpArgs false
attribute [local go_sem high] eqA37
end Go.Proofs.Ytkoimmeghdbodaa.Print
namespace Go.Proofs.Ytkoimmeghdbodaa.Pure
open Go.RowKit Go.Proofs.Ytkoimmeghdbodaa.Print Go.Proofs.YtkoimmeghdbodaaW.PrintWords
theorem l11Ptr_ev (s : ByteArray) (l : List S37) (hl : l.length ≤ 1099511627776) : Ev (fun k => spec_l11Ptr.f k s l) ((s.size : Int), wsum s (nine s), l) := by
  unfold spec_l11Ptr.f
  exact Ev.bind (specSum_ev s) (Ev.take rfl (Ev.pos (by simp; omega) (Ev.ret (by simp))))
end Go.Proofs.Ytkoimmeghdbodaa.Pure
namespace Go.Proofs.Ytkoimmeghdbodaa.Pure
open Go.RowKit Go.Proofs.Ytkoimmeghdbodaa.Print Go.Proofs.YtkoimmeghdbodaaW.PrintWords
theorem places_l0 {b : List Int} (hb : Code b) {n c : Int} (hn : 3 ≤ n ∧ n ≤ 4) (hc : c ≤ 50) (x8 : Int) (d : Nat) : ∀ (i : Nat) (l : List S37) (p : Int), (i : Int) + d = c → l.length = i → 0 ≤ p → p + d ≤ 1000000 →
    ∃ (r : List S37) (q : Int), Ev (fun k => spec_l71Places.l0 k n c l x8 (i : Int) b p) (r, q) ∧ (r.length : Int) = c ∧ p ≤ q ∧ q ≤ p + d := by
  induction d with
  | zero =>
    intro i l p hi hl hp0 hp
    refine ⟨l, p, Ev.next ?_, by omega, by omega, by omega⟩
    simp only [spec_l71Places.l0]
    exact Ev.neg (by omega) (Ev.ret rfl)
  | succ d ih =>
    intro i l p hi hl hp0 hp
    have e : wrap64 ((i : Int) + 1) = ((i + 1 : Nat) : Int) := by rw [wrap_ok (by omega)]; omega
    obtain ⟨x, e1, _, _, _⟩ := pick_ev hb p 12 (by omega) (by omega)
    obtain ⟨r, q, e2, h1, h2, h3⟩ := ih (i + 1) (l ++ [(⟨Int.tmod (wrap64 (x8 + (i : Int))) n, x⟩ : S37)]) (p + 1) (by omega) (by simp [hl]) (by omega) (by omega)
    refine ⟨r, q, Ev.next ?_, h1, by omega, by omega⟩
    simp only [spec_l71Places.l0, e]
    clear e
    exact Ev.pos (by omega) (Ev.neg (by omega) (Ev.bind e1 (Ev.pos (by omega) e2)))
theorem places_ev {b : List Int} (hb : Code b) {n c p : Int} (hn : 3 ≤ n ∧ n ≤ 4) (hc : 0 ≤ c ∧ c ≤ 50) (hp : 0 ≤ p ∧ p ≤ 900000) :
    ∃ (r : List S37) (q : Int), Ev (fun k => spec_l71Places.f k b p n c) (r, q) ∧ (r.length : Int) = c ∧ p ≤ q ∧ q ≤ p + 60 := by
  obtain ⟨x, e1, _, _, _⟩ := pick_ev hb p n (by omega) (by omega)
  obtain ⟨c, rfl⟩ := Int.eq_ofNat_of_zero_le hc.1
  obtain ⟨r, q, e2, h1, h2, h3⟩ := places_l0 hb hn hc.2 x c 0 ([] : List S37) (p + 1) (by omega) rfl (by omega) (by omega)
  refine ⟨r, q, ?_, h1, by omega, by omega⟩
  unfold spec_l71Places.f
  exact Ev.bind e1 e2
theorem disks_ev {b : List Int} (hb : Code b) {p : Int} (hp : 0 ≤ p ∧ p ≤ 900000) : ∃ n : Int, Ev (fun k => spec_l71Disks.f k b p) (n, p + 1) ∧ 3 ≤ n ∧ n ≤ 4 := by
  obtain ⟨x, e1, h0, h1, _⟩ := pick_ev hb p 2 (by omega) (by omega)
  have h1 := h1 (by omega)
  have e : wrap64 (3 + x) = 3 + x := wrap_ok (by omega)
  refine ⟨3 + x, ?_, by omega, by omega⟩
  unfold spec_l71Disks.f
  exact Ev.bind e1 (Ev.ret (by rw [e]))
theorem size_k (t : ByteArray) : (t ++ (⟨#[107]⟩ : ByteArray)).size = t.size + 1 := by rw [ByteArray.size_append]; rfl
theorem ptr_ev {b : List Int} (hb : Code b) {n p : Int} (hn : 3 ≤ n ∧ n ≤ 4) (hp : 0 ≤ p ∧ p ≤ 800000) :
    ∃ (s m : Int) (l : List S37) (q : Int), Ev (fun k => spec_l71Ptr.f k b p n) (s, m, l, q) ∧ 2 ≤ l.length ∧ l.length ≤ 5 ∧ p ≤ q ∧ q ≤ p + 90 := by
  have e : wrap64 (3 * (n - 1) - 1) = 3 * (n - 1) - 1 := wrap_ok (by omega)
  obtain ⟨t, q1, e1, ht, h1, h2⟩ := text_ev hb p (3 * (n - 1) - 1) (by omega) (by omega)
  have hz := size_k t
  obtain ⟨l, q2, e2, hl, h3, h4⟩ := places_ev hb (n := n) (c := ((t.size : Int) + 1 + 2) / 3 + 1) (p := q1) hn (by omega) (by omega)
  refine ⟨((t ++ (⟨#[107]⟩ : ByteArray)).size : Int), wsum (t ++ (⟨#[107]⟩ : ByteArray)) (nine (t ++ (⟨#[107]⟩ : ByteArray))), l, q2, ?_, by omega, by omega, by omega, by omega⟩
  unfold spec_l71Ptr.f
  rw [most_eq hn, e]
  refine Ev.bind e1 (Ev.pos (by dsimp only; omega) (Ev.take (a := ((t.size : Int) + 1 + 2) / 3) ?_ ?_))
  · unfold spec_l2Cols.f
    dsimp only
    rw [hz, cols_eq (by omega)]
    rfl
  · rw [wrap_ok (x := ((t.size : Int) + 1 + 2) / 3 + 1) (by omega)]
    exact Ev.bind e2 (Ev.bind (l11Ptr_ev _ l (by omega)) (Ev.ret rfl))
theorem some_ev {b : List Int} (hb : Code b) {n p : Int} (hn : 3 ≤ n ∧ n ≤ 4) (hp : 0 ≤ p ∧ p ≤ 700000) :
    ∃ (s m : Int) (l : List S37) (q : Int), Ev (fun k => spec_l71Some.f k b p n) (s, m, l, q) ∧ l.length ≤ 5 ∧ p ≤ q ∧ q ≤ p + 100 := by
  obtain ⟨r0, e0, _, _, _⟩ := pick_ev hb p 5 (by omega) (by omega)
  unfold spec_l71Some.f
  by_cases c0 : r0 = 0
  · exact ⟨0, 0, [], p + 1, Ev.bind e0 (Ev.pos c0 (Ev.ret rfl)), by simp, by omega, by omega⟩
  · obtain ⟨s, m, l, q1, e1, hl1, hl2, h1, h2⟩ := ptr_ev hb (p := p + 1) hn (by omega)
    obtain ⟨r, e2, h3, h4, _⟩ := pick_ev hb q1 20 (by omega) (by omega)
    have h4 := h4 (by omega)
    by_cases c1 : r = 0
    · obtain ⟨r3, e3, _, _, _⟩ := pick_ev hb (q1 + 1) 14 (by omega) (by omega)
      exact ⟨_, _, _, _, Ev.bind e0 (Ev.neg c0 (Ev.bind e1 (Ev.bind e2 (Ev.pos c1 (Ev.bind e3 (Ev.ret rfl)))))), hl2, by dsimp only; omega, by dsimp only; omega⟩
    · by_cases c2 : r = 1
      · obtain ⟨r3, e3, h5, h6, _⟩ := pick_ev hb (q1 + 1) 3 (by omega) (by omega)
        have h6 := h6 (by omega)
        exact ⟨_, _, _, _, Ev.bind e0 (Ev.neg c0 (Ev.bind e1 (Ev.bind e2 (Ev.neg c1 (Ev.pos c2 (Ev.take rfl (Ev.bind e3 (Ev.pos h5 (Ev.pos (by simp; omega) (Ev.ret rfl)))))))))), hl2, by dsimp only; omega, by dsimp only; omega⟩
      · by_cases c3 : r = 2
        · obtain ⟨r3, e3, h5, h6, _⟩ := pick_ev hb (q1 + 1) 2 (by omega) (by omega)
          have h6 := h6 (by omega)
          exact ⟨_, _, _, _, Ev.bind e0 (Ev.neg c0 (Ev.bind e1 (Ev.bind e2 (Ev.neg c1 (Ev.neg c2 (Ev.pos c3 (Ev.take rfl (Ev.bind e3 (Ev.pos h5 (Ev.pos (by simp; omega) (Ev.pos (by dsimp only; omega) (Ev.ret rfl)))))))))))), by simp; omega, by dsimp only; omega, by dsimp only; omega⟩
        · by_cases c4 : r = 3
          · exact ⟨_, _, _, _, Ev.bind e0 (Ev.neg c0 (Ev.bind e1 (Ev.bind e2 (Ev.neg c1 (Ev.neg c2 (Ev.neg c3 (Ev.pos c4 (Ev.pos (by dsimp only; omega) (Ev.pos (by dsimp only; omega) (Ev.ret rfl)))))))))), by simp; omega, by dsimp only; omega, by dsimp only; omega⟩
          · by_cases c5 : r = 4
            · exact ⟨_, _, _, _, Ev.bind e0 (Ev.neg c0 (Ev.bind e1 (Ev.bind e2 (Ev.neg c1 (Ev.neg c2 (Ev.neg c3 (Ev.neg c4 (Ev.pos c5 (Ev.pos (by dsimp only; omega) (Ev.ret rfl)))))))))), by simp; omega, by dsimp only; omega, by dsimp only; omega⟩
            · exact ⟨_, _, _, _, Ev.bind e0 (Ev.neg c0 (Ev.bind e1 (Ev.bind e2 (Ev.neg c1 (Ev.neg c2 (Ev.neg c3 (Ev.neg c4 (Ev.neg c5 (Ev.ret rfl))))))))), hl2, by dsimp only; omega, by dsimp only; omega⟩
theorem drawPtrOk_ev (l : List Int) (h : ∀ x ∈ l, (Lit.int .u8 x).wf = true) : ∃ (n s m : Int) (r : List S37), Ev (fun k => spec_DrawPtrOk.f k l) (n, s, m, r) ∧ r.length ≤ 5 := by
  obtain ⟨b, hb, hc⟩ := open_ev l h
  obtain ⟨n, e1, hn⟩ := disks_ev hc (p := 0) (by omega)
  obtain ⟨s, m, r, q, e2, hr, h1, h2⟩ := some_ev hc (n := n) (p := 0 + 1) hn (by omega)
  obtain ⟨x, e3, _, _, _⟩ := pick_ev hc q 12 (by omega) (by omega)
  unfold spec_DrawPtrOk.f
  by_cases c0 : x = 0
  · obtain ⟨y, e4, h5, h6, _⟩ := pick_ev hc (q + 1) 3 (by omega) (by omega)
    have h6 := h6 (by omega)
    exact ⟨_, _, _, _, Ev.take hb (Ev.bind e1 (Ev.bind e2 (Ev.bind e3 (Ev.pos c0 (Ev.take rfl (Ev.bind e4 (Ev.pos h5 (Ev.pos (by simp; omega) (Ev.ret rfl))))))))), hr⟩
  · exact ⟨_, _, _, _, Ev.take hb (Ev.bind e1 (Ev.bind e2 (Ev.bind e3 (Ev.neg c0 (Ev.ret rfl))))), hr⟩
theorem lpaPtr_l0 (s m : Int) (l : List S37) (hl : l.length ≤ 1048576) (d : Nat) : ∀ i : Nat, i + d = l.length → Ev (fun k => laws_lpaPtr.l0 k (i : Int) s m l s m l) true := by
  induction d with
  | zero =>
    intro i hi
    refine Ev.next ?_
    simp only [laws_lpaPtr.l0]
    exact Ev.neg (by omega) (Ev.ret rfl)
  | succ d ih =>
    intro i hi
    have e : wrap64 ((i : Int) + 1) = ((i + 1 : Nat) : Int) := by rw [wrap_ok (by omega)]; omega
    have hih := ih (i + 1) (by omega)
    refine Ev.next ?_
    simp only [laws_lpaPtr.l0, e]
    clear e
    exact Ev.pos (by omega) (Ev.pos (by omega) (Ev.pos (by omega) (Ev.neg (by simp) hih)))
theorem lpaPtr_ev (s m : Int) (l : List S37) (hl : l.length ≤ 1048576) : Ev (fun k => laws_lpaPtr.f k s m l s m l) true := by
  unfold laws_lpaPtr.f
  refine Ev.pos rfl (Ev.pos rfl (Ev.next ?_))
  simp only [laws_lpaPtr.j0]
  exact Ev.neg (by simp) (lpaPtr_l0 s m l hl _ 0 (Nat.zero_add _))
end Go.Proofs.Ytkoimmeghdbodaa.Pure
namespace Go.Proofs.Ytkoimmeghdbodaa.Pure
open Go.RowKit Go.Proofs.Ytkoimmeghdbodaa.Print Go.Proofs.YtkoimmeghdbodaaW.PrintWords
theorem apart_l1 {n s m : Int} {l : List S37} (hl : l.length ≤ 5) {i : Nat} (hi : i < l.length) (hg : GoodAt n l i) (k : Ev (fun k => laws_FnPtrApart.l0 k n ((i + 1 : Nat) : Int) s m l) true) (d : Nat) :
    ∀ q : Nat, q + d = i → Ev (fun k => laws_FnPtrApart.l1 k n (i : Int) (q : Int) s m l) true := by
  induction d with
  | zero =>
    intro q hq
    have e : wrap64 ((i : Int) + 1) = ((i + 1 : Nat) : Int) := by rw [wrap_ok (by omega)]; omega
    have hp := hg.1.1
    refine Ev.next ?_
    simp only [laws_FnPtrApart.l1, e, rd37_nat]
    clear e
    exact Ev.neg (by omega) (Ev.pos (by omega) (Ev.pos (by omega) (Ev.neg (by omega) (Ev.neg (by omega) k))))
  | succ d ih =>
    intro q hq
    have e2 : wrap64 ((q : Int) + 1) = ((q + 1 : Nat) : Int) := by rw [wrap_ok (by omega)]; omega
    have hih := ih (q + 1) (by omega)
    refine Ev.next ?_
    simp only [laws_FnPtrApart.l1, e2, rd37_nat]
    clear e2
    exact Ev.pos (by omega) (Ev.pos (by omega) (Ev.pos (by omega) (Ev.pos (by omega) (Ev.pos (by omega) (Ev.neg (hg.2 q (by omega)) hih)))))
theorem apart_l0 {n s m : Int} (hn : 3 ≤ n ∧ n ≤ 4) (hs : 1 ≤ s ∧ s ≤ 3 * (n - 1)) {l : List S37} (hl : l.length ≤ 5) (hc : (l.length : Int) = (s + 2) / 3 + 1) (hg : AllGood n l) (d : Nat) :
    ∀ i : Nat, i + d = l.length → Ev (fun k => laws_FnPtrApart.l0 k n (i : Int) s m l) true := by
  induction d with
  | zero =>
    intro i hi
    refine Ev.next ?_
    simp only [laws_FnPtrApart.l0]
    rw [cols_eq (by omega), wrap_ok (x := (s + 2) / 3 + 1) (by omega)]
    refine Ev.neg (by omega) (Ev.pos hc (Ev.ret ?_))
    rw [decide_eq_true]
    omega
  | succ d ih =>
    intro i hi
    refine Ev.next ?_
    simp only [laws_FnPtrApart.l0]
    exact Ev.pos (by omega) (apart_l1 hl (by omega) (hg i (by omega)) (ih (i + 1) (by omega)) i 0 (Nat.zero_add _))
open Classical in
theorem FnPtrApart : laws_FnPtrApart.Pure := by
  intro l _ _ hw
  apply Ev.rounds
  unfold laws_FnPtrApart.f
  refine Ev.ite (fun _ => Ev.ret rfl) (fun _ => ?_)
  obtain ⟨n, s, m, r, hd, hr⟩ := drawPtrOk_ev l hw
  refine Ev.bind hd (Ev.bind (implPtr_ev n s m r (by omega)) (Ev.bind (specPtr_ev n s m r (by omega)) (Ev.neg (by simp) (Ev.next ?_))))
  simp only [laws_FnPtrApart.j0]
  by_cases hok : (3 ≤ n ∧ n ≤ 4) ∧ PtrGood n s m r
  · have hb : ptrB n s m r = true := decide_eq_true hok
    rw [hb]
    refine Ev.neg (by simp) ?_
    obtain ⟨hn, hg⟩ := hok
    by_cases h0 : s = 0
    · refine Ev.pos h0 ?_
      rcases hg with ⟨_, h1, h2⟩ | hg
      · obtain rfl := List.eq_nil_of_length_eq_zero h2
        subst h0 h1
        exact Ev.bind (lpaPtr_ev 0 0 [] (by simp)) (Ev.ret rfl)
      · omega
    · refine Ev.neg h0 ?_
      rcases hg with hg | ⟨h1, _, h3, h4⟩
      · exact absurd hg.1 h0
      · exact apart_l0 hn h1 hr h3 h4 r.length 0 (Nat.zero_add _)
  · have hb : ptrB n s m r = false := decide_eq_false hok
    rw [hb]
    exact Ev.pos rfl (Ev.bind (specPtr_ev n s m r (by omega)) (Ev.ret (by rw [hb]; rfl)))
end Go.Proofs.Ytkoimmeghdbodaa.Pure
namespace Go.Proofs.Ytkoimmeghdbodaa.fnPtrApart
open Go.ChangeShapes Go.WideShapes Go.ChangeAt Go.RowKit
open Go.ChangeMaps (open_string shut_string)
set_option linter.unusedVariables false
theorem own : ownKnob Try.prog.godebug = none := by kernel_rfl
theorem laidOut : laidOutB Try.prog = true := by kernel_rfl
def IsRow (k : IntKind) (w : World) (a : Option Addr) (len cap : Nat) (zs : List Int) : Prop :=
  (a = none ∧ len = 0 ∧ cap = 0 ∧ zs = []) ∨
  ∃ x, a = some x ∧ len ≤ cap ∧ cap ≤ maxLen ∧ zs.length = cap ∧ (∀ i, i < zs.length → w.cell? (x.add i) = some (.int k (zs.getD i 0))) ∧ ∀ n ∈ zs, (Lit.int k n).wf = true
set_option maxRecDepth 100000 in
theorem lifted (os : Os) (started : os.Started) (H : Type) (enc : TypeId × Value → H) :
    ReturnsInHanded {} Try.checked os 4 .any (Rows.fnPtrApartSpec.pre6 enc Try.prog Try.f4 Rows.fnPtrApartRow.domain false) (Rows.fnPtrApartSpec.post enc Try.prog Try.f4 false true false false) := by
  refine returnsInHanded_of_change_sized (C := Try.checked) own started (by kernel_rfl) Try.func4
    (ChangeSpec.witness6 (enc := enc) (C := Try.checked) false ⟨#[], #[.slice none 0 0], []⟩ 8 (by kernel_rfl) (by kernel_rfl) (by kernel_rfl) (by kernel_rfl)) ?_
  intro W base args ds gs before hval0 hW hcnd hsz0 _
  have hsz : (DataW.weightsEach Try.prog (Try.f4.params.toList ++ Rows.fnPtrApartSpec.plain.varTypes Try.prog) (ds ++ gs)).all (· ≤ reachBytes) = true := hsz0
  have hval : ∀ (j : Nat) t v, Try.f4.params[j]? = some t → args[j]? = some v → Value.okWide Try.prog W .any base t v := hval0
  have hW' := hW
  obtain ⟨p, q, hA0, hV, rfl, hfz, hnd⟩ := hW
  have hA : DataW.TrodAll enc Try.prog W 0 (fun _ => true) true Try.f4.params.toList args.toList ds p := hA0
  rw [Try.params4] at hA hval hsz
  obtain ⟨v0, vs0, d0, ds0, p0, q0, hargs, rfl, rfl, h0, r0⟩ := trodAll_cons hA
  obtain ⟨rfl, rfl, rfl⟩ := trodAll_nil r0
  obtain rfl : args = #[v0] := by cases args; simp_all
  obtain ⟨rfl, rfl⟩ := trodVars_none hV
  obtain ⟨a0, len0, cap0, rfl⟩ := okWide_slice Try.underlying33 (hval 0 33 v0 rfl rfl)
  have k0 := h0
  have lt0 : ∀ x ∈ p0, x.block < W.heap.size := by obtain ⟨m, hm⟩ := k0; exact DataW.trod_lt m _ _ _ hm
  obtain ⟨z0, w0⟩ : ∃ zs, IsRow .u8 W a0 len0 cap0 zs := by
    obtain ⟨fuel, hf⟩ := h0
    rcases open_ints Try.underlying33 Try.underlying5 (by kernel_rfl) hf with ⟨hcs, _⟩ | ⟨x, l, c, zs, hcs, _, hl, hm, hz, _, hcell, hwz⟩
    · simp [Value.cells] at hcs
      obtain ⟨rfl, rfl, rfl⟩ := hcs
      exact ⟨[], .inl ⟨rfl, rfl, rfl, rfl⟩⟩
    · simp [Value.cells] at hcs
      obtain ⟨rfl, rfl, rfl⟩ := hcs
      exact ⟨zs, .inr ⟨_, rfl, hl, hm, by simpa using hz, hcell, hwz⟩⟩
  have y0 : len0 * 1 ≤ 140737488351232 := Go.Proofs.YtkoimmeghdbodaaW.PrintWords.sized_ints hsz (j := 0) (t := 33) rfl rfl Try.underlying33 Try.underlying5 (by kernel_rfl) (by kernel_rfl) h0
  clear hA0 hval0 hsz0 hsz
  refine (Print.laws_FnPtrApart.walk Pure.FnPtrApart a0 len0 cap0 z0 W w0 y0).mono fun e W' ⟨he, bel⟩ => ?_
  subst he
  exact ⟨_, rfl, _, _, _, [], _, [], hW', trodAll_mk1 (shut_bool Try.underlying4 _), (trodAll_cons_mk (Below.trod laidOut (by kernel_rfl) (of_decide_eq_true (by kernel_rfl)) k0 bel lt0) trodAll_mk0), rfl, bel.frame _, fun h => by cases h⟩
theorem over : Rows.fnPtrApartRow.holds Try.pinned (OpenSpec.ofChange Rows.fnPtrApartSpec) :=
  OpenClaim.holds_of_wide 4 Try.f4 rfl rfl rfl rfl rfl rfl rfl ⟨rfl, rfl, rfl, rfl, rfl⟩ rfl rfl rfl rfl rfl (by kernel_rfl) Try.func4 (by kernel_rfl)
    (of_decide_eq_true (by kernel_rfl)) (by unfold Func.isWrapper; first | (rw [if_pos (by decide +kernel)]; kernel_rfl) | (rw [if_neg (by decide +kernel)]; exact ⟨rfl, rfl⟩))
    (fun os started H enc _ => lifted os started H enc)
theorem proved : Rows.FnPtrApartSaid := over
#print axioms proved
end Go.Proofs.Ytkoimmeghdbodaa.fnPtrApart
namespace Go.Proofs.Ytkoimmeghdbodaa
theorem fnPtrApart_holds : Rows.FnPtrApartSaid := fnPtrApart.proved
end Go.Proofs.Ytkoimmeghdbodaa
