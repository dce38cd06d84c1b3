/- Proved, with what follows on it: the row of the law FnSpaceMost. Conditions: the row's alone. Texts of this session and words that the kit's print laid for this seat, merged and cut by shrink.py, a program of this session. -/
import Derived.Test.YtkoimmeghdbodaaZFnSpaceMostD
set_option linter.unusedVariables false
set_option linter.unusedSimpArgs false
namespace Go.Proofs.Ytkoimmeghdbodaa.Print
open Go.RowKit Go.Proofs.YtkoimmeghdbodaaW.PrintWords Go.Proofs.YtkoimmeghdbodaaW.PrintLast Go.Proofs.YtkoimmeghdbodaaW.PrintMore
attribute [local go_sem] max2_int min2_int max_two min_two max_three min_three max_four min_four
def spec_l2Name.l0 : Nat → ByteArray → Int → Option (Bool)
 | 0, _, _ => none
 | k + 1, x0, x3 => if x3 < (x0.size : Int) then (if 0 ≤ x3 then (if (bt x0 x3) < 97 then (some false) else (if (bt x0 x3) > 122 then (some false) else (spec_l2Name.l0 k x0 (wrap64 (x3 + 1))))) else (none)) else (some true)
def spec_l2Name.f (k : Nat) (a0 : ByteArray) : Option (Bool) := (spec_l6In.f (a0.size : Int) 1 3).bind fun t436 => (if t436 = true then (spec_l2Name.l0 k a0 0) else (some false))
set_option maxHeartbeats 8000000 in
set_option maxRecDepth 100000 in
theorem spec_l2Name.calls (k : Nat) (a0 : ByteArray) (r : Bool) (w : World) (h : spec_l2Name.f k a0 = some r) :
  Calls Try.prog 98 #[.string a0] w fun e w' => e = .returned (.bool r) ∧ Drawn0 w w' := by
 have H : ((spec_l6In.f (a0.size : Int) 1 3).bind fun t436 => (if t436 = true then (spec_l2Name.l0 k a0 0) else (some false))) = some r := h
 clear h
 replace H := Option.bind_eq_some_iff.mp H
 obtain ⟨t436, A20, H⟩ := H
 replace H : (if t436 = true then (spec_l2Name.l0 k a0 0) else (some false)) = some r := H
 have A2 := Az.mk A20
 clear A20
 by_cases c3 : t436 = true
 ·subst c3
  have H1 : (spec_l2Name.l0 k a0 0) = some r := by rw [if_pos rfl] at H; exact H
  clear H
  have H := H1
  clear H1
  have H' := Az.mk H
  clear H
  go_enter Try.func98, Try.ntmps98
  go_wp2_with (first | ((with_reducible refine gate_callee (f := 75) rfl ?_); refine zq9 (some 6) rfl rfl Try.func75 (by kernel_rfl) rfl #[.int .i64 (a0.size : Int), .int .i64 1, .int .i64 3] rfl (by (try simp only [List.map_toArray, List.map_cons, List.map_nil]); first | done | rfl | (simp only [List.length_drop, List.length_take]; rfl)) ?_; (with_reducible refine (spec_l6In.calls (a0.size : Int) 1 3 true _ A2.out).mono ?_); rintro e w' ⟨rfl, ⟨nd, rfl⟩⟩; refine ⟨_, rfl, ?_⟩))
  go_loopg [3] k (fun kq v3 w' => ∃ (x3_1 : Int), v3 = .int .i64 x3_1 ∧ Az (spec_l2Name.l0 kq a0 x3_1 = some r) ∧ Az (kq ≤ k) ∧ Drawn0 w w')
  case atStart => exact ⟨(0), (by first | rfl | (simp; done) | (simp [*]; done)), H', ⟨Nat.le_refl _⟩, by repeat (first | exact Drawn0.refl _ | apply Drawn0.step)⟩
  case round =>
   clear H'
   try clear p2
   try clear c3
   obtain ⟨x3_1, rfl, HA, HK1, ⟨m1, rfl⟩⟩ := hrel
   cases gk with
   | zero => exact absurd HA.out (by simp [spec_l2Name.l0])
   | succ k1 =>
    have H := HA.out
    clear HA
    simp only [spec_l2Name.l0] at H
    by_cases c4 : x3_1 < (a0.size : Int)
    ·rw [if_pos c4] at H
     have c4b0 : decide (x3_1 < (a0.size : Int)) = true := decide_eq_true c4
     clear c4
     by_cases c5 : 0 ≤ x3_1
     ·rw [if_pos c5] at H
      have c5b0 : decide (0 ≤ x3_1) = true := decide_eq_true c5
      clear c5
      by_cases c7 : (bt a0 x3_1) < 97
      ·rw [if_pos c7] at H
       have c7b0 : decide ((bt a0 x3_1) < 97) = true := decide_eq_true c7
       clear c7
       obtain rfl := Option.some.inj H
       have p6 : 0 ≤ (x3_1 : Int) := of_decide_eq_true (by first | (with_reducible assumption) | assumption)
       have q6 : x3_1 < (a0.size : Int) := of_decide_eq_true (by first | (with_reducible assumption) | assumption)
       have hx6 := bt_at a0 x3_1
       replace p6 := eq_true p6
       replace q6 := eq_true q6
       go_wp2
       go_ret
       exact ⟨by first | rfl | (simp; done) | (simp [*]; done), by repeat (first | exact Drawn0.refl _ | apply Drawn0.step)⟩
      ·rw [if_neg c7] at H
       have c7b0 : decide ((bt a0 x3_1) < 97) = false := decide_eq_false c7
       clear c7
       by_cases c9 : (bt a0 x3_1) > 122
       ·rw [if_pos c9] at H
        have c9b0 : decide (122 < (bt a0 x3_1)) = true := decide_eq_true c9
        clear c9
        obtain rfl := Option.some.inj H
        have p6 : 0 ≤ (x3_1 : Int) := of_decide_eq_true (by first | (with_reducible assumption) | assumption)
        have q6 : x3_1 < (a0.size : Int) := of_decide_eq_true (by first | (with_reducible assumption) | assumption)
        have hx6 := bt_at a0 x3_1
        replace p6 := eq_true p6
        replace q6 := eq_true q6
        have p8 : 0 ≤ (x3_1 : Int) := of_decide_eq_true (by first | (with_reducible assumption) | assumption)
        have q8 : x3_1 < (a0.size : Int) := of_decide_eq_true (by first | (with_reducible assumption) | assumption)
        have hx8 := bt_at a0 x3_1
        replace p8 := eq_true p8
        replace q8 := eq_true q8
        go_wp2
        go_ret
        exact ⟨by first | rfl | (simp; done) | (simp [*]; done), by repeat (first | exact Drawn0.refl _ | apply Drawn0.step)⟩
       ·rw [if_neg c9] at H
        have c9b0 : decide (122 < (bt a0 x3_1)) = false := decide_eq_false c9
        clear c9
        have H' := Az.mk H
        clear H
        have p6 : 0 ≤ (x3_1 : Int) := of_decide_eq_true (by first | (with_reducible assumption) | assumption)
        have q6 : x3_1 < (a0.size : Int) := of_decide_eq_true (by first | (with_reducible assumption) | assumption)
        have hx6 := bt_at a0 x3_1
        replace p6 := eq_true p6
        replace q6 := eq_true q6
        have p8 : 0 ≤ (x3_1 : Int) := of_decide_eq_true (by first | (with_reducible assumption) | assumption)
        have q8 : x3_1 < (a0.size : Int) := of_decide_eq_true (by first | (with_reducible assumption) | assumption)
        have hx8 := bt_at a0 x3_1
        replace p8 := eq_true p8
        replace q8 := eq_true q8
        go_wp2
        go_roundg k1
        case measure => have := HK1.out; omega
        case rel => exact ⟨(wrap64 (x3_1 + 1)), (by first | rfl | (simp; done) | (simp [*]; done)), H', ⟨by have := HK1.out; omega⟩, by repeat (first | exact Drawn0.refl _ | apply Drawn0.step)⟩
     ·rw [if_neg c5] at H
      exact absurd H (by simp)
    ·rw [if_neg c4] at H
     have c4b0 : decide (x3_1 < (a0.size : Int)) = false := decide_eq_false c4
     clear c4
     obtain rfl := Option.some.inj H
     go_wp2
     go_ret
     exact ⟨by first | rfl | (simp; done) | (simp [*]; done), by repeat (first | exact Drawn0.refl _ | apply Drawn0.step)⟩
 ·replace c3 := Bool.eq_false_iff.mpr c3
  subst c3
  have H1 : (some false) = some r := by rw [if_neg (show ¬ (false = true) by decide)] at H; exact H
  clear H
  have H := H1
  clear H1
  obtain rfl := Option.some.inj H
  go_enter Try.func98, Try.ntmps98
  go_wp2_with (first | ((with_reducible refine gate_callee (f := 75) rfl ?_); refine zq9 (some 6) rfl rfl Try.func75 (by kernel_rfl) rfl #[.int .i64 (a0.size : Int), .int .i64 1, .int .i64 3] rfl (by (try simp only [List.map_toArray, List.map_cons, List.map_nil]); first | done | rfl | (simp only [List.length_drop, List.length_take]; rfl)) ?_; (with_reducible refine (spec_l6In.calls (a0.size : Int) 1 3 false _ A2.out).mono ?_); rintro e w' ⟨rfl, ⟨nd, rfl⟩⟩; refine ⟨_, rfl, ?_⟩))
  go_ret
  exact ⟨by first | rfl | (simp; done) | (simp [*]; done), by repeat (first | exact Drawn0.refl _ | apply Drawn0.step)⟩
end Go.Proofs.Ytkoimmeghdbodaa.Print
namespace Go.Proofs.Ytkoimmeghdbodaa.Print
open Go.RowKit Go.Proofs.YtkoimmeghdbodaaW.PrintWords Go.Proofs.YtkoimmeghdbodaaW.PrintLast Go.Proofs.YtkoimmeghdbodaaW.PrintMore
attribute [local go_sem] max2_int min2_int max_two min_two max_three min_three max_four min_four
attribute [local go_sem high] eqA37
mutual
def spec_l2Same.j0 : Nat → Bool → Int → Int → List (S37) → Int → Int → List (S37) → Option (Bool)
 | 0, _, _, _, _, _, _, _ => none
 | k + 1, x26, x438000, x438001, x438002, x439000, x439001, x439002 => if x26 = true then (some false) else (spec_l2Same.l0 k 0 x438000 x438001 x438002 x439000 x439001 x439002)
def spec_l2Same.l0 : Nat → Int → Int → Int → List (S37) → Int → Int → List (S37) → Option (Bool)
 | 0, _, _, _, _, _, _, _ => none
 | k + 1, x5, x438000, x438001, x438002, x439000, x439001, x439002 => if x5 < (x438002.length : Int) then (if 0 ≤ x5 then (if x5 < (x439002.length : Int) then (if (!(((rd_T37 x438002 x5).f0) == ((rd_T37 x439002 x5).f0)) || (!(((rd_T37 x438002 x5).f1) == ((rd_T37 x439002 x5).f1)))) = true then (some false) else (spec_l2Same.l0 k (wrap64 (x5 + 1)) x438000 x438001 x438002 x439000 x439001 x439002)) else (none)) else (none)) else (some true)
end
def spec_l2Same.f (k : Nat) (a0_0 : Int) (a0_1 : Int) (l0_2 : List (S37)) (a1_0 : Int) (a1_1 : Int) (l1_2 : List (S37)) : Option (Bool) := if a0_0 = a1_0 then (if a0_1 = a1_1 then (spec_l2Same.j0 k ((l0_2.length : Int) != (l1_2.length : Int)) a0_0 a0_1 l0_2 a1_0 a1_1 l1_2) else (spec_l2Same.j0 k true a0_0 a0_1 l0_2 a1_0 a1_1 l1_2)) else (spec_l2Same.j0 k true a0_0 a0_1 l0_2 a1_0 a1_1 l1_2)
set_option maxHeartbeats 8000000 in
set_option maxRecDepth 100000 in
theorem spec_l2Same.calls (k : Nat) (a0_0 : Int) (a0_1 : Int) (A0_2 : Option Addr) (c0_2 : Nat) (l0_2 : List (S37)) (a1_0 : Int) (a1_1 : Int) (A1_2 : Option Addr) (c1_2 : Nat) (l1_2 : List (S37)) (r : Bool) (w : World) (hr0_2 : Kd.C k37 w A0_2 l0_2.length l0_2) (hc0_2 : l0_2.length ≤ c0_2) (hr1_2 : Kd.C k37 w A1_2 l1_2.length l1_2) (hc1_2 : l1_2.length ≤ c1_2) (h : spec_l2Same.f k a0_0 a0_1 l0_2 a1_0 a1_1 l1_2 = some r) :
  Calls Try.prog 99 #[.agg #[.int .i64 a0_0, .int .i64 a0_1, .slice A0_2 l0_2.length c0_2], .agg #[.int .i64 a1_0, .int .i64 a1_1, .slice A1_2 l1_2.length c1_2]] w fun e w' => e = .returned (.bool r) ∧ Below w.heap.size w w' := by
 have hu29 := Try.underlying29
 have hu37 := Try.underlying37
 have HR0_2 := Az.mk hr0_2
 have HC0_2 := Az.mk hc0_2
 clear hr0_2 hc0_2
 have HR1_2 := Az.mk hr1_2
 have HC1_2 := Az.mk hc1_2
 clear hr1_2 hc1_2
 have HB := Az.mk (Below.refl w.heap.size w)
 have H : (if a0_0 = a1_0 then (if a0_1 = a1_1 then (spec_l2Same.j0 k ((l0_2.length : Int) != (l1_2.length : Int)) a0_0 a0_1 l0_2 a1_0 a1_1 l1_2) else (spec_l2Same.j0 k true a0_0 a0_1 l0_2 a1_0 a1_1 l1_2)) else (spec_l2Same.j0 k true a0_0 a0_1 l0_2 a1_0 a1_1 l1_2)) = some r := h
 clear h
 have HC3 := Az.mk H
 clear H
 go_enter Try.func99, Try.ntmps99
 go_upto_region 1 with (first | ((with_reducible refine zqg (N := 2) rfl ?_); (try (refine gate_guard (by rfl) ?_; dsimp only)); refine zqb ?hg (N := 2) ?hd (cs := #[.int .i64 a0_0, .int .i64 a0_1, .slice A0_2 l0_2.length c0_2]) (t := 29) ?hr ?_; (case hd => rfl); (case hg => rfl); (case hr => first | (go_simp; done) | (go_simp; rfl)); intro gb437 hg w4 hbox hb; have n0_ := Az.mk (below_step zB hb); have n1_ := Az.mk (hbox); have n2_ := Az.mk ((by rw [hg]; exact (below_size zB) : w.heap.size ≤ gb437)); have n3_ := Az.mk ((by rw [hg]; exact (below_size zB) : w.heap.size ≤ gb437)); clear HB; have HB := n0_; have BK437 := n1_; have GW437 := n2_; have GE437 := n3_; clear n0_ n1_ n2_ n3_; clear hb hbox hg) | ((with_reducible refine zqg (N := 3) rfl ?_); (try (refine gate_guard (by rfl) ?_; dsimp only)); refine zqb ?hg (N := 3) ?hd (cs := #[.int .i64 a1_0, .int .i64 a1_1, .slice A1_2 l1_2.length c1_2]) (t := 29) ?hr ?_; (case hd => rfl); (case hg => rfl); (case hr => first | (go_simp; done) | (go_simp; rfl)); intro gb438 hg w5 hbox hb; have n0_ := Az.mk (blk_below (g := gb437) (o := .cells #[.int .i64 a0_0, .int .i64 a0_1, .slice A0_2 l0_2.length c0_2] 29 (0, 0)) (by (with_reducible repeat (first | refine zq6 ?_ _ | refine zq8 ?_ | refine zq7 ?_ _)); exact BK437.out) hb); have n1_ := Az.mk (below_step (by repeat (first | (with_reducible first | exact HB.out | apply zq2 | apply zq1 | apply zqd | refine zq3 ?_ GE437.out) | exact HB.out)) hb); have n2_ := Az.mk (hbox); have n3_ := Az.mk ((by rw [hg]; exact (below_size (by repeat (first | (with_reducible first | exact HB.out | apply zq2 | apply zq1 | apply zqd | refine zq3 ?_ GE437.out) | exact HB.out))) : w.heap.size ≤ gb438)); have n4_ := Az.mk ((by rw [hg]; exact (below_size (by repeat (first | (with_reducible first | exact HB.out | apply zq2 | apply zq1 | apply zqd | refine zq3 ?_ GE437.out) | exact HB.out))) : w.heap.size ≤ gb438)); have n5_ := Az.mk ((by rw [hg]; exact Nat.ne_of_lt (blk_lt (g := gb437) (o := .cells #[.int .i64 a0_0, .int .i64 a0_1, .slice A0_2 l0_2.length c0_2] 29 (0, 0)) (by (with_reducible repeat (first | refine zq6 ?_ _ | refine zq8 ?_ | refine zq7 ?_ _)); exact BK437.out)) : gb437 ≠ gb438)); have n6_ := Az.mk ((by rw [hg]; exact Nat.ne_of_gt (blk_lt (g := gb437) (o := .cells #[.int .i64 a0_0, .int .i64 a0_1, .slice A0_2 l0_2.length c0_2] 29 (0, 0)) (by (with_reducible repeat (first | refine zq6 ?_ _ | refine zq8 ?_ | refine zq7 ?_ _)); exact BK437.out)) : gb438 ≠ gb437)); clear BK437; clear HB; have BK437 := n0_; have HB := n1_; have BK438 := n2_; have GW438 := n3_; have GE438 := n4_; have NB437_438 := n5_; have NB438_437 := n6_; clear n0_ n1_ n2_ n3_ n4_ n5_ n6_; clear hb hbox hg))
 repeat (go_quiet (first | ((with_reducible refine zqg (N := 2) rfl ?_); (try (refine gate_guard (by rfl) ?_; dsimp only)); refine zqb ?hg (N := 2) ?hd (cs := #[.int .i64 a0_0, .int .i64 a0_1, .slice A0_2 l0_2.length c0_2]) (t := 29) ?hr ?_; (case hd => rfl); (case hg => rfl); (case hr => first | (go_simp; done) | (go_simp; rfl)); intro gb437 hg w4 hbox hb; have n0_ := Az.mk (below_step zB hb); have n1_ := Az.mk (hbox); have n2_ := Az.mk ((by rw [hg]; exact (below_size zB) : w.heap.size ≤ gb437)); have n3_ := Az.mk ((by rw [hg]; exact (below_size zB) : w.heap.size ≤ gb437)); clear HB; have HB := n0_; have BK437 := n1_; have GW437 := n2_; have GE437 := n3_; clear n0_ n1_ n2_ n3_; clear hb hbox hg) | ((with_reducible refine zqg (N := 3) rfl ?_); (try (refine gate_guard (by rfl) ?_; dsimp only)); refine zqb ?hg (N := 3) ?hd (cs := #[.int .i64 a1_0, .int .i64 a1_1, .slice A1_2 l1_2.length c1_2]) (t := 29) ?hr ?_; (case hd => rfl); (case hg => rfl); (case hr => first | (go_simp; done) | (go_simp; rfl)); intro gb438 hg w5 hbox hb; have n0_ := Az.mk (blk_below (g := gb437) (o := .cells #[.int .i64 a0_0, .int .i64 a0_1, .slice A0_2 l0_2.length c0_2] 29 (0, 0)) (by (with_reducible repeat (first | refine zq6 ?_ _ | refine zq8 ?_ | refine zq7 ?_ _)); exact BK437.out) hb); have n1_ := Az.mk (below_step (by repeat (first | (with_reducible first | exact HB.out | apply zq2 | apply zq1 | apply zqd | refine zq3 ?_ GE437.out) | exact HB.out)) hb); have n2_ := Az.mk (hbox); have n3_ := Az.mk ((by rw [hg]; exact (below_size (by repeat (first | (with_reducible first | exact HB.out | apply zq2 | apply zq1 | apply zqd | refine zq3 ?_ GE437.out) | exact HB.out))) : w.heap.size ≤ gb438)); have n4_ := Az.mk ((by rw [hg]; exact (below_size (by repeat (first | (with_reducible first | exact HB.out | apply zq2 | apply zq1 | apply zqd | refine zq3 ?_ GE437.out) | exact HB.out))) : w.heap.size ≤ gb438)); have n5_ := Az.mk ((by rw [hg]; exact Nat.ne_of_lt (blk_lt (g := gb437) (o := .cells #[.int .i64 a0_0, .int .i64 a0_1, .slice A0_2 l0_2.length c0_2] 29 (0, 0)) (by (with_reducible repeat (first | refine zq6 ?_ _ | refine zq8 ?_ | refine zq7 ?_ _)); exact BK437.out)) : gb437 ≠ gb438)); have n6_ := Az.mk ((by rw [hg]; exact Nat.ne_of_gt (blk_lt (g := gb437) (o := .cells #[.int .i64 a0_0, .int .i64 a0_1, .slice A0_2 l0_2.length c0_2] 29 (0, 0)) (by (with_reducible repeat (first | refine zq6 ?_ _ | refine zq8 ?_ | refine zq7 ?_ _)); exact BK437.out)) : gb438 ≠ gb437)); clear BK437; clear HB; have BK437 := n0_; have HB := n1_; have BK438 := n2_; have GW438 := n3_; have GE438 := n4_; have NB437_438 := n5_; have NB438_437 := n6_; clear n0_ n1_ n2_ n3_ n4_ n5_ n6_; clear hb hbox hg)); go_upto_region 1 with (first | ((with_reducible refine zqg (N := 2) rfl ?_); (try (refine gate_guard (by rfl) ?_; dsimp only)); refine zqb ?hg (N := 2) ?hd (cs := #[.int .i64 a0_0, .int .i64 a0_1, .slice A0_2 l0_2.length c0_2]) (t := 29) ?hr ?_; (case hd => rfl); (case hg => rfl); (case hr => first | (go_simp; done) | (go_simp; rfl)); intro gb437 hg w4 hbox hb; have n0_ := Az.mk (below_step zB hb); have n1_ := Az.mk (hbox); have n2_ := Az.mk ((by rw [hg]; exact (below_size zB) : w.heap.size ≤ gb437)); have n3_ := Az.mk ((by rw [hg]; exact (below_size zB) : w.heap.size ≤ gb437)); clear HB; have HB := n0_; have BK437 := n1_; have GW437 := n2_; have GE437 := n3_; clear n0_ n1_ n2_ n3_; clear hb hbox hg) | ((with_reducible refine zqg (N := 3) rfl ?_); (try (refine gate_guard (by rfl) ?_; dsimp only)); refine zqb ?hg (N := 3) ?hd (cs := #[.int .i64 a1_0, .int .i64 a1_1, .slice A1_2 l1_2.length c1_2]) (t := 29) ?hr ?_; (case hd => rfl); (case hg => rfl); (case hr => first | (go_simp; done) | (go_simp; rfl)); intro gb438 hg w5 hbox hb; have n0_ := Az.mk (blk_below (g := gb437) (o := .cells #[.int .i64 a0_0, .int .i64 a0_1, .slice A0_2 l0_2.length c0_2] 29 (0, 0)) (by (with_reducible repeat (first | refine zq6 ?_ _ | refine zq8 ?_ | refine zq7 ?_ _)); exact BK437.out) hb); have n1_ := Az.mk (below_step (by repeat (first | (with_reducible first | exact HB.out | apply zq2 | apply zq1 | apply zqd | refine zq3 ?_ GE437.out) | exact HB.out)) hb); have n2_ := Az.mk (hbox); have n3_ := Az.mk ((by rw [hg]; exact (below_size (by repeat (first | (with_reducible first | exact HB.out | apply zq2 | apply zq1 | apply zqd | refine zq3 ?_ GE437.out) | exact HB.out))) : w.heap.size ≤ gb438)); have n4_ := Az.mk ((by rw [hg]; exact (below_size (by repeat (first | (with_reducible first | exact HB.out | apply zq2 | apply zq1 | apply zqd | refine zq3 ?_ GE437.out) | exact HB.out))) : w.heap.size ≤ gb438)); have n5_ := Az.mk ((by rw [hg]; exact Nat.ne_of_lt (blk_lt (g := gb437) (o := .cells #[.int .i64 a0_0, .int .i64 a0_1, .slice A0_2 l0_2.length c0_2] 29 (0, 0)) (by (with_reducible repeat (first | refine zq6 ?_ _ | refine zq8 ?_ | refine zq7 ?_ _)); exact BK437.out)) : gb437 ≠ gb438)); have n6_ := Az.mk ((by rw [hg]; exact Nat.ne_of_gt (blk_lt (g := gb437) (o := .cells #[.int .i64 a0_0, .int .i64 a0_1, .slice A0_2 l0_2.length c0_2] 29 (0, 0)) (by (with_reducible repeat (first | refine zq6 ?_ _ | refine zq8 ?_ | refine zq7 ?_ _)); exact BK437.out)) : gb438 ≠ gb437)); clear BK437; clear HB; have BK437 := n0_; have HB := n1_; have BK438 := n2_; have GW438 := n3_; have GE438 := n4_; have NB437_438 := n5_; have NB438_437 := n6_; clear n0_ n1_ n2_ n3_ n4_ n5_ n6_; clear hb hbox hg)))
 (try simp only [Act.put, zs1, zs2, zs3])
 go_cut [26] (fun v26 wc => ∃ (kq : Nat) (x26_2 : Bool), v26 = .bool x26_2 ∧ Az (spec_l2Same.j0 kq x26_2 a0_0 a0_1 l0_2 a1_0 a1_1 l1_2 = some r) ∧ Az (kq ≤ k) ∧ Az (wc.heap[gb437]? = some (.cells #[.int .i64 a0_0, .int .i64 a0_1, (.slice A0_2 l0_2.length c0_2)] 29 (0, 0))) ∧ Az (wc.heap[gb438]? = some (.cells #[.int .i64 a1_0, .int .i64 a1_1, (.slice A1_2 l1_2.length c1_2)] 29 (0, 0))) ∧ Az (Below w.heap.size w wc))
 case first =>
  have H := HC3.out
  clear HC3
  by_cases c6 : a0_0 = a1_0
  ·rw [if_pos c6] at H
   have c6b0 : (a0_0 == a1_0) = true := beq_iff_eq.mpr c6
   have c6b1 : (a0_0 != a1_0) = false := bne_eq_false_iff_eq.mpr c6
   clear c6
   (first | rw [c6b0] | (simp only [i64_w, i32_w]; rw [c6b0]) | skip)
   by_cases c7 : a0_1 = a1_1
   ·rw [if_pos c7] at H
    have c7b0 : (a0_1 == a1_1) = true := beq_iff_eq.mpr c7
    have c7b1 : (a0_1 != a1_1) = false := bne_eq_false_iff_eq.mpr c7
    clear c7
    have H' := Az.mk H
    clear H
    have hnb8 := NB437_438.out
    have hnc8 := NB438_437.out
    have hcz9_0 : w5.cell? ⟨gb437, 0, none⟩ = some (.int .i64 a0_0) := (zq4 BK437.out 0).trans rfl
    have hcz9_1 : w5.cell? ⟨gb437, 1, none⟩ = some (.int .i64 a0_1) := (zq4 BK437.out 1).trans rfl
    have hcz9_2 : w5.cell? ⟨gb437, 2, none⟩ = some (.slice A0_2 l0_2.length c0_2) := (zq4 BK437.out 2).trans rfl
    have hfz9_0 := zq5 BK437.out 0
    have hfz9_1 := zq5 BK437.out 1
    have hfz9_2 := zq5 BK437.out 2
    have hcz10_0 : w5.cell? ⟨gb438, 0, none⟩ = some (.int .i64 a1_0) := (zq4 BK438.out 0).trans rfl
    have hcz10_1 : w5.cell? ⟨gb438, 1, none⟩ = some (.int .i64 a1_1) := (zq4 BK438.out 1).trans rfl
    have hcz10_2 : w5.cell? ⟨gb438, 2, none⟩ = some (.slice A1_2 l1_2.length c1_2) := (zq4 BK438.out 2).trans rfl
    have hfz10_0 := zq5 BK438.out 0
    have hfz10_1 := zq5 BK438.out 1
    have hfz10_2 := zq5 BK438.out 2
    go_wp2
    repeat (go_quiet (fail); try go_wp2)
    go_meet
    case rel => exact ⟨_, (((l0_2.length : Int) != (l1_2.length : Int))), (by first | rfl | (simp; done) | (simp [*]; done)), H', ⟨by first | omega | exact Nat.le_refl _⟩, ⟨by (with_reducible repeat (first | refine zq6 ?_ _ | refine zq8 ?_ | refine zq7 ?_ _)); exact BK437.out⟩, ⟨by (with_reducible repeat (first | refine zq6 ?_ _ | refine zq8 ?_ | refine zq7 ?_ _)); exact BK438.out⟩, ⟨by repeat (first | (with_reducible first | exact HB.out | apply zq2 | apply zq1 | apply zqd | refine zq3 ?_ GE437.out | refine zq3 ?_ GE438.out) | exact HB.out)⟩⟩
   ·rw [if_neg c7] at H
    have c7b0 : (a0_1 == a1_1) = false := beq_eq_false_iff_ne.mpr c7
    have c7b1 : (a0_1 != a1_1) = true := bne_iff_ne.mpr c7
    have H' := Az.mk H
    clear H
    have hnb11 := NB437_438.out
    have hnc11 := NB438_437.out
    have hcz12_0 : w5.cell? ⟨gb437, 0, none⟩ = some (.int .i64 a0_0) := (zq4 BK437.out 0).trans rfl
    have hcz12_1 : w5.cell? ⟨gb437, 1, none⟩ = some (.int .i64 a0_1) := (zq4 BK437.out 1).trans rfl
    have hcz12_2 : w5.cell? ⟨gb437, 2, none⟩ = some (.slice A0_2 l0_2.length c0_2) := (zq4 BK437.out 2).trans rfl
    have hfz12_0 := zq5 BK437.out 0
    have hfz12_1 := zq5 BK437.out 1
    have hfz12_2 := zq5 BK437.out 2
    have hcz13_0 : w5.cell? ⟨gb438, 0, none⟩ = some (.int .i64 a1_0) := (zq4 BK438.out 0).trans rfl
    have hcz13_1 : w5.cell? ⟨gb438, 1, none⟩ = some (.int .i64 a1_1) := (zq4 BK438.out 1).trans rfl
    have hcz13_2 : w5.cell? ⟨gb438, 2, none⟩ = some (.slice A1_2 l1_2.length c1_2) := (zq4 BK438.out 2).trans rfl
    have hfz13_0 := zq5 BK438.out 0
    have hfz13_1 := zq5 BK438.out 1
    have hfz13_2 := zq5 BK438.out 2
    go_wp2
    repeat (go_quiet (fail); try go_wp2)
    go_meet
    case rel => exact ⟨_, (true), (by first | rfl | (simp; done) | (simp [*]; done)), H', ⟨by first | omega | exact Nat.le_refl _⟩, ⟨by (with_reducible repeat (first | refine zq6 ?_ _ | refine zq8 ?_ | refine zq7 ?_ _)); exact BK437.out⟩, ⟨by (with_reducible repeat (first | refine zq6 ?_ _ | refine zq8 ?_ | refine zq7 ?_ _)); exact BK438.out⟩, ⟨by repeat (first | (with_reducible first | exact HB.out | apply zq2 | apply zq1 | apply zqd | refine zq3 ?_ GE437.out | refine zq3 ?_ GE438.out) | exact HB.out)⟩⟩
  ·rw [if_neg c6] at H
   have c6b0 : (a0_0 == a1_0) = false := beq_eq_false_iff_ne.mpr c6
   have c6b1 : (a0_0 != a1_0) = true := bne_iff_ne.mpr c6
   (first | rw [c6b0] | (simp only [i64_w, i32_w]; rw [c6b0]) | skip)
   have H' := Az.mk H
   clear H
   have hnb14 := NB437_438.out
   have hnc14 := NB438_437.out
   have hcz15_0 : w5.cell? ⟨gb437, 0, none⟩ = some (.int .i64 a0_0) := (zq4 BK437.out 0).trans rfl
   have hcz15_1 : w5.cell? ⟨gb437, 1, none⟩ = some (.int .i64 a0_1) := (zq4 BK437.out 1).trans rfl
   have hcz15_2 : w5.cell? ⟨gb437, 2, none⟩ = some (.slice A0_2 l0_2.length c0_2) := (zq4 BK437.out 2).trans rfl
   have hfz15_0 := zq5 BK437.out 0
   have hfz15_1 := zq5 BK437.out 1
   have hfz15_2 := zq5 BK437.out 2
   have hcz16_0 : w5.cell? ⟨gb438, 0, none⟩ = some (.int .i64 a1_0) := (zq4 BK438.out 0).trans rfl
   have hcz16_1 : w5.cell? ⟨gb438, 1, none⟩ = some (.int .i64 a1_1) := (zq4 BK438.out 1).trans rfl
   have hcz16_2 : w5.cell? ⟨gb438, 2, none⟩ = some (.slice A1_2 l1_2.length c1_2) := (zq4 BK438.out 2).trans rfl
   have hfz16_0 := zq5 BK438.out 0
   have hfz16_1 := zq5 BK438.out 1
   have hfz16_2 := zq5 BK438.out 2
   go_wp2
   repeat (go_quiet (fail); try go_wp2)
   go_meet
   case rel => exact ⟨_, (true), (by first | rfl | (simp; done) | (simp [*]; done)), H', ⟨by first | omega | exact Nat.le_refl _⟩, ⟨by (with_reducible repeat (first | refine zq6 ?_ _ | refine zq8 ?_ | refine zq7 ?_ _)); exact BK437.out⟩, ⟨by (with_reducible repeat (first | refine zq6 ?_ _ | refine zq8 ?_ | refine zq7 ?_ _)); exact BK438.out⟩, ⟨by repeat (first | (with_reducible first | exact HB.out | apply zq2 | apply zq1 | apply zqd | refine zq3 ?_ GE437.out | refine zq3 ?_ GE438.out) | exact HB.out)⟩⟩
 case rest =>
  clear HC3
  try clear c1
  try clear p2
  try clear c6
  try clear c6b0
  try clear c6b1
  try clear c7
  try clear c7b0
  try clear c7b1
  try clear c8
  try clear c9
  try clear c11
  try clear c14
  try clear hcz10_0
  try clear hcz10_1
  try clear hcz10_2
  try clear hcz12_0
  try clear hcz12_1
  try clear hcz12_2
  try clear hcz13_0
  try clear hcz13_1
  try clear hcz13_2
  try clear hcz15_0
  try clear hcz15_1
  try clear hcz15_2
  try clear hcz16_0
  try clear hcz16_1
  try clear hcz16_2
  try clear hcz9_0
  try clear hcz9_1
  try clear hcz9_2
  try clear hfz10_0
  try clear hfz10_1
  try clear hfz10_2
  try clear hfz12_0
  try clear hfz12_1
  try clear hfz12_2
  try clear hfz13_0
  try clear hfz13_1
  try clear hfz13_2
  try clear hfz15_0
  try clear hfz15_1
  try clear hfz15_2
  try clear hfz16_0
  try clear hfz16_1
  try clear hfz16_2
  try clear hfz9_0
  try clear hfz9_1
  try clear hfz9_2
  obtain ⟨kq, x26_2, rfl, HA, HJ2, BK437, BK438, HB⟩ := hcut
  cases kq with
  | zero => exact absurd HA.out (by simp [spec_l2Same.j0])
  | succ kj2 =>
   have H := HA.out
   clear HA
   simp only [spec_l2Same.j0] at H
   by_cases c17 : x26_2 = true
   ·subst c17
    have H1 : (some false) = some r := by rw [if_pos rfl] at H; exact H
    clear H
    have H := H1
    clear H1
    obtain rfl := Option.some.inj H
    go_wp2
    repeat (go_quiet (fail); try go_wp2)
    go_ret
    exact ⟨by first | rfl | (simp [errW_none, errW_some] <;> rfl) | (simp [*, errW_none, errW_some] <;> rfl), by repeat (first | (with_reducible first | exact HB.out | apply zq2 | apply zq1 | apply zqd | refine zq3 ?_ GE437.out | refine zq3 ?_ GE438.out) | exact HB.out)⟩
   ·replace c17 := Bool.eq_false_iff.mpr c17
    subst c17
    have H1 : (spec_l2Same.l0 kj2 0 a0_0 a0_1 l0_2 a1_0 a1_1 l1_2) = some r := by rw [if_neg (show ¬ (false = true) by decide)] at H; exact H
    clear H
    have H := H1
    clear H1
    have H' := Az.mk H
    clear H
    go_wp2
    repeat (go_quiet (fail); try go_wp2)
    go_loopg [5] kj2 (fun kq v5 w' => ∃ (x5_2 : Int), v5 = .int .i64 x5_2 ∧ Az (spec_l2Same.l0 kq x5_2 a0_0 a0_1 l0_2 a1_0 a1_1 l1_2 = some r) ∧ Az (kq ≤ kj2) ∧ Az (w'.heap[gb437]? = some (.cells #[.int .i64 a0_0, .int .i64 a0_1, (.slice A0_2 l0_2.length c0_2)] 29 (0, 0))) ∧ Az (w'.heap[gb438]? = some (.cells #[.int .i64 a1_0, .int .i64 a1_1, (.slice A1_2 l1_2.length c1_2)] 29 (0, 0))) ∧ Az (Below w.heap.size w w'))
    case atStart => exact ⟨(0), (by first | rfl | (simp; done) | (simp [*]; done)), H', ⟨Nat.le_refl _⟩, ⟨by (with_reducible repeat (first | refine zq6 ?_ _ | refine zq8 ?_ | refine zq7 ?_ _)); exact BK437.out⟩, ⟨by (with_reducible repeat (first | refine zq6 ?_ _ | refine zq8 ?_ | refine zq7 ?_ _)); exact BK438.out⟩, ⟨by repeat (first | (with_reducible first | exact HB.out | apply zq2 | apply zq1 | apply zqd | refine zq3 ?_ GE437.out | refine zq3 ?_ GE438.out) | exact HB.out)⟩⟩
    case round =>
     clear H'
     try clear c1
     try clear p2
     try clear c6
     try clear c6b0
     try clear c6b1
     try clear c7
     try clear c7b0
     try clear c7b1
     try clear c8
     try clear c9
     try clear c11
     try clear c14
     try clear c17
     try clear hcz10_0
     try clear hcz10_1
     try clear hcz10_2
     try clear hcz12_0
     try clear hcz12_1
     try clear hcz12_2
     try clear hcz13_0
     try clear hcz13_1
     try clear hcz13_2
     try clear hcz15_0
     try clear hcz15_1
     try clear hcz15_2
     try clear hcz16_0
     try clear hcz16_1
     try clear hcz16_2
     try clear hcz9_0
     try clear hcz9_1
     try clear hcz9_2
     try clear hfz10_0
     try clear hfz10_1
     try clear hfz10_2
     try clear hfz12_0
     try clear hfz12_1
     try clear hfz12_2
     try clear hfz13_0
     try clear hfz13_1
     try clear hfz13_2
     try clear hfz15_0
     try clear hfz15_1
     try clear hfz15_2
     try clear hfz16_0
     try clear hfz16_1
     try clear hfz16_2
     try clear hfz9_0
     try clear hfz9_1
     try clear hfz9_2
     try clear p2
     obtain ⟨x5_2, rfl, HA, HK2, BK437, BK438, HB⟩ := hrel
     cases gk with
     | zero => exact absurd HA.out (by simp [spec_l2Same.l0])
     | succ k2 =>
      have H := HA.out
      clear HA
      simp only [spec_l2Same.l0] at H
      by_cases c18 : x5_2 < (l0_2.length : Int)
      ·rw [if_pos c18] at H
       have c18b0 : decide (x5_2 < (l0_2.length : Int)) = true := decide_eq_true c18
       clear c18
       by_cases c19 : 0 ≤ x5_2
       ·rw [if_pos c19] at H
        have c19b0 : decide (0 ≤ x5_2) = true := decide_eq_true c19
        clear c19
        by_cases c20 : x5_2 < (l1_2.length : Int)
        ·rw [if_pos c20] at H
         have c20b0 : decide (x5_2 < (l1_2.length : Int)) = true := decide_eq_true c20
         clear c20
         by_cases c21 : (!(((rd_T37 l0_2 x5_2).f0) == ((rd_T37 l1_2 x5_2).f0)) || (!(((rd_T37 l0_2 x5_2).f1) == ((rd_T37 l1_2 x5_2).f1)))) = true
         ·rw [if_pos c21] at H
          have c21b0 : (!(((rd_T37 l0_2 x5_2).f0) == ((rd_T37 l1_2 x5_2).f0)) || (!(((rd_T37 l0_2 x5_2).f1) == ((rd_T37 l1_2 x5_2).f1)))) = true := c21
          clear c21
          obtain rfl := Option.some.inj H
          have hnb22 := NB437_438.out
          have hnc22 := NB438_437.out
          have hcz23_0 : wr.cell? ⟨gb437, 0, none⟩ = some (.int .i64 a0_0) := (zq4 BK437.out 0).trans rfl
          have hcz23_1 : wr.cell? ⟨gb437, 1, none⟩ = some (.int .i64 a0_1) := (zq4 BK437.out 1).trans rfl
          have hcz23_2 : wr.cell? ⟨gb437, 2, none⟩ = some (.slice A0_2 l0_2.length c0_2) := (zq4 BK437.out 2).trans rfl
          have hfz23_0 := zq5 BK437.out 0
          have hfz23_1 := zq5 BK437.out 1
          have hfz23_2 := zq5 BK437.out 2
          have p439 : 0 ≤ (x5_2 : Int) := of_decide_eq_true (by first | (with_reducible assumption) | assumption)
          have q439 : x5_2 < (l0_2.length : Int) := of_decide_eq_true (by first | (with_reducible assumption) | assumption)
          obtain ⟨ad439, e439, hx439_0, hx439_1⟩ := at_T37 HR0_2.out x5_2 p439 q439
          cases e439
          replace hx439_0 := (HB.out.cell (World.block_lt_of_cell? w _ hx439_0)).trans hx439_0
          replace hx439_1 := (HB.out.cell (World.block_lt_of_cell? w _ hx439_1)).trans hx439_1
          replace p439 := eq_true p439
          replace q439 := eq_true q439
          have hcz24_0 : wr.cell? ⟨gb438, 0, none⟩ = some (.int .i64 a1_0) := (zq4 BK438.out 0).trans rfl
          have hcz24_1 : wr.cell? ⟨gb438, 1, none⟩ = some (.int .i64 a1_1) := (zq4 BK438.out 1).trans rfl
          have hcz24_2 : wr.cell? ⟨gb438, 2, none⟩ = some (.slice A1_2 l1_2.length c1_2) := (zq4 BK438.out 2).trans rfl
          have hfz24_0 := zq5 BK438.out 0
          have hfz24_1 := zq5 BK438.out 1
          have hfz24_2 := zq5 BK438.out 2
          have p440 : 0 ≤ (x5_2 : Int) := of_decide_eq_true (by first | (with_reducible assumption) | assumption)
          have q440 : x5_2 < (l1_2.length : Int) := of_decide_eq_true (by first | (with_reducible assumption) | assumption)
          obtain ⟨ad440, e440, hx440_0, hx440_1⟩ := at_T37 HR1_2.out x5_2 p440 q440
          cases e440
          replace hx440_0 := (HB.out.cell (World.block_lt_of_cell? w _ hx440_0)).trans hx440_0
          replace hx440_1 := (HB.out.cell (World.block_lt_of_cell? w _ hx440_1)).trans hx440_1
          replace p440 := eq_true p440
          replace q440 := eq_true q440
          go_wp2
          repeat (go_quiet (fail); try go_wp2)
          go_ret
          exact ⟨by first | rfl | (simp [errW_none, errW_some] <;> rfl) | (simp [*, errW_none, errW_some] <;> rfl), by repeat (first | (with_reducible first | exact HB.out | apply zq2 | apply zq1 | apply zqd | refine zq3 ?_ GE437.out | refine zq3 ?_ GE438.out) | exact HB.out)⟩
         ·rw [if_neg c21] at H
          have c21b0 : (!(((rd_T37 l0_2 x5_2).f0) == ((rd_T37 l1_2 x5_2).f0)) || (!(((rd_T37 l0_2 x5_2).f1) == ((rd_T37 l1_2 x5_2).f1)))) = false := by simpa using c21
          clear c21
          have H' := Az.mk H
          clear H
          have hnb25 := NB437_438.out
          have hnc25 := NB438_437.out
          have hcz26_0 : wr.cell? ⟨gb437, 0, none⟩ = some (.int .i64 a0_0) := (zq4 BK437.out 0).trans rfl
          have hcz26_1 : wr.cell? ⟨gb437, 1, none⟩ = some (.int .i64 a0_1) := (zq4 BK437.out 1).trans rfl
          have hcz26_2 : wr.cell? ⟨gb437, 2, none⟩ = some (.slice A0_2 l0_2.length c0_2) := (zq4 BK437.out 2).trans rfl
          have hfz26_0 := zq5 BK437.out 0
          have hfz26_1 := zq5 BK437.out 1
          have hfz26_2 := zq5 BK437.out 2
          have p439 : 0 ≤ (x5_2 : Int) := of_decide_eq_true (by first | (with_reducible assumption) | assumption)
          have q439 : x5_2 < (l0_2.length : Int) := of_decide_eq_true (by first | (with_reducible assumption) | assumption)
          obtain ⟨ad439, e439, hx439_0, hx439_1⟩ := at_T37 HR0_2.out x5_2 p439 q439
          cases e439
          replace hx439_0 := (HB.out.cell (World.block_lt_of_cell? w _ hx439_0)).trans hx439_0
          replace hx439_1 := (HB.out.cell (World.block_lt_of_cell? w _ hx439_1)).trans hx439_1
          replace p439 := eq_true p439
          replace q439 := eq_true q439
          have hcz27_0 : wr.cell? ⟨gb438, 0, none⟩ = some (.int .i64 a1_0) := (zq4 BK438.out 0).trans rfl
          have hcz27_1 : wr.cell? ⟨gb438, 1, none⟩ = some (.int .i64 a1_1) := (zq4 BK438.out 1).trans rfl
          have hcz27_2 : wr.cell? ⟨gb438, 2, none⟩ = some (.slice A1_2 l1_2.length c1_2) := (zq4 BK438.out 2).trans rfl
          have hfz27_0 := zq5 BK438.out 0
          have hfz27_1 := zq5 BK438.out 1
          have hfz27_2 := zq5 BK438.out 2
          have p440 : 0 ≤ (x5_2 : Int) := of_decide_eq_true (by first | (with_reducible assumption) | assumption)
          have q440 : x5_2 < (l1_2.length : Int) := of_decide_eq_true (by first | (with_reducible assumption) | assumption)
          obtain ⟨ad440, e440, hx440_0, hx440_1⟩ := at_T37 HR1_2.out x5_2 p440 q440
          cases e440
          replace hx440_0 := (HB.out.cell (World.block_lt_of_cell? w _ hx440_0)).trans hx440_0
          replace hx440_1 := (HB.out.cell (World.block_lt_of_cell? w _ hx440_1)).trans hx440_1
          replace p440 := eq_true p440
          replace q440 := eq_true q440
          go_wp2
          repeat (go_quiet (fail); try go_wp2)
          go_roundg k2
          case measure => have := HJ2.out; have := HK2.out; omega
          case rel => exact ⟨(wrap64 (x5_2 + 1)), (by first | rfl | (simp; done) | (simp [*]; done)), H', ⟨by have := HJ2.out; have := HK2.out; omega⟩, ⟨by (with_reducible repeat (first | refine zq6 ?_ _ | refine zq8 ?_ | refine zq7 ?_ _)); exact BK437.out⟩, ⟨by (with_reducible repeat (first | refine zq6 ?_ _ | refine zq8 ?_ | refine zq7 ?_ _)); exact BK438.out⟩, ⟨by repeat (first | (with_reducible first | exact HB.out | apply zq2 | apply zq1 | apply zqd | refine zq3 ?_ GE437.out | refine zq3 ?_ GE438.out) | exact HB.out)⟩⟩
        ·rw [if_neg c20] at H
         exact absurd H (by simp)
       ·rw [if_neg c19] at H
        exact absurd H (by simp)
      ·rw [if_neg c18] at H
       have c18b0 : decide (x5_2 < (l0_2.length : Int)) = false := decide_eq_false c18
       clear c18
       obtain rfl := Option.some.inj H
       have hnb28 := NB437_438.out
       have hnc28 := NB438_437.out
       have hcz29_0 : wr.cell? ⟨gb437, 0, none⟩ = some (.int .i64 a0_0) := (zq4 BK437.out 0).trans rfl
       have hcz29_1 : wr.cell? ⟨gb437, 1, none⟩ = some (.int .i64 a0_1) := (zq4 BK437.out 1).trans rfl
       have hcz29_2 : wr.cell? ⟨gb437, 2, none⟩ = some (.slice A0_2 l0_2.length c0_2) := (zq4 BK437.out 2).trans rfl
       have hfz29_0 := zq5 BK437.out 0
       have hfz29_1 := zq5 BK437.out 1
       have hfz29_2 := zq5 BK437.out 2
       go_wp2
       repeat (go_quiet (fail); try go_wp2)
       go_ret
       exact ⟨by first | rfl | (simp [errW_none, errW_some] <;> rfl) | (simp [*, errW_none, errW_some] <;> rfl), by repeat (first | (with_reducible first | exact HB.out | apply zq2 | apply zq1 | apply zqd | refine zq3 ?_ GE437.out | refine zq3 ?_ GE438.out) | exact HB.out)⟩
end Go.Proofs.Ytkoimmeghdbodaa.Print
namespace Go.Proofs.Ytkoimmeghdbodaa.Print
open Go.RowKit Go.Proofs.YtkoimmeghdbodaaW.PrintWords Go.Proofs.YtkoimmeghdbodaaW.PrintLast Go.Proofs.YtkoimmeghdbodaaW.PrintMore
attribute [local go_sem] max2_int min2_int max_two min_two max_three min_three max_four min_four
end Go.Proofs.Ytkoimmeghdbodaa.Print
namespace Go.Proofs.Ytkoimmeghdbodaa.Print
open Go.RowKit Go.Proofs.YtkoimmeghdbodaaW.PrintWords Go.Proofs.YtkoimmeghdbodaaW.PrintLast Go.Proofs.YtkoimmeghdbodaaW.PrintMore
attribute [local go_sem] max2_int min2_int max_two min_two max_three min_three max_four min_four
end Go.Proofs.Ytkoimmeghdbodaa.Print
namespace Go.Proofs.Ytkoimmeghdbodaa.Print
open Go.RowKit Go.Proofs.YtkoimmeghdbodaaW.PrintWords Go.Proofs.YtkoimmeghdbodaaW.PrintLast Go.Proofs.YtkoimmeghdbodaaW.PrintMore
attribute [local go_sem] max2_int min2_int max_two min_two max_three min_three max_four min_four
end Go.Proofs.Ytkoimmeghdbodaa.Print
namespace Go.Proofs.Ytkoimmeghdbodaa.Print
open Go.RowKit Go.Proofs.YtkoimmeghdbodaaW.PrintWords Go.Proofs.YtkoimmeghdbodaaW.PrintLast Go.Proofs.YtkoimmeghdbodaaW.PrintMore
attribute [local go_sem] max2_int min2_int max_two min_two max_three min_three max_four min_four
end Go.Proofs.Ytkoimmeghdbodaa.Print
namespace Go.Proofs.Ytkoimmeghdbodaa.Print
open Go.RowKit Go.Proofs.YtkoimmeghdbodaaW.PrintWords Go.Proofs.YtkoimmeghdbodaaW.PrintLast Go.Proofs.YtkoimmeghdbodaaW.PrintMore
attribute [local go_sem] max2_int min2_int max_two min_two max_three min_three max_four min_four
end Go.Proofs.Ytkoimmeghdbodaa.Print
namespace Go.Proofs.Ytkoimmeghdbodaa.Pure
open Go.RowKit Go.Proofs.Ytkoimmeghdbodaa.Print Go.Proofs.YtkoimmeghdbodaaW.PrintWords Go.Proofs.YtkoimmeghdbodaaW.PrintLast
theorem rd29n (l : List S29) (k : Nat) : rd_T29 l (k : Int) = l.getD k z29 := by simp [rd_T29]
def Fit24 (x : S24) : Prop := x.f2.length ≤ 1048576
def Fit120 (x : S120) : Prop := x.f1.length ≤ 1048576 ∧ ∀ y ∈ x.f1, Fit24 y
structure FitR (l : List S120) : Prop where
  len : l.length ≤ 1048576
  vols : ∀ x ∈ l, Fit120 x
structure FitM (l : List S65) : Prop where
  len : l.length ≤ 1048576
  ptrs : ∀ x ∈ l, x.f1.length ≤ 1048576
  places : ∀ x ∈ l, ∀ y ∈ x.f1, y.f2.length ≤ 1048576
end Go.Proofs.Ytkoimmeghdbodaa.Pure
namespace Go.Proofs.Ytkoimmeghdbodaa.Pure
open Go.RowKit Go.Proofs.Ytkoimmeghdbodaa.Print Go.Proofs.YtkoimmeghdbodaaW.PrintWords Go.Proofs.YtkoimmeghdbodaaW.PrintLast
theorem volB_iff {s : ByteArray} (h : 1 ≤ s.size ∧ s.size ≤ 3) : volB s = true ↔ ∀ j : Nat, j < s.size → letB (bt s (j : Int)) = true := by
  unfold volB
  rw [decide_eq_true h, Bool.true_and, List.all_eq_true]
  exact ⟨fun x j hj => x j (List.mem_range.2 hj), fun x j hj => x j (List.mem_range.1 hj)⟩
theorem l2Name_l0 (s : ByteArray) (h : 1 ≤ s.size ∧ s.size ≤ 3) (d : Nat) : ∀ i : Nat, i + d = s.size → (∀ j : Nat, j < i → letB (bt s (j : Int)) = true) → Ev (fun k => spec_l2Name.l0 k s (i : Int)) (volB s) := by
  induction d with
  | zero =>
    intro i hi hj
    refine Ev.next ?_
    simp only [spec_l2Name.l0]
    exact Ev.neg (by omega) (Ev.ret ((volB_iff h).2 fun j hj2 => hj j (by omega)).symm)
  | succ d ih =>
    intro i hi hj
    have e : wrap64 ((i : Int) + 1) = ((i + 1 : Nat) : Int) := by rw [wrap_ok (by omega)]; omega
    refine Ev.next ?_
    simp only [spec_l2Name.l0, e]
    clear e
    refine Ev.pos (by omega) (Ev.pos (by omega) ?_)
    have bad : letB (bt s (i : Int)) = false → volB s = false := fun hb => by
      rw [Bool.eq_false_iff]
      intro hv
      have := (volB_iff h).1 hv i (by omega)
      rw [hb] at this
      cases this
    by_cases c1 : bt s (i : Int) < 97
    · exact Ev.pos c1 (Ev.ret (bad (decide_eq_false (by omega))).symm)
    · by_cases c2 : bt s (i : Int) > 122
      · exact Ev.neg c1 (Ev.pos c2 (Ev.ret (bad (decide_eq_false (by omega))).symm))
      · refine Ev.neg c1 (Ev.neg c2 (ih (i + 1) (by omega) fun j hj2 => ?_))
        by_cases e : j = i
        · rw [e]; exact decide_eq_true (by omega)
        · exact hj j (by omega)
theorem l2Name_ev (s : ByteArray) : Ev (fun k => spec_l2Name.f k s) (volB s) := by
  unfold spec_l2Name.f
  refine Ev.take (l6In_eq _ _ _) ?_
  by_cases h : 1 ≤ s.size ∧ s.size ≤ 3
  · exact Ev.pos (decide_eq_true (by omega)) (l2Name_l0 s h s.size 0 (Nat.zero_add _) (fun j hj => by omega))
  · exact Ev.neg (by rw [decide_eq_true_iff]; omega) (Ev.ret (vol_long h).symm)
theorem drop_getD {α : Type} (l : List α) (z : α) (i : Nat) (h : i < l.length) : l.drop i = l.getD i z :: l.drop (i + 1) := by
  rw [List.drop_eq_getElem_cons h, List.getD, List.getElem?_eq_getElem h]
  rfl
theorem eq37 (x y : S37) : (x.f0 == y.f0 && (x.f1 == y.f1)) = decide (x = y) := by
  by_cases h : x = y
  · rw [h, decide_eq_true rfl]
    simp
  · rw [decide_eq_false h, Bool.and_eq_false_iff]
    by_cases h0 : x.f0 = y.f0
    · right
      rw [beq_eq_false_iff_ne]
      intro h1
      exact h (by cases x; cases y; simp only at h0 h1; rw [h0, h1])
    · left
      rwa [beq_eq_false_iff_ne]
def meetB (a b : List S37) : Bool := a.any fun x => b.any fun y => decide (x = y)
theorem meetB_iff (a b : List S37) : meetB a b = true ↔ ∃ x, x ∈ a ∧ x ∈ b := by
  unfold meetB
  rw [List.any_eq_true]
  constructor
  · rintro ⟨x, hx, h⟩
    obtain ⟨y, hy, h2⟩ := List.any_eq_true.1 h
    exact ⟨x, hx, by rw [of_decide_eq_true h2]; exact hy⟩
  · rintro ⟨x, hx, h⟩
    exact ⟨x, hx, List.any_eq_true.2 ⟨x, h, decide_eq_true rfl⟩⟩
theorem meet_l1 (s m : Int) (a : List S37) (s2 m2 : Int) (b : List S37) (ha : a.length ≤ 1048576) (hb : b.length ≤ 1048576) (i : Nat) (hi : i < a.length) {r : Bool} (k : Ev (fun k => spec_l2Meet.l0 k ((i + 1 : Nat) : Int) s m a s2 m2 b) r) (d : Nat) :
    ∀ j : Nat, j + d = b.length → Ev (fun k => spec_l2Meet.l1 k (i : Int) (j : Int) s m a s2 m2 b) (((b.drop j).any fun y => decide (a.getD i z37 = y)) || r) := by
  have e : wrap64 ((i : Int) + 1) = ((i + 1 : Nat) : Int) := by rw [wrap_ok (by omega)]; omega
  induction d with
  | zero =>
    intro j hj
    refine Ev.next ?_
    simp only [spec_l2Meet.l1, e]
    clear e
    refine Ev.neg (by omega) ?_
    rw [List.drop_of_length_le (by omega)]
    exact k
  | succ d ih =>
    intro j hj
    have e2 : wrap64 ((j : Int) + 1) = ((j + 1 : Nat) : Int) := by rw [wrap_ok (by omega)]; omega
    have hih := ih (j + 1) (by omega)
    rw [drop_getD b z37 j (by omega), List.any_cons]
    refine Ev.next ?_
    simp only [spec_l2Meet.l1, e2, rd37n, eq37]
    clear e e2
    refine Ev.pos (by omega) (Ev.pos (by omega) (Ev.pos (by omega) (Ev.pos (by omega) ?_)))
    by_cases c : a.getD i z37 = b.getD j z37
    · exact Ev.pos (decide_eq_true c) (Ev.ret (by rw [decide_eq_true c]; rfl))
    · refine Ev.neg (by rw [decide_eq_true_iff]; exact c) ?_
      rw [decide_eq_false c, Bool.false_or]
      exact hih
theorem meet_l0 (s m : Int) (a : List S37) (s2 m2 : Int) (b : List S37) (ha : a.length ≤ 1048576) (hb : b.length ≤ 1048576) (d : Nat) :
    ∀ i : Nat, i + d = a.length → Ev (fun k => spec_l2Meet.l0 k (i : Int) s m a s2 m2 b) (meetB (a.drop i) b) := by
  induction d with
  | zero =>
    intro i hi
    refine Ev.next ?_
    simp only [spec_l2Meet.l0]
    exact Ev.neg (by omega) (Ev.ret (by rw [List.drop_of_length_le (by omega)]; rfl))
  | succ d ih =>
    intro i hi
    have h := meet_l1 s m a s2 m2 b ha hb i (by omega) (ih (i + 1) (by omega)) b.length 0 (Nat.zero_add _)
    rw [List.drop_zero] at h
    refine Ev.next ?_
    simp only [spec_l2Meet.l0]
    refine Ev.pos (by omega) ?_
    unfold meetB at h ⊢
    rw [drop_getD a z37 i (by omega), List.any_cons]
    exact h
theorem meet_ev (a b : S29) (ha : a.f2.length ≤ 1048576) (hb : b.f2.length ≤ 1048576) : Ev (fun k => spec_l2Meet.f k a.f0 a.f1 a.f2 b.f0 b.f1 b.f2) (meetB a.f2 b.f2) := by
  unfold spec_l2Meet.f
  exact meet_l0 a.f0 a.f1 a.f2 b.f0 b.f1 b.f2 ha hb a.f2.length 0 (Nat.zero_add _)
theorem same_l0 (s m : Int) (a : List S37) (s2 m2 : Int) (b : List S37) (ha : a.length ≤ 1048576) (hl : a.length = b.length) (d : Nat) :
    ∀ i : Nat, i + d = a.length → Ev (fun k => spec_l2Same.l0 k (i : Int) s m a s2 m2 b) (decide (a.drop i = b.drop i)) := by
  induction d with
  | zero =>
    intro i hi
    refine Ev.next ?_
    simp only [spec_l2Same.l0]
    exact Ev.neg (by omega) (Ev.ret (by rw [List.drop_of_length_le (by omega), List.drop_of_length_le (by omega), decide_eq_true rfl]))
  | succ d ih =>
    intro i hi
    have e : wrap64 ((i : Int) + 1) = ((i + 1 : Nat) : Int) := by rw [wrap_ok (by omega)]; omega
    have hih := ih (i + 1) (by omega)
    rw [drop_getD a z37 i (by omega), drop_getD b z37 i (by omega)]
    have key : (!((a.getD i z37).f0 == (b.getD i z37).f0) || (!((a.getD i z37).f1 == (b.getD i z37).f1))) = !(decide (a.getD i z37 = b.getD i z37)) := by
      rw [← eq37, Bool.not_and]
    refine Ev.next ?_
    simp only [spec_l2Same.l0, e, rd37n, key]
    clear e key
    refine Ev.pos (by omega) (Ev.pos (by omega) (Ev.pos (by omega) ?_))
    by_cases c : a.getD i z37 = b.getD i z37
    · refine Ev.neg (by rw [decide_eq_true c]; simp) ?_
      rw [c]
      have : (b.getD i z37 :: a.drop (i + 1) = b.getD i z37 :: b.drop (i + 1)) ↔ a.drop (i + 1) = b.drop (i + 1) := by simp
      simp only [this]
      exact hih
    · exact Ev.pos (by rw [decide_eq_false c]; rfl) (Ev.ret (by rw [decide_eq_false]; intro h; exact c (List.cons.inj h).1))
theorem specSame_ev (a b : S29) (ha : a.f2.length ≤ 1048576) : Ev (fun k => spec_l2Same.f k a.f0 a.f1 a.f2 b.f0 b.f1 b.f2) (sameB a b) := by
  unfold spec_l2Same.f sameB
  have bad : Ev (fun k => spec_l2Same.j0 k true a.f0 a.f1 a.f2 b.f0 b.f1 b.f2) false := by
    refine Ev.next ?_
    simp only [spec_l2Same.j0]
    exact Ev.pos trivial (Ev.ret rfl)
  by_cases h0 : a.f0 = b.f0
  · rw [decide_eq_true h0, Bool.true_and]
    refine Ev.pos h0 ?_
    by_cases h1 : a.f1 = b.f1
    · rw [decide_eq_true h1, Bool.true_and]
      refine Ev.pos h1 ?_
      refine Ev.next ?_
      simp only [spec_l2Same.j0]
      by_cases h2 : a.f2.length = b.f2.length
      · refine Ev.neg (by simp [h2]) ?_
        exact same_l0 a.f0 a.f1 a.f2 b.f0 b.f1 b.f2 ha h2 a.f2.length 0 (Nat.zero_add _)
      · refine Ev.pos (by rw [bne_iff_ne]; omega) (Ev.ret ?_)
        rw [decide_eq_false]
        intro h
        exact h2 (by rw [h])
    · rw [decide_eq_false h1, Bool.false_and]
      exact Ev.neg h1 bad
  · rw [decide_eq_false h0, Bool.false_and]
    exact Ev.neg h0 bad
theorem all_l0 (tx : Int) (vs : List S65) (hl : vs.length ≤ 4) (h3 : ∀ x ∈ vs, x.f1.length = 3) (d : Nat) : ∀ i : Nat, i + d = vs.length → Ev (fun k => spec_l2All.l0 k (ptrs (vs.take i)) (i : Int) tx vs) (ptrs vs) := by
  induction d with
  | zero =>
    intro i hi
    refine Ev.next ?_
    simp only [spec_l2All.l0]
    exact Ev.neg (by omega) (Ev.ret (by rw [List.take_of_length_le (by omega)]))
  | succ d ih =>
    intro i hi
    have e : wrap64 ((i : Int) + 1) = ((i + 1 : Nat) : Int) := by rw [wrap_ok (by omega)]; omega
    have hih := ih (i + 1) (by omega)
    have hn : ptrs (vs.take (i + 1)) = ptrs (vs.take i) ++ (vs.getD i z65).f1 := by
      unfold ptrs
      rw [take65 vs i (by omega), List.flatMap_append]
      simp
    rw [hn] at hih
    have hb := h3 _ (getD_mem (z := z65) (i := i) (l := vs) (by omega))
    have hp := ptrs_take_len h3 i (by omega)
    refine Ev.next ?_
    simp only [spec_l2All.l0, e, rd65n]
    clear e
    exact Ev.pos (by omega) (Ev.pos (by omega) (Ev.pos (by omega) hih))
theorem all_ev (tx : Int) (vs : List S65) (hl : vs.length ≤ 4) (h3 : ∀ x ∈ vs, x.f1.length = 3) : Ev (fun k => spec_l2All.f k tx vs) (ptrs vs) := by
  unfold spec_l2All.f
  exact all_l0 tx vs hl h3 vs.length 0 (Nat.zero_add _)
def pairB (p q : S29) : Bool := !meetB p.f2 q.f2 || sameB p q
def ptrAt (n : Int) (ps : List S29) (i : Nat) : Bool := ptrC n (ps.getD i z29) && decide (∀ q, q < i → pairB (ps.getD i z29) (ps.getD q z29) = true)
def nameAt (vs : List S65) (i : Nat) : Bool := volB (vs.getD i z65).f0 && (decide ((vs.getD i z65).f1.length = 3) && decide (∀ q, q < i → (vs.getD q z65).f0.toList ≠ (vs.getD i z65).f0.toList))
def specB (n tx : Int) (vs : List S65) : Bool := decide (3 ≤ n ∧ n ≤ 4) && (decide (0 ≤ tx ∧ tx ≤ 100000) && (decide (vs.length ≤ 4) && (decide (∀ q, q < vs.length → nameAt vs q = true) && decide (∀ t, t < (ptrs vs).length → 0 ≤ t → ptrAt n (ptrs vs) t = true))))
end Go.Proofs.Ytkoimmeghdbodaa.Pure
namespace Go.Proofs.Ytkoimmeghdbodaa.Pure
open Go.RowKit Go.Proofs.Ytkoimmeghdbodaa.Print Go.Proofs.YtkoimmeghdbodaaW.PrintWords Go.Proofs.YtkoimmeghdbodaaW.PrintLast
theorem lastL_append (A B : List (S37 × Nat)) (x : S37) : lastL (A ++ B) x = match lastL B x with | some t => some t | none => lastL A x := by
  refine rev_ind (P := fun B => lastL (A ++ B) x = match lastL B x with | some t => some t | none => lastL A x) ?_ (fun L q ih => ?_) B
  · rw [List.append_nil]
    rfl
  · rw [← List.append_assoc, lastL_snoc, lastL_snoc]
    by_cases e : q.1 = x
    · rw [if_pos e, if_pos e]
    · rw [if_neg e, if_neg e]
      exact ih
theorem lastL_map (x : S37) (t : Nat) (l : List S37) : lastL (l.map fun y => (y, t)) x = if x ∈ l then some t else none := by
  refine rev_ind (P := fun l => lastL (l.map fun y => (y, t)) x = if x ∈ l then some t else none) (by simp [lastL]) (fun l y ih => ?_) l
  rw [List.map_append, List.map_cons, List.map_nil, lastL_snoc, ih]
  by_cases e : y = x
  · subst e
    simp
  · have : x ∈ l ++ [y] ↔ x ∈ l := by
      rw [List.mem_append, List.mem_singleton]
      exact ⟨fun h => h.elim id (fun h => absurd h.symm e), Or.inl⟩
    simp only [this, if_neg e]
theorem pre_succ (ps : List S29) (i : Nat) : preL ps (i + 1) = preL ps i ++ (ps.getD i z29).f2.map fun x => (x, i) := by
  simp only [preL, List.range_succ, List.flatMap_append, List.flatMap_cons, List.flatMap_nil, List.append_nil]
theorem pre_last (ps : List S29) (x : S37) : ∀ i : Nat, match lastL (preL ps i) x with
    | some t => t < i ∧ x ∈ (ps.getD t z29).f2 ∧ ∀ q, t < q → q < i → x ∉ (ps.getD q z29).f2
    | none => ∀ q, q < i → x ∉ (ps.getD q z29).f2 := by
  intro i
  induction i with
  | zero =>
    have : lastL (preL ps 0) x = none := rfl
    rw [this]
    intro q h
    omega
  | succ i ih =>
    rw [pre_succ, lastL_append, lastL_map]
    by_cases c : x ∈ (ps.getD i z29).f2
    · rw [if_pos c]
      exact ⟨by omega, c, fun q h1 h2 => by omega⟩
    · rw [if_neg c]
      cases hL : lastL (preL ps i) x with
      | none =>
        rw [hL] at ih
        intro q hq
        by_cases e : q = i
        · rw [e]; exact c
        · exact ih q (by omega)
      | some t =>
        rw [hL] at ih
        exact ⟨by omega, ih.2.1, fun q h1 h2 => by
          by_cases e : q = i
          · rw [e]; exact c
          · exact ih.2.2 q h1 (by omega)⟩
theorem sameB_iff (a b : S29) : sameB a b = true ↔ a.f0 = b.f0 ∧ a.f1 = b.f1 ∧ a.f2 = b.f2 := by
  unfold sameB
  simp only [Bool.and_eq_true, decide_eq_true_iff]
theorem first_at (x : S37) : ∀ l : List S37, x ∈ l → ∃ j, j < l.length ∧ l.getD j z37 = x ∧ x ∉ l.take j := by
  intro l
  induction l with
  | nil => intro h; simp at h
  | cons y ys ih =>
    intro h
    by_cases e : y = x
    · exact ⟨0, by simp, by simp [e], by simp⟩
    · obtain ⟨j, h1, h2, h3⟩ := ih ((List.mem_cons.1 h).resolve_left (fun h => e h.symm))
      refine ⟨j + 1, by simp; omega, by simpa using h2, ?_⟩
      rw [List.take_succ_cons, List.mem_cons]
      rintro (h | h)
      · exact e h.symm
      · exact h3 h
theorem pairB_iff (p q : S29) : pairB p q = true ↔ ∀ x, x ∈ p.f2 → x ∈ q.f2 → sameB p q = true := by
  unfold pairB
  rw [Bool.or_eq_true, Bool.not_eq_true']
  constructor
  · rintro (h | h) x h1 h2
    · have := (meetB_iff p.f2 q.f2).2 ⟨x, h1, h2⟩
      rw [h] at this
      cases this
    · exact h
  · intro h
    by_cases c : meetB p.f2 q.f2 = true
    · obtain ⟨x, h1, h2⟩ := (meetB_iff p.f2 q.f2).1 c
      exact Or.inr (h x h1 h2)
    · exact Or.inl (by simpa using c)
theorem own_iff (ps : List S29) : implOwn ps = true ↔ ∀ i, i < ps.length → ∀ q, q < i → pairB (ps.getD i z29) (ps.getD q z29) = true := by
  rw [implOwn_iff]
  constructor
  · intro h
    have key : ∀ n i, i < n → i < ps.length → ∀ q, q < i → ∀ x, x ∈ (ps.getD i z29).f2 → x ∈ (ps.getD q z29).f2 → sameB (ps.getD i z29) (ps.getD q z29) = true := by
      intro n
      induction n with
      | zero => intro i h; omega
      | succ n ih =>
        intro i hin hi q hq x hx hxq
        obtain ⟨j, hj, hjx, hjn⟩ := first_at x _ hx
        have hs := (rowOk_iff ps i).1 (h i hi) j hj
        unfold stepOk putL at hs
        rw [hjx, lastL_append, lastL_map, if_neg hjn] at hs
        have hp := pre_last ps x i
        cases hL : lastL (preL ps i) x with
        | none =>
          rw [hL] at hp
          exact absurd hxq (hp q hq)
        | some t =>
          rw [hL] at hp hs
          simp only at hp hs
          by_cases e : q = t
          · rw [e]; exact hs
          · have hlt : q < t := by
              apply Classical.byContradiction
              intro hc
              exact hp.2.2 q (by omega) hq hxq
            have h2 := ih t (by omega) (by omega) q hlt x hp.2.1 hxq
            have a := (sameB_iff _ _).1 hs
            have b := (sameB_iff _ _).1 h2
            exact (sameB_iff _ _).2 ⟨a.1.trans b.1, a.2.1.trans b.2.1, a.2.2.trans b.2.2⟩
    intro i hi q hq
    rw [pairB_iff]
    exact key (i + 1) i (by omega) hi q hq
  · intro h i hi
    rw [rowOk_iff]
    intro j hj
    unfold stepOk
    cases hL : lastL (putL ps i j) ((ps.getD i z29).f2.getD j z37) with
    | none => rfl
    | some t =>
      have hm := putL_mem (lastL_mem hL)
      by_cases e : t = i
      · subst e
        exact (sameB_iff _ _).2 ⟨rfl, rfl, rfl⟩
      · exact (pairB_iff _ _).1 (h i hi t (by have := hm.1; omega)) _ (getD_mem hj) hm.2
theorem take_any (vs : List S65) (i : Nat) (hi : i < vs.length) : (vs.take i).any (fun x : S65 => x.f0.toList == (vs.getD i z65).f0.toList) = false ↔ ∀ q, q < i → (vs.getD q z65).f0.toList ≠ (vs.getD i z65).f0.toList := by
  rw [List.any_eq_false]
  constructor
  · intro h q hq he
    have hm : vs.getD q z65 ∈ vs.take i := by
      rw [List.mem_take_iff_getElem]
      exact ⟨q, by omega, by simp [List.getD, show q < vs.length by omega]⟩
    exact h _ hm (by rw [he]; simp)
  · intro h x hx he
    rw [List.mem_take_iff_getElem] at hx
    obtain ⟨q, hq, rfl⟩ := hx
    have := h q (by omega)
    apply this
    simp only [List.getD, show q < vs.length by omega, getElem?_pos, Option.getD_some] at he ⊢
    exact beq_iff_eq.1 he
theorem volAt_iff (n : Int) (vs : List S65) (i : Nat) (hi : i < vs.length) : volAt n vs i = true ↔ nameAt vs i = true ∧ ∀ p ∈ (vs.getD i z65).f1, ptrC n p = true := by
  unfold volAt nameAt
  simp only [Bool.and_eq_true, decide_eq_true_iff, Bool.not_eq_true']
  rw [take_any vs i hi, List.any_eq_false]
  constructor
  · rintro ⟨⟨h1, h2⟩, h3, h4⟩
    exact ⟨⟨h1, h2, h3⟩, fun p hp => by simpa using h4 p hp⟩
  · rintro ⟨⟨h1, h2, h3⟩, h4⟩
    exact ⟨⟨h1, h2⟩, h3, fun p hp => by rw [h4 p hp]; simp⟩
theorem rootB_eq (n tx : Int) (vs : List S65) : rootB n tx vs = specB n tx vs := by
  rw [Bool.eq_iff_iff]
  unfold rootB specB
  simp only [Bool.and_eq_true, decide_eq_true_iff]
  constructor
  · rintro ⟨hn, ht0, ht1, hv, ho⟩
    have hg := vols_good hv
    have ho := (own_iff _).1 ho
    unfold volsB at hv
    rw [Bool.and_eq_true, List.all_eq_true] at hv
    refine ⟨hn, ⟨ht0, ht1⟩, hg.1, fun q hq => ((volAt_iff n vs q hq).1 (hv.1 q (List.mem_range.2 hq))).1, fun t ht _ => ?_⟩
    unfold ptrAt
    rw [hg.2.2 _ (getD_mem ht), Bool.true_and, decide_eq_true_iff]
    exact ho t ht
  · rintro ⟨hn, ⟨ht0, ht1⟩, hl, hv, hp⟩
    have hp2 : ∀ p ∈ ptrs vs, ptrC n p = true := fun p hpm => by
      obtain ⟨t, ht, rfl⟩ := List.getElem_of_mem hpm
      have := hp t ht (Nat.zero_le _)
      unfold ptrAt at this
      rw [Bool.and_eq_true] at this
      simpa [List.getD, ht] using this.1
    refine ⟨hn, ht0, ht1, ?_, (own_iff _).2 fun t ht => ?_⟩
    · unfold volsB
      rw [Bool.and_eq_true, List.all_eq_true, decide_eq_true_iff]
      refine ⟨fun q hq => ?_, hl⟩
      have hq := List.mem_range.1 hq
      exact (volAt_iff n vs q hq).2 ⟨hv q hq, fun p hpm => hp2 p (List.mem_flatMap.2 ⟨_, getD_mem hq, hpm⟩)⟩
    · have := hp t ht (Nat.zero_le _)
      unfold ptrAt at this
      rw [Bool.and_eq_true, decide_eq_true_iff] at this
      exact this.2
end Go.Proofs.Ytkoimmeghdbodaa.Pure
namespace Go.Proofs.Ytkoimmeghdbodaa.Print
open Go.RowKit Go.Proofs.YtkoimmeghdbodaaW.PrintWords Go.Proofs.YtkoimmeghdbodaaW.PrintLast Go.Proofs.YtkoimmeghdbodaaW.PrintMore
attribute [local go_sem] max2_int min2_int max_two min_two max_three min_three max_four min_four
end Go.Proofs.Ytkoimmeghdbodaa.Print
namespace Go.Proofs.Ytkoimmeghdbodaa.Pure
open Go.RowKit Go.Lib Go.Sort Go.Proofs.Ytkoimmeghdbodaa.Print Go.Proofs.YtkoimmeghdbodaaW.PrintWords Go.Proofs.YtkoimmeghdbodaaW.PrintLast
theorem ltPl_iff (x y : S37) : ltPl x y = true ↔ x.f0 < y.f0 ∨ (x.f0 = y.f0 ∧ x.f1 < y.f1) := by
  unfold ltPl
  rw [decide_eq_true_iff]
theorem ltPl_trans {x y z : S37} (h1 : ltPl x y = true) (h2 : ltPl y z = true) : ltPl x z = true := by
  rw [ltPl_iff] at *
  omega
theorem ltPl_of_le {x y : S37} (h : ltPl y x = false) (hne : x ≠ y) : ltPl x y = true := by
  rw [Bool.eq_false_iff, Ne, ltPl_iff] at h
  rw [ltPl_iff]
  apply Classical.byContradiction
  intro hc
  apply hne
  cases x; cases y
  simp only at h hc
  simp only [S37.mk.injEq]
  omega
theorem strict_unique : ∀ (l m : List S37), l.Pairwise (fun x y => ltPl x y = true) → m.Pairwise (fun x y => ltPl x y = true) → (∀ x, x ∈ l ↔ x ∈ m) → l = m
  | [], [], _, _, _ => rfl
  | [], b :: m, _, _, h => absurd ((h b).2 (by simp)) (by simp)
  | a :: l, [], _, _, h => absurd ((h a).1 (by simp)) (by simp)
  | a :: l, b :: m, hl, hm, h => by
    have hl := List.pairwise_cons.1 hl
    have hm := List.pairwise_cons.1 hm
    have irr : ∀ x : S37, ltPl x x = false := fun x => by rw [Bool.eq_false_iff, Ne, ltPl_iff]; omega
    have eab : a = b := by
      rcases List.mem_cons.1 ((h a).1 (by simp)) with e | e
      · exact e
      · rcases List.mem_cons.1 ((h b).2 (by simp)) with e2 | e2
        · exact e2.symm
        · have := ltPl_trans (hm.1 a e) (hl.1 b e2)
          rw [irr] at this
          cases this
    subst eab
    have := strict_unique l m hl.2 hm.2 (fun x => by
      constructor
      · intro hx
        rcases List.mem_cons.1 ((h x).1 (List.mem_cons_of_mem _ hx)) with e | e
        · have := hl.1 x hx
          rw [e, irr] at this
          cases this
        · exact e
      · intro hx
        rcases List.mem_cons.1 ((h x).2 (List.mem_cons_of_mem _ hx)) with e | e
        · have := hm.1 x hx
          rw [e, irr] at this
          cases this
        · exact e)
    rw [this]
theorem sortPl_mem (l : List S37) (x : S37) : x ∈ sortPl l.toArray ↔ x ∈ l := by
  unfold sortPl
  rw [List.mem_mergeSort]
theorem sortPl_sorted (l : List S37) : (sortPl l.toArray).Pairwise (fun x y => ltPl y x = false) := by
  unfold sortPl
  have h := List.pairwise_mergeSort (le := fun x y : S37 => !ltPl y x) (fun a b c h1 h2 => by
    simp only [Bool.not_eq_true'] at *
    rw [Bool.eq_false_iff, Ne, ltPl_iff] at *
    omega) (fun a b => by
    cases h1 : ltPl b a
    · rfl
    · cases h2 : ltPl a b
      · rfl
      · rw [ltPl_iff] at h1 h2
        omega) l
  exact h.imp (fun h => by simpa using h)
theorem compact_mem (d : Array S37) (x : S37) : ∀ m : Nat, m ≤ d.size → (x ∈ compactUpTo d m ↔ ∃ j, j < m ∧ d[j]! = x) := by
  intro m
  induction m with
  | zero => intro _; simp [compactUpTo]
  | succ m ih =>
    intro hm
    rw [compactUpTo_succ, List.mem_append, ih (by omega)]
    constructor
    · rintro (⟨j, h1, h2⟩ | h)
      · exact ⟨j, by omega, h2⟩
      · by_cases c : keeps d m = true
        · rw [if_pos c] at h
          exact ⟨m, by omega, (List.mem_singleton.1 h).symm⟩
        · rw [if_neg c] at h
          simp at h
    · rintro ⟨j, h1, h2⟩
      by_cases e : j < m
      · exact Or.inl ⟨j, e, h2⟩
      · have e : j = m := by omega
        subst e
        by_cases c : keeps d j = true
        · rw [if_pos c]
          exact Or.inr (by rw [h2]; simp)
        · left
          unfold keeps at c
          rw [decide_eq_true_iff] at c
          have c1 : j ≠ 0 := fun h => c (Or.inl h)
          have c2 : d[j]! = d[j - 1]! := Classical.byContradiction fun h => c (Or.inr h)
          exact ⟨j - 1, by omega, by rw [← c2]; exact h2⟩
theorem compact_strict (d : Array S37) (hs : ∀ i j, i < j → j < d.size → ltPl d[j]! d[i]! = false) : ∀ m : Nat, m ≤ d.size → (compactUpTo d m).Pairwise (fun x y => ltPl x y = true) := by
  intro m
  induction m with
  | zero => intro _; simp [compactUpTo]
  | succ m ih =>
    intro hm
    rw [compactUpTo_succ]
    by_cases c : keeps d m = true
    · rw [if_pos c, List.pairwise_append]
      refine ⟨ih (by omega), by simp, fun x hx y hy => ?_⟩
      rw [List.mem_singleton.1 hy]
      obtain ⟨j, hj, rfl⟩ := (compact_mem d x m (by omega)).1 hx
      unfold keeps at c
      rw [decide_eq_true_iff] at c
      have c2 := c.resolve_left (by omega)
      have h1 := ltPl_of_le (hs (m - 1) m (by omega) (by omega)) (fun e => c2 e.symm)
      by_cases e : j = m - 1
      · rw [e]; exact h1
      · by_cases e2 : d[j]! = d[m - 1]!
        · rw [e2]; exact h1
        · exact ltPl_trans (ltPl_of_le (hs j (m - 1) (by omega) (by omega)) e2) h1
    · rw [if_neg c, List.append_nil]
      exact ih (by omega)
theorem compactPl_mem (l : List S37) (x : S37) : x ∈ compactPl l ↔ x ∈ l := by
  unfold compactPl
  have e : (sortPl l.toArray).toArray.size = (sortPl l.toArray).length := by simp
  rw [compact_mem _ _ _ (by rw [e]; exact Nat.le_refl _), ← sortPl_mem l x, List.mem_iff_getElem]
  constructor
  · rintro ⟨j, h1, h2⟩
    exact ⟨j, h1, by rw [← h2, getElem!_pos _ j (by simpa using h1)]; simp⟩
  · rintro ⟨j, h1, h2⟩
    exact ⟨j, h1, by rw [← h2, getElem!_pos _ j (by simpa using h1)]; simp⟩
theorem compactPl_strict (l : List S37) : (compactPl l).Pairwise (fun x y => ltPl x y = true) := by
  unfold compactPl
  have hsz : (sortPl l.toArray).toArray.size = (sortPl l.toArray).length := by simp
  refine compact_strict _ (fun i j h1 h2 => ?_) _ (by simp)
  have h := List.pairwise_iff_getElem.1 (sortPl_sorted l) i j (by simp at h2; omega) (by simpa using h2) h1
  rw [getElem!_pos _ i (by omega), getElem!_pos _ j h2]
  simpa using h
def gr (k : Nat) : S37 := ⟨((k / 12 : Nat) : Int), ((k % 12 : Nat) : Int)⟩
def hit (ps : List S29) (p : S37) : Bool := ps.any fun q => meetB [p] q.f2
def gridF (ps : List S29) (k : Nat) : List S37 := ((List.range k).map gr).filter (hit ps)
theorem gridF_len (ps : List S29) (k : Nat) : (gridF ps k).length ≤ k := by
  unfold gridF
  exact Nat.le_trans (List.length_filter_le _ _) (by simp)
theorem gr_lt {i j : Nat} (h : i < j) : ltPl (gr i) (gr j) = true := by
  rw [ltPl_iff]
  unfold gr
  simp only
  omega
theorem gridF_strict (ps : List S29) (k : Nat) : (gridF ps k).Pairwise (fun x y => ltPl x y = true) := by
  unfold gridF
  refine List.Pairwise.filter _ ?_
  rw [List.pairwise_map]
  exact List.pairwise_lt_range.imp (fun h => gr_lt h)
theorem hit_iff (ps : List S29) (p : S37) : hit ps p = true ↔ p ∈ placesAll ps := by
  unfold hit placesAll
  rw [List.any_eq_true, List.mem_flatMap]
  constructor
  · rintro ⟨q, hq, h⟩
    obtain ⟨x, h1, h2⟩ := (meetB_iff _ _).1 h
    rw [List.mem_singleton.1 h1] at h2
    exact ⟨q, hq, h2⟩
  · rintro ⟨q, hq, h⟩
    exact ⟨q, hq, (meetB_iff _ _).2 ⟨p, by simp, h⟩⟩
theorem gr_at {n : Int} {p : S37} (h : PlaceIn n p) : ∃ k : Nat, (k : Int) < 12 * n ∧ gr k = p := by
  obtain ⟨⟨h0, h1⟩, h2, h3⟩ := h
  refine ⟨p.f0.toNat * 12 + p.f1.toNat, by omega, ?_⟩
  unfold gr
  cases p
  simp only at *
  simp only [S37.mk.injEq]
  omega
theorem rootPl_grid (n tx : Int) (vs : List S65) (h : rootB n tx vs = true) : rootPl n tx vs = gridF (ptrs vs) (12 * n).toNat := by
  unfold rootPl
  rw [if_pos h]
  unfold rootB at h
  simp only [Bool.and_eq_true, decide_eq_true_iff] at h
  have hg := vols_good h.2.2.2.1
  refine strict_unique _ _ (compactPl_strict _) (gridF_strict _ _) fun x => ?_
  rw [compactPl_mem, ← hit_iff]
  unfold gridF
  rw [List.mem_filter, List.mem_map]
  refine ⟨fun hx => ⟨?_, hx⟩, fun hx => hx.2⟩
  obtain ⟨q, hq, hxq⟩ := List.mem_flatMap.1 ((hit_iff _ _).1 hx)
  have hpg := (of_decide_eq_true (hg.2.2 q hq)).2
  have hin : PlaceIn n x := by
    rcases hpg with hh | hh
    · rw [List.eq_nil_of_length_eq_zero hh.2.2] at hxq
      simp at hxq
    · obtain ⟨i, hi, rfl⟩ := List.getElem_of_mem hxq
      have := (hh.2.2.2 i hi).1
      simpa [plAt, List.getD, hi] using this
  obtain ⟨k, hk, e⟩ := gr_at hin
  exact ⟨k, List.mem_range.2 (by omega), e⟩
end Go.Proofs.Ytkoimmeghdbodaa.Pure
namespace Go.Proofs.Ytkoimmeghdbodaa.Print
open Go.RowKit Go.Lib Go.Maps Go.WideMaps Go.Proofs.YtkoimmeghdbodaaW.PrintWords Go.Proofs.YtkoimmeghdbodaaW.PrintLast Go.Proofs.YtkoimmeghdbodaaW.PrintMore Go.Proofs.Ytkoimmeghdbodaa.Pure
def flatF (U : List S37) (d : Nat) : List S37 := (List.range d).flatMap fun e => freeP U e 12
theorem flatF_succ (U : List S37) (d : Nat) : flatF U (d + 1) = flatF U d ++ freeP U d 12 := by
  simp only [flatF, List.range_succ, List.flatMap_append, List.flatMap_cons, List.flatMap_nil, List.append_nil]
theorem flatF_len (U : List S37) (d : Nat) : (flatF U d).length ≤ 12 * d := by
  induction d with
  | zero => simp [flatF]
  | succ d ih =>
    rw [flatF_succ, List.length_append]
    have := freeP_len U d 12
    omega
theorem Lst_done (U : List S37) {d nn : Nat} (h : d < nn) : Lst U nn 0 d = freeP U d 12 := by
  unfold Lst
  rw [if_pos h]
theorem rootPl_small {n tx : Int} {vs : List S65} (h : rootB n tx vs = true) : (rootPl n tx vs).length ≤ 48 ∧ 3 ≤ n ∧ n ≤ 4 := by
  rw [rootPl_grid n tx vs h]
  have := gridF_len (ptrs vs) (12 * n).toNat
  unfold rootB at h
  simp only [Bool.and_eq_true, decide_eq_true_iff] at h
  omega
def spaceI (n txa txb : Int) (la lb : List S65) : List S37 := if (rootB n txa la && rootB n txb lb) = true then flatF (rootPl n txa la ++ rootPl n txb lb) n.toNat else []
set_option maxHeartbeats 16000000 in
set_option maxRecDepth 100000 in
theorem spaceFree_call (n txa txb : Int) (Aa Ab : Option Addr) (ca cb : Nat) (la lb : List S65) (w : World)
    (hra : Kd.C k65 w Aa la.length la) (hca : la.length ≤ ca) (hsa : ∀ x ∈ la, ∀ y ∈ x.f1, y.f2.length ≤ 1048576)
    (hrb : Kd.C k65 w Ab lb.length lb) (hcb : lb.length ≤ cb) (hsb : ∀ x ∈ lb, ∀ y ∈ x.f1, y.f2.length ≤ 1048576) :
    Calls Try.prog 48 #[.int .i64 n, .agg #[.int .i64 txa, .slice Aa la.length ca], .agg #[.int .i64 txb, .slice Ab lb.length cb]] w fun e w' => ∃ v, e = .returned v ∧ Kd.R k37 37 w' w.heap.size (fun _ => True) v (spaceI n txa txb la lb) ∧ Below w.heap.size w w' := by
  have hu37 := Try.underlying37
  have hu57 := Try.underlying57
  have small : ∀ (tx : Int) (l : List S65), (∀ x ∈ l, ∀ y ∈ x.f1, y.f2.length ≤ 1048576) → impl_RootOk.f n tx l = some (rootB n tx l) := fun tx l h => by
    unfold impl_RootOk.f
    rw [if_pos]
    exact List.all_eq_true.2 fun x hx => List.all_eq_true.2 fun y hy => decide_eq_true (h x hx y hy)
  have HROa := Az.mk (fun (W : World) (hb : Below w.heap.size w W) => impl_RootOk.calls n txa Aa ca la (rootB n txa la) W (Kd.C_below hra hb) hca (small txa la hsa))
  have HROb := Az.mk (fun (W : World) (hb : Below w.heap.size w W) => impl_RootOk.calls n txb Ab cb lb (rootB n txb lb) W (Kd.C_below hrb hb) hcb (small txb lb hsb))
  have b1 : Blk (w.alloc (.cells #[.int .i64 txa, .slice Aa la.length ca] 57)) w.heap.size #[.int .i64 txa, .slice Aa la.length ca] 57 := Blk.made _ _ _
  have b2 := Blk.made (w.alloc (.cells #[.int .i64 txa, .slice Aa la.length ca] 57)) #[.int .i64 txb, .slice Ab lb.length cb] 57
  rw [World.size_alloc] at b2
  have b1 := b1.alloc (.cells #[.int .i64 txb, .slice Ab lb.length cb] 57)
  have hB0 : Below w.heap.size w ((w.alloc (.cells #[.int .i64 txa, .slice Aa la.length ca] 57)).alloc (.cells #[.int .i64 txb, .slice Ab lb.length cb] 57)) := by
    have h1 : Below w.heap.size w (w.alloc (.cells #[.int .i64 txa, .slice Aa la.length ca] 57)) := (Below.refl w.heap.size w).alloc (Nat.le_refl _) _
    exact h1.alloc (by simp) _
  have BA := Az.mk b1
  have BB := Az.mk b2
  have HB := Az.mk hB0
  have hca_0 := (BA.out.cell 0).trans rfl
  have hca_1 := (BA.out.cell 1).trans rfl
  have hcb_0 := (BB.out.cell 0).trans rfl
  have hcb_1 := (BB.out.cell 1).trans rfl
  have tk0 : True := trivial
  clear b1 b2 hB0 small
  have hsp : spaceI n txa txb la lb = if (rootB n txa la && rootB n txb lb) = true then flatF (rootPl n txa la ++ rootPl n txb lb) n.toNat else [] := rfl
  generalize spaceI n txa txb la lb = res at hsp ⊢
  cases ea : rootB n txa la with
  | false =>
    rw [ea] at HROa hsp
    have HE : Az (res = []) := ⟨by rw [hsp]; rfl⟩
    clear hra hrb hca hcb hsa hsb hsp ea
    go_enter Try.func48, Try.ntmps48
    go_wp2_with (first | (go_at_call 38; have _tk := tk0; refine (HROa.out _ HB.out).mono ?_; rintro e w12 ⟨rfl, hb⟩; have BA2 := Az.mk (BA.out.below hb); have BB2 := Az.mk (BB.out.below hb); have HB2 := Az.mk (HB.out.trans (hb.mono HB.out.size)); clear BA BB HB hca_0 hca_1 hcb_0 hcb_1; have BA := BA2; have BB := BB2; have HB := HB2; clear BA2 BB2 HB2; have hca_0 := (BA.out.cell 0).trans rfl; have hca_1 := (BA.out.cell 1).trans rfl; have hcb_0 := (BB.out.cell 0).trans rfl; have hcb_1 := (BB.out.cell 1).trans rfl; clear hb; clear tk0 _tk; have tk1 : True := trivial) | go_in)
    go_ret
    exact ⟨_, rfl, by rw [HE.out]; exact Kd.R_nil _ _ _ _ _, HB.out⟩
  | true =>
    rw [ea] at HROa hsp
    cases eb : rootB n txb lb with
    | false =>
      rw [eb] at HROb hsp
      have HE : Az (res = []) := ⟨by rw [hsp]; rfl⟩
      clear hra hrb hca hcb hsa hsb hsp ea eb
      go_enter Try.func48, Try.ntmps48
      go_wp2_with (first | (go_at_call 38; have _tk := tk0; refine (HROa.out _ HB.out).mono ?_; rintro e w12 ⟨rfl, hb⟩; have BA2 := Az.mk (BA.out.below hb); have BB2 := Az.mk (BB.out.below hb); have HB2 := Az.mk (HB.out.trans (hb.mono HB.out.size)); clear BA BB HB hca_0 hca_1 hcb_0 hcb_1; have BA := BA2; have BB := BB2; have HB := HB2; clear BA2 BB2 HB2; have hca_0 := (BA.out.cell 0).trans rfl; have hca_1 := (BA.out.cell 1).trans rfl; have hcb_0 := (BB.out.cell 0).trans rfl; have hcb_1 := (BB.out.cell 1).trans rfl; clear hb; clear tk0 _tk; have tk1 : True := trivial) | (go_at_call 38; have _tk := tk1; refine (HROb.out _ HB.out).mono ?_; rintro e w17 ⟨rfl, hb⟩; have BA2 := Az.mk (BA.out.below hb); have BB2 := Az.mk (BB.out.below hb); have HB2 := Az.mk (HB.out.trans (hb.mono HB.out.size)); clear BA BB HB hca_0 hca_1 hcb_0 hcb_1; have BA := BA2; have BB := BB2; have HB := HB2; clear BA2 BB2 HB2; have hca_0 := (BA.out.cell 0).trans rfl; have hca_1 := (BA.out.cell 1).trans rfl; have hcb_0 := (BB.out.cell 0).trans rfl; have hcb_1 := (BB.out.cell 1).trans rfl; clear hb; clear tk1 _tk; have tk2 : True := trivial) | go_in)
      go_ret
      exact ⟨_, rfl, by rw [HE.out]; exact Kd.R_nil _ _ _ _ _, HB.out⟩
    | true =>
      rw [eb] at HROb hsp
      have sa := rootPl_small ea
      have sb := rootPl_small eb
      obtain ⟨nn, hnn⟩ := Int.eq_ofNat_of_zero_le (show 0 ≤ n by omega)
      have hn4 : nn ≤ 4 := by omega
      have HFR := Az.mk (fun (W : World) (hb : Below w.heap.size w W) => free_call nn txa txb Aa Ab ca cb la lb W hn4 (Kd.C_below hra hb) hca hsa (Kd.C_below hrb hb) hcb hsb n hnn (by omega))
      obtain ⟨U, hU⟩ : ∃ U, U = rootPl n txa la ++ rootPl n txb lb := ⟨_, rfl⟩
      rw [← hU] at hsp HFR
      have HE : Az (res = flatF U nn) := ⟨by rw [hsp, hnn]; rfl⟩
      have HNN := Az.mk hnn
      have HN4 := Az.mk hn4
      clear hra hrb hca hcb hsa hsb hsp ea eb sa sb hnn hn4 hU
      go_enter Try.func48, Try.ntmps48
      go_wp2_with (first | (go_at_call 38; have _tk := tk0; refine (HROa.out _ HB.out).mono ?_; rintro e w12 ⟨rfl, hb⟩; have BA2 := Az.mk (BA.out.below hb); have BB2 := Az.mk (BB.out.below hb); have HB2 := Az.mk (HB.out.trans (hb.mono HB.out.size)); clear BA BB HB hca_0 hca_1 hcb_0 hcb_1; have BA := BA2; have BB := BB2; have HB := HB2; clear BA2 BB2 HB2; have hca_0 := (BA.out.cell 0).trans rfl; have hca_1 := (BA.out.cell 1).trans rfl; have hcb_0 := (BB.out.cell 0).trans rfl; have hcb_1 := (BB.out.cell 1).trans rfl; clear hb; clear tk0 _tk; have tk1 : True := trivial) | (go_at_call 38; have _tk := tk1; refine (HROb.out _ HB.out).mono ?_; rintro e w17 ⟨rfl, hb⟩; have BA2 := Az.mk (BA.out.below hb); have BB2 := Az.mk (BB.out.below hb); have HB2 := Az.mk (HB.out.trans (hb.mono HB.out.size)); clear BA BB HB hca_0 hca_1 hcb_0 hcb_1; have BA := BA2; have BB := BB2; have HB := HB2; clear BA2 BB2 HB2; have hca_0 := (BA.out.cell 0).trans rfl; have hca_1 := (BA.out.cell 1).trans rfl; have hcb_0 := (BB.out.cell 0).trans rfl; have hcb_1 := (BB.out.cell 1).trans rfl; clear hb; clear tk1 _tk; have tk2 : True := trivial) | (go_at_call 90; refine (HFR.out _ HB.out).mono ?_; rintro e w23 ⟨b, m, D, V, rfl, hbb, hG, hb⟩; have HG := Az.mk hG; have HBB := Az.mk hbb; have BA2 := Az.mk (BA.out.below hb); have BB2 := Az.mk (BB.out.below hb); have HB2 := Az.mk (HB.out.trans (hb.mono HB.out.size)); clear BA BB HB hca_0 hca_1 hcb_0 hcb_1; have BA := BA2; have BB := BB2; have HB := HB2; clear BA2 BB2 HB2; have hca_0 := (BA.out.cell 0).trans rfl; have hca_1 := (BA.out.cell 1).trans rfl; have hcb_0 := (BB.out.cell 0).trans rfl; have hcb_1 := (BB.out.cell 1).trans rfl; clear hb hG hbb) | go_in)
      have HS0 := Az.mk (Below.refl w23.heap.size w23)
      have HBW := Az.mk HB.out
      clear HB hca_0 hca_1 hcb_0 hcb_1
      go_loopg [8, 25] nn (fun kq v8 v25 wr => ∃ (d : Nat), v25 = .int .i64 (d : Int) ∧ Az (d + kq = nn) ∧ Az (Kd.R k37 37 wr w23.heap.size (fun _ => True) v8 (flatF U d)) ∧ Az (Below w23.heap.size w23 wr))
      case atStart => exact ⟨0, rfl, ⟨Nat.zero_add _⟩, ⟨Kd.R_nil _ _ _ _ _⟩, HS0⟩
      case round =>
        obtain ⟨d, rfl, HI, HR, HBR⟩ := hrel
        by_cases e1 : d < nn
        · have e1b : decide ((d : Int) < n) = true := decide_eq_true (by rw [HNN.out]; omega)
          have HDN := Az.mk e1
          have hd4 : d < 4 := by have := HN4.out; omega
          have HWd : Az (wrap64 ((d : Int) + 1) = ((d + 1 : Nat) : Int)) := ⟨by rw [Pure.wrap_ok (by omega)]; omega⟩
          have HG2 := Az.mk (HG.out.below HBR.out)
          obtain ⟨A2, c2, hV, hlc, hC2⟩ := Kd.R_reads (HG2.out.row d hd4)
          have HVD := Az.mk ((HG2.out.at_ d hd4).trans (by rw [hV]))
          have HC2 := Az.mk hC2
          have HKY := Az.mk (kI_key (d := d) (by omega))
          have HLN : Az ((flatF U d).length + (Lst U nn 0 d).length ≤ 1000) := ⟨by
            rw [Lst_done U e1]
            have := freeP_len U d 12
            have := flatF_len U d
            omega⟩
          have HFS := Az.mk (flatF_succ U d)
          have HLD := Az.mk (Lst_done U e1)
          clear hV hlc hC2 hd4 e1
          go_wp2_with (first | (at_lookup; refine lookup_one rfl _ _ 108 rfl 3 27 ilaw Try.underlying108 RE (szero _) zS [] rfl b m D rfl HG2.out.own (.int .i64 (d : Int)) (kI d) rfl HKY.out (.slice A2 (Lst U nn 0 d).length c2) (fun v qs h => re_inv h HVD.out) ?_) | ((with_reducible refine zqg (N := 32) rfl ?_); refine Kd.R_append_rows k37 (Rr := k37.K wr) (w0 := w23) w23.heap.size rfl (.tmp 28) (.tmp 31) 27 37 (.agg #[.int .i64 0, .int .i64 0]) 16 rfl Try.underlying27 info37 rfl (by decide) (by omega) u8 (flatF U d) (Lst U nn 0 d) A2 (Lst U nn 0 d).length c2 (fun _ => True) (fun k => some k ≠ u8.ownBlock) rfl rfl HR.out HC2.out (fun x cs h => by rw [k37_open h]; exact k37_mkM _ _ _ x) (fun k hk => ⟨trivial, hk⟩) (fun _ _ => trivial) HBR.out HBR.out.size (by have := HLN.out; omega) ?_; intro v1 w1 hR1 hB1 hg1 hat1; have R1 := Az.mk hR1; have B1w := Az.mk hB1; clear hR1 hB1 hg1 hat1) | go_in)
          go_roundg (nn - (d + 1))
          case measure => have := HI.out; have := HDN.out; omega
          case rel => exact ⟨d + 1, by rw [← HWd.out], ⟨by have := HI.out; have := HDN.out; omega⟩, ⟨by rw [HFS.out, ← HLD.out]; exact R1.out⟩, B1w⟩
        · have e1b : decide ((d : Int) < n) = false := decide_eq_false (by rw [HNN.out]; omega)
          have hd : d = nn := by have := HI.out; omega
          subst hd
          go_wp2
          go_ret
          exact ⟨u8, rfl, by rw [HE.out]; exact Kd.R_lower HR.out HBW.out.size, HBW.out.trans (HBR.out.mono HBW.out.size)⟩
end Go.Proofs.Ytkoimmeghdbodaa.Print
namespace Go.Proofs.Ytkoimmeghdbodaa.Print
open Go.RowKit Go.Proofs.YtkoimmeghdbodaaW.PrintWords Go.Proofs.YtkoimmeghdbodaaW.PrintLast Go.Proofs.YtkoimmeghdbodaaW.PrintMore
attribute [local go_sem] max2_int min2_int max_two min_two max_three min_three max_four min_four
attribute [local go_sem high] eqA37
mutual
def spec_l12Used.l0 : Nat → List (S29) → Int → Int → Int → Option (Bool)
 | 0, _, _, _, _ => none
 | k + 1, x5, x6, x648000, x648001 => if x6 < (x5.length : Int) then (spec_l12Used.l1 k x5 x6 0 x648000 x648001) else (some false)
def spec_l12Used.l1 : Nat → List (S29) → Int → Int → Int → Int → Option (Bool)
 | 0, _, _, _, _, _ => none
 | k + 1, x5, x6, x7, x648000, x648001 => if 0 ≤ x6 then (if x6 < (x5.length : Int) then (if x7 < (((rd_T29 x5 x6).f2).length : Int) then (if 0 ≤ x7 then (if (((rd_T37 ((rd_T29 x5 x6).f2) x7).f0) == x648000 && (((rd_T37 ((rd_T29 x5 x6).f2) x7).f1) == x648001)) = true then (some true) else (spec_l12Used.l1 k x5 x6 (wrap64 (x7 + 1)) x648000 x648001)) else (none)) else (spec_l12Used.l0 k x5 (wrap64 (x6 + 1)) x648000 x648001)) else (none)) else (none)
end
def spec_l12Used.f (k : Nat) (a0_0 : Int) (l0_1 : List (S65)) (a1_0 : Int) (a1_1 : Int) : Option (Bool) := (spec_l2All.f k a0_0 l0_1).bind fun t648 => (spec_l12Used.l0 k t648 0 a1_0 a1_1)
set_option maxHeartbeats 8000000 in
set_option maxRecDepth 100000 in
theorem spec_l12Used.calls (k : Nat) (a0_0 : Int) (A0_1 : Option Addr) (c0_1 : Nat) (l0_1 : List (S65)) (a1_0 : Int) (a1_1 : Int) (r : Bool) (w : World) (hr0_1 : Kd.C k65 w A0_1 l0_1.length l0_1) (hc0_1 : l0_1.length ≤ c0_1) (h : spec_l12Used.f k a0_0 l0_1 a1_0 a1_1 = some r) :
  Calls Try.prog 117 #[.agg #[.int .i64 a0_0, .slice A0_1 l0_1.length c0_1], .agg #[.int .i64 a1_0, .int .i64 a1_1]] w fun e w' => e = .returned (.bool r) ∧ Below w.heap.size w w' := by
 have hu57 := Try.underlying57
 have hu37 := Try.underlying37
 have HR0_1 := Az.mk hr0_1
 have HC0_1 := Az.mk hc0_1
 clear hr0_1 hc0_1
 have HB := Az.mk (Below.refl w.heap.size w)
 have H : ((spec_l2All.f k a0_0 l0_1).bind fun t648 => (spec_l12Used.l0 k t648 0 a1_0 a1_1)) = some r := h
 clear h
 replace H := Option.bind_eq_some_iff.mp H
 obtain ⟨t648, A30, H⟩ := H
 replace H : (spec_l12Used.l0 k t648 0 a1_0 a1_1) = some r := H
 have A3 := Az.mk A30
 clear A30
 have H' := Az.mk H
 clear H
 go_enter Try.func117, Try.ntmps117
 go_wp2_with (first | ((with_reducible refine zqg (N := 2) rfl ?_); refine zqb ?hg (N := 2) ?hd (cs := #[.int .i64 a0_0, .slice A0_1 l0_1.length c0_1]) (t := 57) ?hr ?_; (case hd => rfl); (case hg => rfl); (case hr => first | (go_simp; done) | (go_simp; rfl)); intro gb646 hg w4 hbox hb; have n0_ := Az.mk (below_step zB hb); have n1_ := Az.mk (hbox); have n2_ := Az.mk ((by rw [hg]; exact (below_size zB) : w.heap.size ≤ gb646)); have n3_ := Az.mk ((by rw [hg]; exact (below_size zB) : w.heap.size ≤ gb646)); clear HB; have HB := n0_; have BK646 := n1_; have GW646 := n2_; have GE646 := n3_; clear n0_ n1_ n2_ n3_; clear hb hbox hg) | ((with_reducible refine zqg (N := 3) rfl ?_); refine zqb ?hg (N := 3) ?hd (cs := #[.int .i64 a1_0, .int .i64 a1_1]) (t := 37) ?hr ?_; (case hd => rfl); (case hg => rfl); (case hr => first | (go_simp; done) | (go_simp; rfl)); intro gb647 hg w5 hbox hb; have n0_ := Az.mk (blk_below (g := gb646) (o := .cells #[.int .i64 a0_0, .slice A0_1 l0_1.length c0_1] 57 (0, 0)) (by (with_reducible repeat (first | refine zq6 ?_ _ | refine zq8 ?_ | refine zq7 ?_ _)); exact BK646.out) hb); have n1_ := Az.mk (below_step (by repeat (first | (with_reducible first | exact HB.out | apply zq2 | apply zq1 | apply zqd | refine zq3 ?_ GE646.out) | exact HB.out)) hb); have n2_ := Az.mk (hbox); have n3_ := Az.mk ((by rw [hg]; exact (below_size (by repeat (first | (with_reducible first | exact HB.out | apply zq2 | apply zq1 | apply zqd | refine zq3 ?_ GE646.out) | exact HB.out))) : w.heap.size ≤ gb647)); have n4_ := Az.mk ((by rw [hg]; exact (below_size (by repeat (first | (with_reducible first | exact HB.out | apply zq2 | apply zq1 | apply zqd | refine zq3 ?_ GE646.out) | exact HB.out))) : w.heap.size ≤ gb647)); have n5_ := Az.mk ((by rw [hg]; exact Nat.ne_of_lt (blk_lt (g := gb646) (o := .cells #[.int .i64 a0_0, .slice A0_1 l0_1.length c0_1] 57 (0, 0)) (by (with_reducible repeat (first | refine zq6 ?_ _ | refine zq8 ?_ | refine zq7 ?_ _)); exact BK646.out)) : gb646 ≠ gb647)); have n6_ := Az.mk ((by rw [hg]; exact Nat.ne_of_gt (blk_lt (g := gb646) (o := .cells #[.int .i64 a0_0, .slice A0_1 l0_1.length c0_1] 57 (0, 0)) (by (with_reducible repeat (first | refine zq6 ?_ _ | refine zq8 ?_ | refine zq7 ?_ _)); exact BK646.out)) : gb647 ≠ gb646)); clear BK646; clear HB; have BK646 := n0_; have HB := n1_; have BK647 := n2_; have GW647 := n3_; have GE647 := n4_; have NB646_647 := n5_; have NB647_646 := n6_; clear n0_ n1_ n2_ n3_ n4_ n5_ n6_; clear hb hbox hg; have hnb6 := NB646_647.out; have hnc6 := NB647_646.out; have hcz7_0 : w5.cell? ⟨gb646, 0, none⟩ = some (.int .i64 a0_0) := (zq4 BK646.out 0).trans rfl; have hcz7_1 : w5.cell? ⟨gb646, 1, none⟩ = some (.slice A0_1 l0_1.length c0_1) := (zq4 BK646.out 1).trans rfl; have hfz7_0 := zq5 BK646.out 0; have hfz7_1 := zq5 BK646.out 1) | (go_at_call 86; (with_reducible refine (spec_l2All.calls k a0_0 (fun k_ => k_ < w.heap.size) _ _ l0_1 t648 _ ?side1 A3.out).mono ?_); (case side1 => exact Kd.V_mk HC0_1.out (Kd.F_below (Kd.C_F k65_heap HR0_1.out) (by repeat (first | (with_reducible first | exact HB.out | apply zq2 | apply zq1 | apply zqd | refine zq3 ?_ GE646.out | refine zq3 ?_ GE647.out) | exact HB.out)))); rintro e w8 ⟨v649, rfl, ho0, hb⟩; have n0_ := Az.mk (Kd.N_lower (Kd.N_mono (ok' := fun k_ => k_ ≠ gb646 ∧ k_ ≠ gb647) ho0 (fun k_ hk_ => ⟨Or.elim hk_ (fun hs_ => fun e_ => Nat.not_le.2 hs_ (by rw [e_]; exact GW646.out)) (fun hn_ => (Kd.freshB (g := gb646) (o := .cells #[.int .i64 a0_0, .slice A0_1 l0_1.length c0_1] 57 (0, 0)) (by (with_reducible repeat (first | refine zq6 ?_ _ | refine zq8 ?_ | refine zq7 ?_ _)); exact BK646.out) k_ hn_)), Or.elim hk_ (fun hs_ => fun e_ => Nat.not_le.2 hs_ (by rw [e_]; exact GW647.out)) (fun hn_ => (Kd.freshB (g := gb647) (o := .cells #[.int .i64 a1_0, .int .i64 a1_1] 37 (0, 0)) (by (with_reducible repeat (first | refine zq6 ?_ _ | refine zq8 ?_ | refine zq7 ?_ _)); exact BK647.out) k_ hn_))⟩)) (below_size (by repeat (first | (with_reducible first | exact HB.out | apply zq2 | apply zq1 | apply zqd | refine zq3 ?_ GE646.out | refine zq3 ?_ GE647.out) | exact HB.out)))); have n1_ := Az.mk (blk_below (g := gb646) (o := .cells #[.int .i64 a0_0, .slice A0_1 l0_1.length c0_1] 57 (0, 0)) (by (with_reducible repeat (first | refine zq6 ?_ _ | refine zq8 ?_ | refine zq7 ?_ _)); exact BK646.out) hb); have n2_ := Az.mk (blk_below (g := gb647) (o := .cells #[.int .i64 a1_0, .int .i64 a1_1] 37 (0, 0)) (by (with_reducible repeat (first | refine zq6 ?_ _ | refine zq8 ?_ | refine zq7 ?_ _)); exact BK647.out) hb); have n3_ := Az.mk (below_step (by repeat (first | (with_reducible first | exact HB.out | apply zq2 | apply zq1 | apply zqd | refine zq3 ?_ GE646.out | refine zq3 ?_ GE647.out) | exact HB.out)) hb); clear BK646; clear BK647; clear HB; have HO650 := n0_; have BK646 := n1_; have BK647 := n2_; have HB := n3_; clear n0_ n1_ n2_ n3_; (try clear hb); (try clear hb2); (try clear hk); (try clear hi); (try clear ho0)))
 repeat (go_quiet (first | ((with_reducible refine zqg (N := 2) rfl ?_); refine zqb ?hg (N := 2) ?hd (cs := #[.int .i64 a0_0, .slice A0_1 l0_1.length c0_1]) (t := 57) ?hr ?_; (case hd => rfl); (case hg => rfl); (case hr => first | (go_simp; done) | (go_simp; rfl)); intro gb646 hg w4 hbox hb; have n0_ := Az.mk (below_step zB hb); have n1_ := Az.mk (hbox); have n2_ := Az.mk ((by rw [hg]; exact (below_size zB) : w.heap.size ≤ gb646)); have n3_ := Az.mk ((by rw [hg]; exact (below_size zB) : w.heap.size ≤ gb646)); clear HB; have HB := n0_; have BK646 := n1_; have GW646 := n2_; have GE646 := n3_; clear n0_ n1_ n2_ n3_; clear hb hbox hg) | ((with_reducible refine zqg (N := 3) rfl ?_); refine zqb ?hg (N := 3) ?hd (cs := #[.int .i64 a1_0, .int .i64 a1_1]) (t := 37) ?hr ?_; (case hd => rfl); (case hg => rfl); (case hr => first | (go_simp; done) | (go_simp; rfl)); intro gb647 hg w5 hbox hb; have n0_ := Az.mk (blk_below (g := gb646) (o := .cells #[.int .i64 a0_0, .slice A0_1 l0_1.length c0_1] 57 (0, 0)) (by (with_reducible repeat (first | refine zq6 ?_ _ | refine zq8 ?_ | refine zq7 ?_ _)); exact BK646.out) hb); have n1_ := Az.mk (below_step (by repeat (first | (with_reducible first | exact HB.out | apply zq2 | apply zq1 | apply zqd | refine zq3 ?_ GE646.out) | exact HB.out)) hb); have n2_ := Az.mk (hbox); have n3_ := Az.mk ((by rw [hg]; exact (below_size (by repeat (first | (with_reducible first | exact HB.out | apply zq2 | apply zq1 | apply zqd | refine zq3 ?_ GE646.out) | exact HB.out))) : w.heap.size ≤ gb647)); have n4_ := Az.mk ((by rw [hg]; exact (below_size (by repeat (first | (with_reducible first | exact HB.out | apply zq2 | apply zq1 | apply zqd | refine zq3 ?_ GE646.out) | exact HB.out))) : w.heap.size ≤ gb647)); have n5_ := Az.mk ((by rw [hg]; exact Nat.ne_of_lt (blk_lt (g := gb646) (o := .cells #[.int .i64 a0_0, .slice A0_1 l0_1.length c0_1] 57 (0, 0)) (by (with_reducible repeat (first | refine zq6 ?_ _ | refine zq8 ?_ | refine zq7 ?_ _)); exact BK646.out)) : gb646 ≠ gb647)); have n6_ := Az.mk ((by rw [hg]; exact Nat.ne_of_gt (blk_lt (g := gb646) (o := .cells #[.int .i64 a0_0, .slice A0_1 l0_1.length c0_1] 57 (0, 0)) (by (with_reducible repeat (first | refine zq6 ?_ _ | refine zq8 ?_ | refine zq7 ?_ _)); exact BK646.out)) : gb647 ≠ gb646)); clear BK646; clear HB; have BK646 := n0_; have HB := n1_; have BK647 := n2_; have GW647 := n3_; have GE647 := n4_; have NB646_647 := n5_; have NB647_646 := n6_; clear n0_ n1_ n2_ n3_ n4_ n5_ n6_; clear hb hbox hg; have hnb6 := NB646_647.out; have hnc6 := NB647_646.out; have hcz7_0 : w5.cell? ⟨gb646, 0, none⟩ = some (.int .i64 a0_0) := (zq4 BK646.out 0).trans rfl; have hcz7_1 : w5.cell? ⟨gb646, 1, none⟩ = some (.slice A0_1 l0_1.length c0_1) := (zq4 BK646.out 1).trans rfl; have hfz7_0 := zq5 BK646.out 0; have hfz7_1 := zq5 BK646.out 1) | (go_at_call 86; (with_reducible refine (spec_l2All.calls k a0_0 (fun k_ => k_ < w.heap.size) _ _ l0_1 t648 _ ?side1 A3.out).mono ?_); (case side1 => exact Kd.V_mk HC0_1.out (Kd.F_below (Kd.C_F k65_heap HR0_1.out) (by repeat (first | (with_reducible first | exact HB.out | apply zq2 | apply zq1 | apply zqd | refine zq3 ?_ GE646.out | refine zq3 ?_ GE647.out) | exact HB.out)))); rintro e w8 ⟨v649, rfl, ho0, hb⟩; have n0_ := Az.mk (Kd.N_lower (Kd.N_mono (ok' := fun k_ => k_ ≠ gb646 ∧ k_ ≠ gb647) ho0 (fun k_ hk_ => ⟨Or.elim hk_ (fun hs_ => fun e_ => Nat.not_le.2 hs_ (by rw [e_]; exact GW646.out)) (fun hn_ => (Kd.freshB (g := gb646) (o := .cells #[.int .i64 a0_0, .slice A0_1 l0_1.length c0_1] 57 (0, 0)) (by (with_reducible repeat (first | refine zq6 ?_ _ | refine zq8 ?_ | refine zq7 ?_ _)); exact BK646.out) k_ hn_)), Or.elim hk_ (fun hs_ => fun e_ => Nat.not_le.2 hs_ (by rw [e_]; exact GW647.out)) (fun hn_ => (Kd.freshB (g := gb647) (o := .cells #[.int .i64 a1_0, .int .i64 a1_1] 37 (0, 0)) (by (with_reducible repeat (first | refine zq6 ?_ _ | refine zq8 ?_ | refine zq7 ?_ _)); exact BK647.out) k_ hn_))⟩)) (below_size (by repeat (first | (with_reducible first | exact HB.out | apply zq2 | apply zq1 | apply zqd | refine zq3 ?_ GE646.out | refine zq3 ?_ GE647.out) | exact HB.out)))); have n1_ := Az.mk (blk_below (g := gb646) (o := .cells #[.int .i64 a0_0, .slice A0_1 l0_1.length c0_1] 57 (0, 0)) (by (with_reducible repeat (first | refine zq6 ?_ _ | refine zq8 ?_ | refine zq7 ?_ _)); exact BK646.out) hb); have n2_ := Az.mk (blk_below (g := gb647) (o := .cells #[.int .i64 a1_0, .int .i64 a1_1] 37 (0, 0)) (by (with_reducible repeat (first | refine zq6 ?_ _ | refine zq8 ?_ | refine zq7 ?_ _)); exact BK647.out) hb); have n3_ := Az.mk (below_step (by repeat (first | (with_reducible first | exact HB.out | apply zq2 | apply zq1 | apply zqd | refine zq3 ?_ GE646.out | refine zq3 ?_ GE647.out) | exact HB.out)) hb); clear BK646; clear BK647; clear HB; have HO650 := n0_; have BK646 := n1_; have BK647 := n2_; have HB := n3_; clear n0_ n1_ n2_ n3_; (try clear hb); (try clear hb2); (try clear hk); (try clear hi); (try clear ho0))); try go_wp2_with (first | ((with_reducible refine zqg (N := 2) rfl ?_); refine zqb ?hg (N := 2) ?hd (cs := #[.int .i64 a0_0, .slice A0_1 l0_1.length c0_1]) (t := 57) ?hr ?_; (case hd => rfl); (case hg => rfl); (case hr => first | (go_simp; done) | (go_simp; rfl)); intro gb646 hg w4 hbox hb; have n0_ := Az.mk (below_step zB hb); have n1_ := Az.mk (hbox); have n2_ := Az.mk ((by rw [hg]; exact (below_size zB) : w.heap.size ≤ gb646)); have n3_ := Az.mk ((by rw [hg]; exact (below_size zB) : w.heap.size ≤ gb646)); clear HB; have HB := n0_; have BK646 := n1_; have GW646 := n2_; have GE646 := n3_; clear n0_ n1_ n2_ n3_; clear hb hbox hg) | ((with_reducible refine zqg (N := 3) rfl ?_); refine zqb ?hg (N := 3) ?hd (cs := #[.int .i64 a1_0, .int .i64 a1_1]) (t := 37) ?hr ?_; (case hd => rfl); (case hg => rfl); (case hr => first | (go_simp; done) | (go_simp; rfl)); intro gb647 hg w5 hbox hb; have n0_ := Az.mk (blk_below (g := gb646) (o := .cells #[.int .i64 a0_0, .slice A0_1 l0_1.length c0_1] 57 (0, 0)) (by (with_reducible repeat (first | refine zq6 ?_ _ | refine zq8 ?_ | refine zq7 ?_ _)); exact BK646.out) hb); have n1_ := Az.mk (below_step (by repeat (first | (with_reducible first | exact HB.out | apply zq2 | apply zq1 | apply zqd | refine zq3 ?_ GE646.out) | exact HB.out)) hb); have n2_ := Az.mk (hbox); have n3_ := Az.mk ((by rw [hg]; exact (below_size (by repeat (first | (with_reducible first | exact HB.out | apply zq2 | apply zq1 | apply zqd | refine zq3 ?_ GE646.out) | exact HB.out))) : w.heap.size ≤ gb647)); have n4_ := Az.mk ((by rw [hg]; exact (below_size (by repeat (first | (with_reducible first | exact HB.out | apply zq2 | apply zq1 | apply zqd | refine zq3 ?_ GE646.out) | exact HB.out))) : w.heap.size ≤ gb647)); have n5_ := Az.mk ((by rw [hg]; exact Nat.ne_of_lt (blk_lt (g := gb646) (o := .cells #[.int .i64 a0_0, .slice A0_1 l0_1.length c0_1] 57 (0, 0)) (by (with_reducible repeat (first | refine zq6 ?_ _ | refine zq8 ?_ | refine zq7 ?_ _)); exact BK646.out)) : gb646 ≠ gb647)); have n6_ := Az.mk ((by rw [hg]; exact Nat.ne_of_gt (blk_lt (g := gb646) (o := .cells #[.int .i64 a0_0, .slice A0_1 l0_1.length c0_1] 57 (0, 0)) (by (with_reducible repeat (first | refine zq6 ?_ _ | refine zq8 ?_ | refine zq7 ?_ _)); exact BK646.out)) : gb647 ≠ gb646)); clear BK646; clear HB; have BK646 := n0_; have HB := n1_; have BK647 := n2_; have GW647 := n3_; have GE647 := n4_; have NB646_647 := n5_; have NB647_646 := n6_; clear n0_ n1_ n2_ n3_ n4_ n5_ n6_; clear hb hbox hg; have hnb6 := NB646_647.out; have hnc6 := NB647_646.out; have hcz7_0 : w5.cell? ⟨gb646, 0, none⟩ = some (.int .i64 a0_0) := (zq4 BK646.out 0).trans rfl; have hcz7_1 : w5.cell? ⟨gb646, 1, none⟩ = some (.slice A0_1 l0_1.length c0_1) := (zq4 BK646.out 1).trans rfl; have hfz7_0 := zq5 BK646.out 0; have hfz7_1 := zq5 BK646.out 1) | (go_at_call 86; (with_reducible refine (spec_l2All.calls k a0_0 (fun k_ => k_ < w.heap.size) _ _ l0_1 t648 _ ?side1 A3.out).mono ?_); (case side1 => exact Kd.V_mk HC0_1.out (Kd.F_below (Kd.C_F k65_heap HR0_1.out) (by repeat (first | (with_reducible first | exact HB.out | apply zq2 | apply zq1 | apply zqd | refine zq3 ?_ GE646.out | refine zq3 ?_ GE647.out) | exact HB.out)))); rintro e w8 ⟨v649, rfl, ho0, hb⟩; have n0_ := Az.mk (Kd.N_lower (Kd.N_mono (ok' := fun k_ => k_ ≠ gb646 ∧ k_ ≠ gb647) ho0 (fun k_ hk_ => ⟨Or.elim hk_ (fun hs_ => fun e_ => Nat.not_le.2 hs_ (by rw [e_]; exact GW646.out)) (fun hn_ => (Kd.freshB (g := gb646) (o := .cells #[.int .i64 a0_0, .slice A0_1 l0_1.length c0_1] 57 (0, 0)) (by (with_reducible repeat (first | refine zq6 ?_ _ | refine zq8 ?_ | refine zq7 ?_ _)); exact BK646.out) k_ hn_)), Or.elim hk_ (fun hs_ => fun e_ => Nat.not_le.2 hs_ (by rw [e_]; exact GW647.out)) (fun hn_ => (Kd.freshB (g := gb647) (o := .cells #[.int .i64 a1_0, .int .i64 a1_1] 37 (0, 0)) (by (with_reducible repeat (first | refine zq6 ?_ _ | refine zq8 ?_ | refine zq7 ?_ _)); exact BK647.out) k_ hn_))⟩)) (below_size (by repeat (first | (with_reducible first | exact HB.out | apply zq2 | apply zq1 | apply zqd | refine zq3 ?_ GE646.out | refine zq3 ?_ GE647.out) | exact HB.out)))); have n1_ := Az.mk (blk_below (g := gb646) (o := .cells #[.int .i64 a0_0, .slice A0_1 l0_1.length c0_1] 57 (0, 0)) (by (with_reducible repeat (first | refine zq6 ?_ _ | refine zq8 ?_ | refine zq7 ?_ _)); exact BK646.out) hb); have n2_ := Az.mk (blk_below (g := gb647) (o := .cells #[.int .i64 a1_0, .int .i64 a1_1] 37 (0, 0)) (by (with_reducible repeat (first | refine zq6 ?_ _ | refine zq8 ?_ | refine zq7 ?_ _)); exact BK647.out) hb); have n3_ := Az.mk (below_step (by repeat (first | (with_reducible first | exact HB.out | apply zq2 | apply zq1 | apply zqd | refine zq3 ?_ GE646.out | refine zq3 ?_ GE647.out) | exact HB.out)) hb); clear BK646; clear BK647; clear HB; have HO650 := n0_; have BK646 := n1_; have BK647 := n2_; have HB := n3_; clear n0_ n1_ n2_ n3_; (try clear hb); (try clear hb2); (try clear hk); (try clear hi); (try clear ho0))))
 go_loopg [6] k (fun kq v6 w' => ∃ (x6_1 : Int), v6 = .int .i64 x6_1 ∧ Az (spec_l12Used.l0 kq t648 x6_1 a1_0 a1_1 = some r) ∧ Az (kq ≤ k) ∧ Az (Kd.N k29 29 w' w.heap.size (fun k_ => k_ ≠ gb646 ∧ k_ ≠ gb647) v649 t648) ∧ Az (w'.heap[gb646]? = some (.cells #[.int .i64 a0_0, (.slice A0_1 l0_1.length c0_1)] 57 (0, 0))) ∧ Az (w'.heap[gb647]? = some (.cells #[.int .i64 a1_0, .int .i64 a1_1] 37 (0, 0))) ∧ Az (Below w.heap.size w w'))
 case atStart => exact ⟨(0), (by first | rfl | (simp; done) | (simp [*]; done)), H', ⟨Nat.le_refl _⟩, ⟨by (with_reducible repeat (first | apply Kd.N_alloc | apply Kd.N_drewN | apply Kd.N_drew)); exact HO650.out⟩, ⟨by (with_reducible repeat (first | refine zq6 ?_ _ | refine zq8 ?_ | refine zq7 ?_ _)); exact BK646.out⟩, ⟨by (with_reducible repeat (first | refine zq6 ?_ _ | refine zq8 ?_ | refine zq7 ?_ _)); exact BK647.out⟩, ⟨by repeat (first | (with_reducible first | exact HB.out | apply zq2 | apply zq1 | apply zqd | refine zq3 ?_ GE646.out | refine zq3 ?_ GE647.out) | exact HB.out)⟩⟩
 case round =>
  clear H'
  try clear c1
  try clear p2
  try clear c6
  try clear hcz7_0
  try clear hcz7_1
  try clear hfz7_0
  try clear hfz7_1
  obtain ⟨x6_1, rfl, HA, HK1, HO_5, BK646, BK647, HB⟩ := hrel
  cases gk with
  | zero => exact absurd HA.out (by simp [spec_l12Used.l0])
  | succ k1 =>
   have H := HA.out
   clear HA
   simp only [spec_l12Used.l0] at H
   by_cases c9 : x6_1 < (t648.length : Int)
   ·rw [if_pos c9] at H
    have c9b0 : decide (x6_1 < (t648.length : Int)) = true := decide_eq_true c9
    clear c9
    have H' := Az.mk H
    clear H
    obtain ⟨Ao10, co10, eo10⟩ := Kd.N_slice HO_5.out
    subst eo10
    go_wp2
    repeat (go_quiet (fail); try go_wp2)
    go_loopg [7] k1 (fun kq v7 w' => ∃ (x7_2 : Int), v7 = .int .i64 x7_2 ∧ Az (spec_l12Used.l1 kq t648 x6_1 x7_2 a1_0 a1_1 = some r) ∧ Az (kq ≤ k1) ∧ Az (Kd.N k29 29 w' w.heap.size (fun k_ => k_ ≠ gb646 ∧ k_ ≠ gb647) (.slice Ao10 t648.length co10) t648) ∧ Az (w'.heap[gb646]? = some (.cells #[.int .i64 a0_0, (.slice A0_1 l0_1.length c0_1)] 57 (0, 0))) ∧ Az (w'.heap[gb647]? = some (.cells #[.int .i64 a1_0, .int .i64 a1_1] 37 (0, 0))) ∧ Az (Below w.heap.size w w'))
    case atStart => exact ⟨(0), (by first | rfl | (simp; done) | (simp [*]; done)), H', ⟨Nat.le_refl _⟩, ⟨by (with_reducible repeat (first | apply Kd.N_alloc | apply Kd.N_drewN | apply Kd.N_drew)); exact HO_5.out⟩, ⟨by (with_reducible repeat (first | refine zq6 ?_ _ | refine zq8 ?_ | refine zq7 ?_ _)); exact BK646.out⟩, ⟨by (with_reducible repeat (first | refine zq6 ?_ _ | refine zq8 ?_ | refine zq7 ?_ _)); exact BK647.out⟩, ⟨by repeat (first | (with_reducible first | exact HB.out | apply zq2 | apply zq1 | apply zqd | refine zq3 ?_ GE646.out | refine zq3 ?_ GE647.out) | exact HB.out)⟩⟩
    case round =>
     clear H'
     try clear c1
     try clear p2
     try clear c6
     try clear c9
     try clear c9b0
     try clear hcz7_0
     try clear hcz7_1
     try clear hfz7_0
     try clear hfz7_1
     try clear p2
     obtain ⟨x7_2, rfl, HA, HK2, HO_5, BK646, BK647, HB⟩ := hrel
     cases gk with
     | zero => exact absurd HA.out (by simp [spec_l12Used.l1])
     | succ k2 =>
      have H := HA.out
      clear HA
      simp only [spec_l12Used.l1] at H
      by_cases c11 : 0 ≤ x6_1
      ·rw [if_pos c11] at H
       have c11b0 : decide (0 ≤ x6_1) = true := decide_eq_true c11
       clear c11
       by_cases c12 : x6_1 < (t648.length : Int)
       ·rw [if_pos c12] at H
        have c12b0 : decide (x6_1 < (t648.length : Int)) = true := decide_eq_true c12
        clear c12
        by_cases c13 : x7_2 < (((rd_T29 t648 x6_1).f2).length : Int)
        ·rw [if_pos c13] at H
         have c13b0 : decide (x7_2 < (((rd_T29 t648 x6_1).f2).length : Int)) = true := decide_eq_true c13
         clear c13
         by_cases c14 : 0 ≤ x7_2
         ·rw [if_pos c14] at H
          have c14b0 : decide (0 ≤ x7_2) = true := decide_eq_true c14
          clear c14
          by_cases c15 : (((rd_T37 ((rd_T29 t648 x6_1).f2) x7_2).f0) == a1_0 && (((rd_T37 ((rd_T29 t648 x6_1).f2) x7_2).f1) == a1_1)) = true
          ·rw [if_pos c15] at H
           have c15b0 : (((rd_T37 ((rd_T29 t648 x6_1).f2) x7_2).f0) == a1_0 && (((rd_T37 ((rd_T29 t648 x6_1).f2) x7_2).f1) == a1_1)) = true := c15
           (try (have c15b1 : decide (((rd_T37 ((rd_T29 t648 x6_1).f2) x7_2).f0) = a1_0 && (((rd_T37 ((rd_T29 t648 x6_1).f2) x7_2).f1) == a1_1)) = true := by simpa using c15))
           (try (have c15b2 : (((rd_T37 ((rd_T29 t648 x6_1).f2) x7_2).f0) == a1_0 && (((rd_T37 ((rd_T29 t648 x6_1).f2) x7_2).f1) == a1_1)) = true := by simpa using c15))
           clear c15
           obtain rfl := Option.some.inj H
           have p651 : 0 ≤ (x6_1 : Int) := of_decide_eq_true (by first | (with_reducible assumption) | assumption)
           have q651 : x6_1 < (t648.length : Int) := of_decide_eq_true (by first | (with_reducible assumption) | assumption)
           obtain ⟨ad651, A651_2, c651_2, e651, hx651_0, hx651_1, hx651_2, hl651_2, hi651_2⟩ := at_T29 (Kd.N_reads' HO_5.out).2.2 x6_1 p651 q651
           cases e651
           obtain ⟨ce651, hce651, hMe651, hcc651⟩ := Kd.N_get HO_5.out z29 x6_1 p651 (by first | exact q651 | exact of_decide_eq_true (by first | (with_reducible assumption) | assumption) | (have e_ := (Kd.N_reads' HO_5.out).1; omega))
           obtain ⟨ua651_2, uc651_2, rfl, ul651_2, ge651_2⟩ := k29_openF hMe651
           have hv651_2 := hcc651 2 _ rfl
           rw [add_field _ _ 2 (by omega)] at hv651_2
           replace hv651_2 := Option.some.inj (hv651_2.symm.trans hx651_2)
           injection hv651_2 with hva_ hvn_ hvc_
           rw [hva_] at ge651_2
           rw [hvc_] at ul651_2
           have HL651_2 := Az.mk (show Kd.V k37 37 _ w.heap.size _ _ ((rd_T29 t648 x6_1).f2) from Kd.V_mk ul651_2 ge651_2)
           clear hva_ hvn_ hvc_ ge651_2 ul651_2
           clear hcc651 hce651
           have HR651_2 := Az.mk hi651_2
           have HC651_2 := Az.mk hl651_2
           clear hi651_2 hl651_2
           replace p651 := eq_true p651
           replace q651 := eq_true q651
           have p652 : 0 ≤ (x6_1 : Int) := of_decide_eq_true (by first | (with_reducible assumption) | assumption)
           have q652 : x6_1 < (t648.length : Int) := of_decide_eq_true (by first | (with_reducible assumption) | assumption)
           obtain ⟨ad652, A652_2, c652_2, e652, hx652_0, hx652_1, hx652_2, hl652_2, hi652_2⟩ := at_T29 (Kd.N_reads' HO_5.out).2.2 x6_1 p652 q652
           obtain rfl : ad651 = ad652 := (by injection e652)
           obtain ⟨ce652, hce652, hMe652, hcc652⟩ := Kd.N_get HO_5.out z29 x6_1 p652 (by first | exact q652 | exact of_decide_eq_true (by first | (with_reducible assumption) | assumption) | (have e_ := (Kd.N_reads' HO_5.out).1; omega))
           obtain ⟨ua652_2, uc652_2, rfl, ul652_2, ge652_2⟩ := k29_openF hMe652
           have hv652_2 := hcc652 2 _ rfl
           rw [add_field _ _ 2 (by omega)] at hv652_2
           replace hv652_2 := Option.some.inj (hv652_2.symm.trans hx652_2)
           injection hv652_2 with hva_ hvn_ hvc_
           rw [hva_] at ge652_2
           rw [hvc_] at ul652_2
           have HL652_2 := Az.mk (show Kd.V k37 37 _ w.heap.size _ _ ((rd_T29 t648 x6_1).f2) from Kd.V_mk ul652_2 ge652_2)
           clear hva_ hvn_ hvc_ ge652_2 ul652_2
           clear hcc652 hce652
           have HR652_2 := Az.mk hi652_2
           have HC652_2 := Az.mk hl652_2
           clear hi652_2 hl652_2
           replace p652 := eq_true p652
           replace q652 := eq_true q652
           have ea_ := Option.some.inj (hx651_2.symm.trans hx652_2)
           injection ea_ with ea_ en_ ec_
           subst ea_
           subst ec_
           clear en_
           have p653 : 0 ≤ (x7_2 : Int) := of_decide_eq_true (by first | (with_reducible assumption) | assumption)
           have q653 : x7_2 < (((rd_T29 t648 x6_1).f2).length : Int) := of_decide_eq_true (by first | (with_reducible assumption) | assumption)
           obtain ⟨ad653, e653, hx653_0, hx653_1⟩ := at_T37 (by repeat (first | (with_reducible exact HR652_2.out) | (with_reducible refine Kd.C_alloc ?_ _) | (with_reducible refine Kd.C_drewN ?_ _) | (with_reducible refine Kd.C_drew ?_) | exact HR652_2.out)) x7_2 p653 q653
           cases e653
           replace p653 := eq_true p653
           replace q653 := eq_true q653
           have hnb16 := NB647_646.out
           have hnc16 := NB646_647.out
           have hcz17_0 : wr.cell? ⟨gb647, 0, none⟩ = some (.int .i64 a1_0) := (zq4 BK647.out 0).trans rfl
           have hcz17_1 : wr.cell? ⟨gb647, 1, none⟩ = some (.int .i64 a1_1) := (zq4 BK647.out 1).trans rfl
           have hfz17_0 := zq5 BK647.out 0
           have hfz17_1 := zq5 BK647.out 1
           go_wp2
           repeat (go_quiet (fail); try go_wp2)
           go_ret
           exact ⟨by first | rfl | (simp [errW_none, errW_some] <;> rfl) | (simp [*, errW_none, errW_some] <;> rfl), by repeat (first | (with_reducible first | exact HB.out | apply zq2 | apply zq1 | apply zqd | refine zq3 ?_ GE646.out | refine zq3 ?_ GE647.out) | exact HB.out)⟩
          ·rw [if_neg c15] at H
           have c15b0 : (((rd_T37 ((rd_T29 t648 x6_1).f2) x7_2).f0) == a1_0 && (((rd_T37 ((rd_T29 t648 x6_1).f2) x7_2).f1) == a1_1)) = false := by simpa using c15
           (try (have c15b1 : decide (((rd_T37 ((rd_T29 t648 x6_1).f2) x7_2).f0) = a1_0 && (((rd_T37 ((rd_T29 t648 x6_1).f2) x7_2).f1) == a1_1)) = false := by simpa using c15))
           (try (have c15b2 : (((rd_T37 ((rd_T29 t648 x6_1).f2) x7_2).f0) == a1_0 && (((rd_T37 ((rd_T29 t648 x6_1).f2) x7_2).f1) == a1_1)) = false := by simpa using c15))
           (try (have c15b3 : ¬ (((rd_T37 ((rd_T29 t648 x6_1).f2) x7_2).f0) = a1_0 && (((rd_T37 ((rd_T29 t648 x6_1).f2) x7_2).f1) == a1_1)) := by simpa using c15))
           clear c15
           have H' := Az.mk H
           clear H
           have p651 : 0 ≤ (x6_1 : Int) := of_decide_eq_true (by first | (with_reducible assumption) | assumption)
           have q651 : x6_1 < (t648.length : Int) := of_decide_eq_true (by first | (with_reducible assumption) | assumption)
           obtain ⟨ad651, A651_2, c651_2, e651, hx651_0, hx651_1, hx651_2, hl651_2, hi651_2⟩ := at_T29 (Kd.N_reads' HO_5.out).2.2 x6_1 p651 q651
           cases e651
           obtain ⟨ce651, hce651, hMe651, hcc651⟩ := Kd.N_get HO_5.out z29 x6_1 p651 (by first | exact q651 | exact of_decide_eq_true (by first | (with_reducible assumption) | assumption) | (have e_ := (Kd.N_reads' HO_5.out).1; omega))
           obtain ⟨ua651_2, uc651_2, rfl, ul651_2, ge651_2⟩ := k29_openF hMe651
           have hv651_2 := hcc651 2 _ rfl
           rw [add_field _ _ 2 (by omega)] at hv651_2
           replace hv651_2 := Option.some.inj (hv651_2.symm.trans hx651_2)
           injection hv651_2 with hva_ hvn_ hvc_
           rw [hva_] at ge651_2
           rw [hvc_] at ul651_2
           have HL651_2 := Az.mk (show Kd.V k37 37 _ w.heap.size _ _ ((rd_T29 t648 x6_1).f2) from Kd.V_mk ul651_2 ge651_2)
           clear hva_ hvn_ hvc_ ge651_2 ul651_2
           clear hcc651 hce651
           have HR651_2 := Az.mk hi651_2
           have HC651_2 := Az.mk hl651_2
           clear hi651_2 hl651_2
           replace p651 := eq_true p651
           replace q651 := eq_true q651
           have p652 : 0 ≤ (x6_1 : Int) := of_decide_eq_true (by first | (with_reducible assumption) | assumption)
           have q652 : x6_1 < (t648.length : Int) := of_decide_eq_true (by first | (with_reducible assumption) | assumption)
           obtain ⟨ad652, A652_2, c652_2, e652, hx652_0, hx652_1, hx652_2, hl652_2, hi652_2⟩ := at_T29 (Kd.N_reads' HO_5.out).2.2 x6_1 p652 q652
           obtain rfl : ad651 = ad652 := (by injection e652)
           obtain ⟨ce652, hce652, hMe652, hcc652⟩ := Kd.N_get HO_5.out z29 x6_1 p652 (by first | exact q652 | exact of_decide_eq_true (by first | (with_reducible assumption) | assumption) | (have e_ := (Kd.N_reads' HO_5.out).1; omega))
           obtain ⟨ua652_2, uc652_2, rfl, ul652_2, ge652_2⟩ := k29_openF hMe652
           have hv652_2 := hcc652 2 _ rfl
           rw [add_field _ _ 2 (by omega)] at hv652_2
           replace hv652_2 := Option.some.inj (hv652_2.symm.trans hx652_2)
           injection hv652_2 with hva_ hvn_ hvc_
           rw [hva_] at ge652_2
           rw [hvc_] at ul652_2
           have HL652_2 := Az.mk (show Kd.V k37 37 _ w.heap.size _ _ ((rd_T29 t648 x6_1).f2) from Kd.V_mk ul652_2 ge652_2)
           clear hva_ hvn_ hvc_ ge652_2 ul652_2
           clear hcc652 hce652
           have HR652_2 := Az.mk hi652_2
           have HC652_2 := Az.mk hl652_2
           clear hi652_2 hl652_2
           replace p652 := eq_true p652
           replace q652 := eq_true q652
           have ea_ := Option.some.inj (hx651_2.symm.trans hx652_2)
           injection ea_ with ea_ en_ ec_
           subst ea_
           subst ec_
           clear en_
           have p653 : 0 ≤ (x7_2 : Int) := of_decide_eq_true (by first | (with_reducible assumption) | assumption)
           have q653 : x7_2 < (((rd_T29 t648 x6_1).f2).length : Int) := of_decide_eq_true (by first | (with_reducible assumption) | assumption)
           obtain ⟨ad653, e653, hx653_0, hx653_1⟩ := at_T37 (by repeat (first | (with_reducible exact HR652_2.out) | (with_reducible refine Kd.C_alloc ?_ _) | (with_reducible refine Kd.C_drewN ?_ _) | (with_reducible refine Kd.C_drew ?_) | exact HR652_2.out)) x7_2 p653 q653
           cases e653
           replace p653 := eq_true p653
           replace q653 := eq_true q653
           have hnb18 := NB647_646.out
           have hnc18 := NB646_647.out
           have hcz19_0 : wr.cell? ⟨gb647, 0, none⟩ = some (.int .i64 a1_0) := (zq4 BK647.out 0).trans rfl
           have hcz19_1 : wr.cell? ⟨gb647, 1, none⟩ = some (.int .i64 a1_1) := (zq4 BK647.out 1).trans rfl
           have hfz19_0 := zq5 BK647.out 0
           have hfz19_1 := zq5 BK647.out 1
           go_wp2
           repeat (go_quiet (fail); try go_wp2)
           go_roundg k2
           case measure => have := HK1.out; have := HK2.out; omega
           case rel => exact ⟨(wrap64 (x7_2 + 1)), (by first | rfl | (simp; done) | (simp [*]; done)), H', ⟨by have := HK1.out; have := HK2.out; omega⟩, ⟨by (with_reducible repeat (first | apply Kd.N_alloc | apply Kd.N_drewN | apply Kd.N_drew)); exact HO_5.out⟩, ⟨by (with_reducible repeat (first | refine zq6 ?_ _ | refine zq8 ?_ | refine zq7 ?_ _)); exact BK646.out⟩, ⟨by (with_reducible repeat (first | refine zq6 ?_ _ | refine zq8 ?_ | refine zq7 ?_ _)); exact BK647.out⟩, ⟨by repeat (first | (with_reducible first | exact HB.out | apply zq2 | apply zq1 | apply zqd | refine zq3 ?_ GE646.out | refine zq3 ?_ GE647.out) | exact HB.out)⟩⟩
         ·rw [if_neg c14] at H
          exact absurd H (by simp)
        ·rw [if_neg c13] at H
         have c13b0 : decide (x7_2 < (((rd_T29 t648 x6_1).f2).length : Int)) = false := decide_eq_false c13
         clear c13
         have H' := Az.mk H
         clear H
         have p651 : 0 ≤ (x6_1 : Int) := of_decide_eq_true (by first | (with_reducible assumption) | assumption)
         have q651 : x6_1 < (t648.length : Int) := of_decide_eq_true (by first | (with_reducible assumption) | assumption)
         obtain ⟨ad651, A651_2, c651_2, e651, hx651_0, hx651_1, hx651_2, hl651_2, hi651_2⟩ := at_T29 (Kd.N_reads' HO_5.out).2.2 x6_1 p651 q651
         cases e651
         obtain ⟨ce651, hce651, hMe651, hcc651⟩ := Kd.N_get HO_5.out z29 x6_1 p651 (by first | exact q651 | exact of_decide_eq_true (by first | (with_reducible assumption) | assumption) | (have e_ := (Kd.N_reads' HO_5.out).1; omega))
         obtain ⟨ua651_2, uc651_2, rfl, ul651_2, ge651_2⟩ := k29_openF hMe651
         have hv651_2 := hcc651 2 _ rfl
         rw [add_field _ _ 2 (by omega)] at hv651_2
         replace hv651_2 := Option.some.inj (hv651_2.symm.trans hx651_2)
         injection hv651_2 with hva_ hvn_ hvc_
         rw [hva_] at ge651_2
         rw [hvc_] at ul651_2
         have HL651_2 := Az.mk (show Kd.V k37 37 _ w.heap.size _ _ ((rd_T29 t648 x6_1).f2) from Kd.V_mk ul651_2 ge651_2)
         clear hva_ hvn_ hvc_ ge651_2 ul651_2
         clear hcc651 hce651
         have HR651_2 := Az.mk hi651_2
         have HC651_2 := Az.mk hl651_2
         clear hi651_2 hl651_2
         replace p651 := eq_true p651
         replace q651 := eq_true q651
         go_wp2
         repeat (go_quiet (fail); try go_wp2)
         go_roundg k2
         case measure => have := HK1.out; have := HK2.out; omega
         case rel => exact ⟨(wrap64 (x6_1 + 1)), (by first | rfl | (simp; done) | (simp [*]; done)), H', ⟨by have := HK1.out; have := HK2.out; omega⟩, ⟨by (with_reducible repeat (first | apply Kd.N_alloc | apply Kd.N_drewN | apply Kd.N_drew)); exact HO_5.out⟩, ⟨by (with_reducible repeat (first | refine zq6 ?_ _ | refine zq8 ?_ | refine zq7 ?_ _)); exact BK646.out⟩, ⟨by (with_reducible repeat (first | refine zq6 ?_ _ | refine zq8 ?_ | refine zq7 ?_ _)); exact BK647.out⟩, ⟨by repeat (first | (with_reducible first | exact HB.out | apply zq2 | apply zq1 | apply zqd | refine zq3 ?_ GE646.out | refine zq3 ?_ GE647.out) | exact HB.out)⟩⟩
       ·rw [if_neg c12] at H
        exact absurd H (by simp)
      ·rw [if_neg c11] at H
       exact absurd H (by simp)
   ·rw [if_neg c9] at H
    have c9b0 : decide (x6_1 < (t648.length : Int)) = false := decide_eq_false c9
    clear c9
    obtain rfl := Option.some.inj H
    obtain ⟨Ao20, co20, eo20⟩ := Kd.N_slice HO_5.out
    subst eo20
    go_wp2
    repeat (go_quiet (fail); try go_wp2)
    go_ret
    exact ⟨by first | rfl | (simp [errW_none, errW_some] <;> rfl) | (simp [*, errW_none, errW_some] <;> rfl), by repeat (first | (with_reducible first | exact HB.out | apply zq2 | apply zq1 | apply zqd | refine zq3 ?_ GE646.out | refine zq3 ?_ GE647.out) | exact HB.out)⟩
end Go.Proofs.Ytkoimmeghdbodaa.Print
namespace Go.Proofs.Ytkoimmeghdbodaa.Print
open Go.RowKit Go.Proofs.YtkoimmeghdbodaaW.PrintWords Go.Proofs.YtkoimmeghdbodaaW.PrintLast Go.Proofs.YtkoimmeghdbodaaW.PrintMore
attribute [local go_sem] max2_int min2_int max_two min_two max_three min_three max_four min_four
mutual
def spec_l12Free.l0 : Nat → Int → List (S37) → Int → Int → List (S65) → Int → List (S65) → Option ((List (S37)))
 | 0, _, _, _, _, _, _, _ => none
 | k + 1, x0, x7, x8, x655000, x655001, x656000, x656001 => if x8 < x0 then (spec_l12Free.l1 k x0 x7 x8 0 x655000 x655001 x656000 x656001) else (some x7)
def spec_l12Free.l1 : Nat → Int → List (S37) → Int → Int → Int → List (S65) → Int → List (S65) → Option ((List (S37)))
 | 0, _, _, _, _, _, _, _, _ => none
 | k + 1, x0, x7, x8, x9, x655000, x655001, x656000, x656001 => if x9 < 12 then ((spec_l12Used.f k x655000 x655001 x8 x9).bind fun t660 => (if t660 = true then (spec_l12Free.l1 k x0 x7 x8 (wrap64 (x9 + 1)) x655000 x655001 x656000 x656001) else ((spec_l12Used.f k x656000 x656001 x8 x9).bind fun t661 => (if t661 = true then (spec_l12Free.l1 k x0 x7 x8 (wrap64 (x9 + 1)) x655000 x655001 x656000 x656001) else (if x7.length < 8796093022208 then (spec_l12Free.l1 k x0 (x7 ++ [(⟨x8, x9⟩ : S37)]) x8 (wrap64 (x9 + 1)) x655000 x655001 x656000 x656001) else (none)))))) else (spec_l12Free.l0 k x0 x7 (wrap64 (x8 + 1)) x655000 x655001 x656000 x656001)
end
def spec_l12Free.f (k : Nat) (a0 : Int) (a1_0 : Int) (l1_1 : List (S65)) (a2_0 : Int) (l2_1 : List (S65)) : Option ((List (S37))) := spec_l12Free.l0 k a0 (([] : List (S37))) 0 a1_0 l1_1 a2_0 l2_1
set_option maxHeartbeats 8000000 in
set_option maxRecDepth 100000 in
theorem spec_l12Free.calls (k : Nat) (a0 : Int) (a1_0 : Int) (A1_1 : Option Addr) (c1_1 : Nat) (l1_1 : List (S65)) (a2_0 : Int) (A2_1 : Option Addr) (c2_1 : Nat) (l2_1 : List (S65)) (r : List (S37)) (w : World) (hr1_1 : Kd.C k65 w A1_1 l1_1.length l1_1) (hc1_1 : l1_1.length ≤ c1_1) (hr2_1 : Kd.C k65 w A2_1 l2_1.length l2_1) (hc2_1 : l2_1.length ≤ c2_1) (h : spec_l12Free.f k a0 a1_0 l1_1 a2_0 l2_1 = some r) :
  Calls Try.prog 91 #[.int .i64 a0, .agg #[.int .i64 a1_0, .slice A1_1 l1_1.length c1_1], .agg #[.int .i64 a2_0, .slice A2_1 l2_1.length c2_1]] w fun e w' => ∃ v0_ : Value, e = .returned (v0_) ∧ Kd.R k37 37 w' w.heap.size (fun _ => True) v0_ r ∧ Below w.heap.size w w' := by
 have hu57 := Try.underlying57
 have hu37 := Try.underlying37
 have HR1_1 := Az.mk hr1_1
 have HC1_1 := Az.mk hc1_1
 clear hr1_1 hc1_1
 have HR2_1 := Az.mk hr2_1
 have HC2_1 := Az.mk hc2_1
 clear hr2_1 hc2_1
 have HB := Az.mk (Below.refl w.heap.size w)
 have H : (spec_l12Free.l0 k a0 (([] : List (S37))) 0 a1_0 l1_1 a2_0 l2_1) = some r := h
 clear h
 obtain ⟨y656, hy656⟩ : ∃ y_ : List (S37), y_ = (([] : List (S37))) := ⟨_, rfl⟩
 replace H : (spec_l12Free.l0 k a0 y656 0 a1_0 l1_1 a2_0 l2_1) = some r := by first | (rw [hy656]; with_reducible exact H) | (have H2_ := (Option.bind_some _ _).symm.trans H; rw [hy656]; with_reducible exact H2_) | (have H2_ := (Option.bind_some _ _).symm.trans H; with_reducible exact H2_) | with_reducible exact H | (rw [hy656]; exact H) | exact H
 have Ny656 := Az.mk hy656
 clear hy656
 have H' := Az.mk H
 clear H
 go_enter Try.func91, Try.ntmps91
 go_wp2_with (first | ((with_reducible refine zqg (N := 4) rfl ?_); refine zqb ?hg (N := 4) ?hd (cs := #[.int .i64 a1_0, .slice A1_1 l1_1.length c1_1]) (t := 57) ?hr ?_; (case hd => rfl); (case hg => rfl); (case hr => first | (go_simp; done) | (go_simp; rfl)); intro gb654 hg w4 hbox hb; have n0_ := Az.mk (below_step zB hb); have n1_ := Az.mk (hbox); have n2_ := Az.mk ((by rw [hg]; exact (below_size zB) : w.heap.size ≤ gb654)); have n3_ := Az.mk ((by rw [hg]; exact (below_size zB) : w.heap.size ≤ gb654)); clear HB; have HB := n0_; have BK654 := n1_; have GW654 := n2_; have GE654 := n3_; clear n0_ n1_ n2_ n3_; clear hb hbox hg) | ((with_reducible refine zqg (N := 5) rfl ?_); refine zqb ?hg (N := 5) ?hd (cs := #[.int .i64 a2_0, .slice A2_1 l2_1.length c2_1]) (t := 57) ?hr ?_; (case hd => rfl); (case hg => rfl); (case hr => first | (go_simp; done) | (go_simp; rfl)); intro gb655 hg w5 hbox hb; have n0_ := Az.mk (blk_below (g := gb654) (o := .cells #[.int .i64 a1_0, .slice A1_1 l1_1.length c1_1] 57 (0, 0)) (by (with_reducible repeat (first | refine zq6 ?_ _ | refine zq8 ?_ | refine zq7 ?_ _)); exact BK654.out) hb); have n1_ := Az.mk (below_step (by repeat (first | (with_reducible first | exact HB.out | apply zq2 | apply zq1 | apply zqd | refine zq3 ?_ GE654.out) | exact HB.out)) hb); have n2_ := Az.mk (hbox); have n3_ := Az.mk ((by rw [hg]; exact (below_size (by repeat (first | (with_reducible first | exact HB.out | apply zq2 | apply zq1 | apply zqd | refine zq3 ?_ GE654.out) | exact HB.out))) : w.heap.size ≤ gb655)); have n4_ := Az.mk ((by rw [hg]; exact (below_size (by repeat (first | (with_reducible first | exact HB.out | apply zq2 | apply zq1 | apply zqd | refine zq3 ?_ GE654.out) | exact HB.out))) : w.heap.size ≤ gb655)); have n5_ := Az.mk ((by rw [hg]; exact Nat.ne_of_lt (blk_lt (g := gb654) (o := .cells #[.int .i64 a1_0, .slice A1_1 l1_1.length c1_1] 57 (0, 0)) (by (with_reducible repeat (first | refine zq6 ?_ _ | refine zq8 ?_ | refine zq7 ?_ _)); exact BK654.out)) : gb654 ≠ gb655)); have n6_ := Az.mk ((by rw [hg]; exact Nat.ne_of_gt (blk_lt (g := gb654) (o := .cells #[.int .i64 a1_0, .slice A1_1 l1_1.length c1_1] 57 (0, 0)) (by (with_reducible repeat (first | refine zq6 ?_ _ | refine zq8 ?_ | refine zq7 ?_ _)); exact BK654.out)) : gb655 ≠ gb654)); clear BK654; clear HB; have BK654 := n0_; have HB := n1_; have BK655 := n2_; have GW655 := n3_; have GE655 := n4_; have NB654_655 := n5_; have NB655_654 := n6_; clear n0_ n1_ n2_ n3_ n4_ n5_ n6_; clear hb hbox hg) | ((with_reducible refine zqg (N := 11) rfl ?_); refine Kd.R_lit k37 _ 37 ?hg (N := 11) ?hd (xs := ([] : List (S37))) (inner := []) (ok := fun _ => True) (okp := fun _ => True) ?hr ?hp (fun _ hk => hk) trivial (Below.refl _ _) (Nat.le_refl _) (by simp) ?_; (case hd => rfl); (case hg => rfl); (case hr => first | (go_simp; done) | (go_simp; rfl)); (case hp => exact (Reps.none _ _)); intro v657 w6 ho7 hb hg_ hnew_; clear hg_ hnew_; (first | rw [← Ny656.out] at ho7 | (simp only [Int.reduceToNat] at ho7; rw [← Ny656.out] at ho7)); have n0_ := Az.mk (Kd.R_lower ho7 (below_size (by repeat (first | (with_reducible first | exact HB.out | apply zq2 | apply zq1 | apply zqd | refine zq3 ?_ GE654.out | refine zq3 ?_ GE655.out) | exact HB.out)))); have n1_ := Az.mk (blk_below (g := gb654) (o := .cells #[.int .i64 a1_0, .slice A1_1 l1_1.length c1_1] 57 (0, 0)) (by (with_reducible repeat (first | refine zq6 ?_ _ | refine zq8 ?_ | refine zq7 ?_ _)); exact BK654.out) hb); have n2_ := Az.mk (blk_below (g := gb655) (o := .cells #[.int .i64 a2_0, .slice A2_1 l2_1.length c2_1] 57 (0, 0)) (by (with_reducible repeat (first | refine zq6 ?_ _ | refine zq8 ?_ | refine zq7 ?_ _)); exact BK655.out) hb); have n3_ := Az.mk (below_step (by repeat (first | (with_reducible first | exact HB.out | apply zq2 | apply zq1 | apply zqd | refine zq3 ?_ GE654.out | refine zq3 ?_ GE655.out) | exact HB.out)) hb); clear BK654; clear BK655; clear HB; have HO658 := n0_; have BK654 := n1_; have BK655 := n2_; have HB := n3_; clear n0_ n1_ n2_ n3_; clear hb ho7))
 go_loopg [7, 8] k (fun kq v7 v8 w' => ∃ (x7_1 : List (S37)) (x8_1 : Int), v8 = .int .i64 x8_1 ∧ Az (spec_l12Free.l0 kq a0 x7_1 x8_1 a1_0 l1_1 a2_0 l2_1 = some r) ∧ Az (kq ≤ k) ∧ Az (Kd.R k37 37 w' w.heap.size (fun _ => True) v7 x7_1) ∧ Az (w'.heap[gb654]? = some (.cells #[.int .i64 a1_0, (.slice A1_1 l1_1.length c1_1)] 57 (0, 0))) ∧ Az (w'.heap[gb655]? = some (.cells #[.int .i64 a2_0, (.slice A2_1 l2_1.length c2_1)] 57 (0, 0))) ∧ Az (Below w.heap.size w w'))
 case atStart => exact ⟨(y656), (0), (by first | rfl | (simp; done) | (simp [*]; done)), H', ⟨Nat.le_refl _⟩, ⟨by (with_reducible repeat (first | apply Kd.R_alloc | apply Kd.R_drewN | apply Kd.R_drew)); exact HO658.out⟩, ⟨by (with_reducible repeat (first | refine zq6 ?_ _ | refine zq8 ?_ | refine zq7 ?_ _)); exact BK654.out⟩, ⟨by (with_reducible repeat (first | refine zq6 ?_ _ | refine zq8 ?_ | refine zq7 ?_ _)); exact BK655.out⟩, ⟨by repeat (first | (with_reducible first | exact HB.out | apply zq2 | apply zq1 | apply zqd | refine zq3 ?_ GE654.out | refine zq3 ?_ GE655.out) | exact HB.out)⟩⟩
 case round =>
  clear H'
  try clear c1
  try clear c2
  try clear p2
  obtain ⟨x7_1, x8_1, rfl, HA, HK1, HO_7, BK654, BK655, HB⟩ := hrel
  cases gk with
  | zero => exact absurd HA.out (by simp [spec_l12Free.l0])
  | succ k1 =>
   have H := HA.out
   clear HA
   simp only [spec_l12Free.l0] at H
   by_cases c8 : x8_1 < a0
   ·rw [if_pos c8] at H
    have c8b0 : decide (x8_1 < a0) = true := decide_eq_true c8
    clear c8
    have H' := Az.mk H
    clear H
    go_wp2
    go_loopg [7, 9] k1 (fun kq v7 v9 w' => ∃ (x7_2 : List (S37)) (x9_2 : Int), v9 = .int .i64 x9_2 ∧ Az (spec_l12Free.l1 kq a0 x7_2 x8_1 x9_2 a1_0 l1_1 a2_0 l2_1 = some r) ∧ Az (kq ≤ k1) ∧ Az (Kd.R k37 37 w' w.heap.size (fun _ => True) v7 x7_2) ∧ Az (w'.heap[gb654]? = some (.cells #[.int .i64 a1_0, (.slice A1_1 l1_1.length c1_1)] 57 (0, 0))) ∧ Az (w'.heap[gb655]? = some (.cells #[.int .i64 a2_0, (.slice A2_1 l2_1.length c2_1)] 57 (0, 0))) ∧ Az (Below w.heap.size w w'))
    case atStart => exact ⟨(x7_1), (0), (by first | rfl | (simp; done) | (simp [*]; done)), H', ⟨Nat.le_refl _⟩, ⟨by (with_reducible repeat (first | apply Kd.R_alloc | apply Kd.R_drewN | apply Kd.R_drew)); exact HO_7.out⟩, ⟨by (with_reducible repeat (first | refine zq6 ?_ _ | refine zq8 ?_ | refine zq7 ?_ _)); exact BK654.out⟩, ⟨by (with_reducible repeat (first | refine zq6 ?_ _ | refine zq8 ?_ | refine zq7 ?_ _)); exact BK655.out⟩, ⟨by repeat (first | (with_reducible first | exact HB.out | apply zq2 | apply zq1 | apply zqd | refine zq3 ?_ GE654.out | refine zq3 ?_ GE655.out) | exact HB.out)⟩⟩
    case round =>
     clear H'
     try clear c1
     try clear c2
     try clear p2
     try clear c8
     try clear c8b0
     try clear p2
     obtain ⟨x7_2, x9_2, rfl, HA, HK2, HO_7, BK654, BK655, HB⟩ := hrel
     cases gk with
     | zero => exact absurd HA.out (by simp [spec_l12Free.l1])
     | succ k2 =>
      have H := HA.out
      clear HA
      simp only [spec_l12Free.l1] at H
      by_cases c9 : x9_2 < 12
      ·rw [if_pos c9] at H
       have c9b0 : decide (x9_2 < 12) = true := decide_eq_true c9
       clear c9
       replace H := Option.bind_eq_some_iff.mp H
       obtain ⟨t660, A100, H⟩ := H
       replace H : (if t660 = true then (spec_l12Free.l1 k2 a0 x7_2 x8_1 (wrap64 (x9_2 + 1)) a1_0 l1_1 a2_0 l2_1) else ((spec_l12Used.f k2 a2_0 l2_1 x8_1 x9_2).bind fun t661 => (if t661 = true then (spec_l12Free.l1 k2 a0 x7_2 x8_1 (wrap64 (x9_2 + 1)) a1_0 l1_1 a2_0 l2_1) else (if x7_2.length < 8796093022208 then (spec_l12Free.l1 k2 a0 (x7_2 ++ [(⟨x8_1, x9_2⟩ : S37)]) x8_1 (wrap64 (x9_2 + 1)) a1_0 l1_1 a2_0 l2_1) else (none))))) = some r := H
       have A10 := Az.mk A100
       clear A100
       by_cases c11 : t660 = true
       ·subst c11
        have H1 : (spec_l12Free.l1 k2 a0 x7_2 x8_1 (wrap64 (x9_2 + 1)) a1_0 l1_1 a2_0 l2_1) = some r := by rw [if_pos rfl] at H; exact H
        clear H
        have H := H1
        clear H1
        have H' := Az.mk H
        clear H
        go_wp2_with (first | ((with_reducible refine zqg (N := 10) rfl ?_); refine zqb ?hg (N := 10) ?hd (cs := #[.int .i64 0, .int .i64 0]) (t := 37) ?hr ?_; (case hd => rfl); (case hg => rfl); (case hr => first | (go_simp; done) | (go_simp; rfl)); intro gb659 hg w12 hbox hb; have n0_ := Az.mk (Kd.R_below (Kd.R_elderB (by (with_reducible repeat (first | apply Kd.R_alloc | apply Kd.R_drewN | apply Kd.R_drew)); exact HO_7.out) gb659 (Nat.le_of_eq hg.symm)) hb); have n1_ := Az.mk (blk_below (g := gb654) (o := .cells #[.int .i64 a1_0, .slice A1_1 l1_1.length c1_1] 57 (0, 0)) (by (with_reducible repeat (first | refine zq6 ?_ _ | refine zq8 ?_ | refine zq7 ?_ _)); exact BK654.out) hb); have n2_ := Az.mk (blk_below (g := gb655) (o := .cells #[.int .i64 a2_0, .slice A2_1 l2_1.length c2_1] 57 (0, 0)) (by (with_reducible repeat (first | refine zq6 ?_ _ | refine zq8 ?_ | refine zq7 ?_ _)); exact BK655.out) hb); have n3_ := Az.mk (below_step (by repeat (first | (with_reducible first | exact HB.out | apply zq2 | apply zq1 | apply zqd | refine zq3 ?_ GE654.out | refine zq3 ?_ GE655.out) | exact HB.out)) hb); have n4_ := Az.mk (hbox); have n5_ := Az.mk ((by rw [hg]; exact (below_size (by repeat (first | (with_reducible first | exact HB.out | apply zq2 | apply zq1 | apply zqd | refine zq3 ?_ GE654.out | refine zq3 ?_ GE655.out) | exact HB.out))) : w.heap.size ≤ gb659)); have n6_ := Az.mk ((by rw [hg]; exact (below_size (by repeat (first | (with_reducible first | exact HB.out | apply zq2 | apply zq1 | apply zqd | refine zq3 ?_ GE654.out | refine zq3 ?_ GE655.out) | exact HB.out))) : w.heap.size ≤ gb659)); have n7_ := Az.mk ((by rw [hg]; exact Nat.ne_of_lt (blk_lt (g := gb654) (o := .cells #[.int .i64 a1_0, .slice A1_1 l1_1.length c1_1] 57 (0, 0)) (by (with_reducible repeat (first | refine zq6 ?_ _ | refine zq8 ?_ | refine zq7 ?_ _)); exact BK654.out)) : gb654 ≠ gb659)); have n8_ := Az.mk ((by rw [hg]; exact Nat.ne_of_gt (blk_lt (g := gb654) (o := .cells #[.int .i64 a1_0, .slice A1_1 l1_1.length c1_1] 57 (0, 0)) (by (with_reducible repeat (first | refine zq6 ?_ _ | refine zq8 ?_ | refine zq7 ?_ _)); exact BK654.out)) : gb659 ≠ gb654)); have n9_ := Az.mk ((by rw [hg]; exact Nat.ne_of_lt (blk_lt (g := gb655) (o := .cells #[.int .i64 a2_0, .slice A2_1 l2_1.length c2_1] 57 (0, 0)) (by (with_reducible repeat (first | refine zq6 ?_ _ | refine zq8 ?_ | refine zq7 ?_ _)); exact BK655.out)) : gb655 ≠ gb659)); have n10_ := Az.mk ((by rw [hg]; exact Nat.ne_of_gt (blk_lt (g := gb655) (o := .cells #[.int .i64 a2_0, .slice A2_1 l2_1.length c2_1] 57 (0, 0)) (by (with_reducible repeat (first | refine zq6 ?_ _ | refine zq8 ?_ | refine zq7 ?_ _)); exact BK655.out)) : gb659 ≠ gb655)); clear HO_7; clear BK654; clear BK655; clear HB; have HO_7 := n0_; have BK654 := n1_; have BK655 := n2_; have HB := n3_; have BK659 := n4_; have GW659 := n5_; have GE659 := n6_; have NB654_659 := n7_; have NB659_654 := n8_; have NB655_659 := n9_; have NB659_655 := n10_; clear n0_ n1_ n2_ n3_ n4_ n5_ n6_ n7_ n8_ n9_ n10_; clear hb hbox hg; have hnb13 := NB659_654.out; have hnc13 := NB654_659.out; have hnb14 := NB659_655.out; have hnc14 := NB655_659.out; have hcz15_0 : w12.cell? ⟨gb659, 0, none⟩ = some (.int .i64 0) := (zq4 BK659.out 0).trans rfl; have hcz15_1 : w12.cell? ⟨gb659, 1, none⟩ = some (.int .i64 0) := (zq4 BK659.out 1).trans rfl; have hfz15_0 := zq5 BK659.out 0; have hfz15_1 := zq5 BK659.out 1; have hnb16 := NB654_655.out; have hnc16 := NB655_654.out; have hcz17_0 : w12.cell? ⟨gb654, 0, none⟩ = some (.int .i64 a1_0) := (zq4 BK654.out 0).trans rfl; have hcz17_1 : w12.cell? ⟨gb654, 1, none⟩ = some (.slice A1_1 l1_1.length c1_1) := (zq4 BK654.out 1).trans rfl; have hfz17_0 := zq5 BK654.out 0; have hfz17_1 := zq5 BK654.out 1) | ((with_reducible refine gate_callee (f := 117) rfl ?_); refine zq9 (some 26) rfl rfl Try.func117 (by kernel_rfl) rfl #[.agg #[.int .i64 a1_0, .slice A1_1 l1_1.length c1_1], .agg #[.int .i64 x8_1, .int .i64 x9_2]] rfl (by (try simp only [List.map_toArray, List.map_cons, List.map_nil]); first | done | rfl | (simp only [List.length_drop, List.length_take]; rfl)) ?_; (with_reducible refine (spec_l12Used.calls k2 a1_0 _ _ l1_1 x8_1 x9_2 true _ ?side1 ?side2 A10.out).mono ?_); (case side1 => exact Kd.C_below HR1_1.out (by repeat (first | (with_reducible first | exact HB.out | apply zq2 | apply zq1 | apply zqd | refine zq3 ?_ GE654.out | refine zq3 ?_ GE655.out | refine zq3 ?_ GE659.out) | exact HB.out))); (case side2 => exact HC1_1.out); rintro e w18 ⟨rfl, hb⟩; refine ⟨_, rfl, ?_⟩; have n0_ := Az.mk (Kd.R_below (by (with_reducible repeat (first | apply Kd.R_alloc | apply Kd.R_drewN | apply Kd.R_drew)); exact (Kd.R_mono (Kd.R_far (p := ⟨gb659, 1, none⟩) (Kd.R_far (p := ⟨gb659, 0, none⟩) (Kd.R_mono HO_7.out (fun k_ hk => (⟨hk, hk.2⟩ : _ ∧ k_ ≠ gb659))) (fun _ hk => hk.2) (.int .i64 x8_1)) (fun _ hk => hk.2) (.int .i64 x9_2)) (fun _ h_ => h_.1))) hb); have n1_ := Az.mk (blk_below (g := gb654) (o := .cells #[.int .i64 a1_0, .slice A1_1 l1_1.length c1_1] 57 (0, 0)) (by (with_reducible repeat (first | refine zq6 ?_ _ | refine zq8 ?_ | refine zq7 ?_ _)); refine blk_far ?_ NB654_659.out _; (with_reducible repeat (first | refine zq6 ?_ _ | refine zq8 ?_ | refine zq7 ?_ _)); refine blk_far ?_ NB654_659.out _; (with_reducible repeat (first | refine zq6 ?_ _ | refine zq8 ?_ | refine zq7 ?_ _)); exact BK654.out) hb); have n2_ := Az.mk (blk_below (g := gb655) (o := .cells #[.int .i64 a2_0, .slice A2_1 l2_1.length c2_1] 57 (0, 0)) (by (with_reducible repeat (first | refine zq6 ?_ _ | refine zq8 ?_ | refine zq7 ?_ _)); refine blk_far ?_ NB655_659.out _; (with_reducible repeat (first | refine zq6 ?_ _ | refine zq8 ?_ | refine zq7 ?_ _)); refine blk_far ?_ NB655_659.out _; (with_reducible repeat (first | refine zq6 ?_ _ | refine zq8 ?_ | refine zq7 ?_ _)); exact BK655.out) hb); have n3_ := Az.mk (blk_below (g := gb659) (o := .cells #[.int .i64 x8_1, .int .i64 x9_2] 37 (0, 0)) (by (with_reducible repeat (first | refine zq6 ?_ _ | refine zq8 ?_ | refine zq7 ?_ _)); refine blk_put (cs := #[.int .i64 x8_1, .int .i64 0]) ?_ 1 _ rfl; (with_reducible repeat (first | refine zq6 ?_ _ | refine zq8 ?_ | refine zq7 ?_ _)); refine blk_put (cs := #[.int .i64 0, .int .i64 0]) ?_ 0 _ rfl; (with_reducible repeat (first | refine zq6 ?_ _ | refine zq8 ?_ | refine zq7 ?_ _)); exact BK659.out) hb); have n4_ := Az.mk (below_step (by repeat (first | (with_reducible first | exact HB.out | apply zq2 | apply zq1 | apply zqd | refine zq3 ?_ GE654.out | refine zq3 ?_ GE655.out | refine zq3 ?_ GE659.out) | exact HB.out)) hb); clear HO_7; clear BK654; clear BK655; clear BK659; clear HB; have HO_7 := n0_; have BK654 := n1_; have BK655 := n2_; have BK659 := n3_; have HB := n4_; clear n0_ n1_ n2_ n3_ n4_; (try clear hb); (try clear hb2); (try clear hk); (try clear hi)))
        go_roundg k2
        case measure => have := HK1.out; have := HK2.out; omega
        case rel => exact ⟨(x7_2), (wrap64 (x9_2 + 1)), (by first | rfl | (simp; done) | (simp [*]; done)), H', ⟨by have := HK1.out; have := HK2.out; omega⟩, ⟨by (with_reducible repeat (first | apply Kd.R_alloc | apply Kd.R_drewN | apply Kd.R_drew)); exact Kd.R_mono HO_7.out (fun _ hk => trivial)⟩, ⟨by (with_reducible repeat (first | refine zq6 ?_ _ | refine zq8 ?_ | refine zq7 ?_ _)); exact BK654.out⟩, ⟨by (with_reducible repeat (first | refine zq6 ?_ _ | refine zq8 ?_ | refine zq7 ?_ _)); exact BK655.out⟩, ⟨by repeat (first | (with_reducible first | exact HB.out | apply zq2 | apply zq1 | apply zqd | refine zq3 ?_ GE654.out | refine zq3 ?_ GE655.out | refine zq3 ?_ GE659.out) | exact HB.out)⟩⟩
       ·replace c11 := Bool.eq_false_iff.mpr c11
        subst c11
        have H1 : ((spec_l12Used.f k2 a2_0 l2_1 x8_1 x9_2).bind fun t661 => (if t661 = true then (spec_l12Free.l1 k2 a0 x7_2 x8_1 (wrap64 (x9_2 + 1)) a1_0 l1_1 a2_0 l2_1) else (if x7_2.length < 8796093022208 then (spec_l12Free.l1 k2 a0 (x7_2 ++ [(⟨x8_1, x9_2⟩ : S37)]) x8_1 (wrap64 (x9_2 + 1)) a1_0 l1_1 a2_0 l2_1) else (none)))) = some r := by rw [if_neg (show ¬ (false = true) by decide)] at H; exact H
        clear H
        have H := H1
        clear H1
        replace H := Option.bind_eq_some_iff.mp H
        obtain ⟨t661, A190, H⟩ := H
        replace H : (if t661 = true then (spec_l12Free.l1 k2 a0 x7_2 x8_1 (wrap64 (x9_2 + 1)) a1_0 l1_1 a2_0 l2_1) else (if x7_2.length < 8796093022208 then (spec_l12Free.l1 k2 a0 (x7_2 ++ [(⟨x8_1, x9_2⟩ : S37)]) x8_1 (wrap64 (x9_2 + 1)) a1_0 l1_1 a2_0 l2_1) else (none))) = some r := H
        have A19 := Az.mk A190
        clear A190
        by_cases c20 : t661 = true
        ·subst c20
         have H1 : (spec_l12Free.l1 k2 a0 x7_2 x8_1 (wrap64 (x9_2 + 1)) a1_0 l1_1 a2_0 l2_1) = some r := by rw [if_pos rfl] at H; exact H
         clear H
         have H := H1
         clear H1
         have H' := Az.mk H
         clear H
         go_wp2_with (first | ((with_reducible refine zqg (N := 10) rfl ?_); refine zqb ?hg (N := 10) ?hd (cs := #[.int .i64 0, .int .i64 0]) (t := 37) ?hr ?_; (case hd => rfl); (case hg => rfl); (case hr => first | (go_simp; done) | (go_simp; rfl)); intro gb659 hg w21 hbox hb; have n0_ := Az.mk (Kd.R_below (Kd.R_elderB (by (with_reducible repeat (first | apply Kd.R_alloc | apply Kd.R_drewN | apply Kd.R_drew)); exact HO_7.out) gb659 (Nat.le_of_eq hg.symm)) hb); have n1_ := Az.mk (blk_below (g := gb654) (o := .cells #[.int .i64 a1_0, .slice A1_1 l1_1.length c1_1] 57 (0, 0)) (by (with_reducible repeat (first | refine zq6 ?_ _ | refine zq8 ?_ | refine zq7 ?_ _)); exact BK654.out) hb); have n2_ := Az.mk (blk_below (g := gb655) (o := .cells #[.int .i64 a2_0, .slice A2_1 l2_1.length c2_1] 57 (0, 0)) (by (with_reducible repeat (first | refine zq6 ?_ _ | refine zq8 ?_ | refine zq7 ?_ _)); exact BK655.out) hb); have n3_ := Az.mk (below_step (by repeat (first | (with_reducible first | exact HB.out | apply zq2 | apply zq1 | apply zqd | refine zq3 ?_ GE654.out | refine zq3 ?_ GE655.out) | exact HB.out)) hb); have n4_ := Az.mk (hbox); have n5_ := Az.mk ((by rw [hg]; exact (below_size (by repeat (first | (with_reducible first | exact HB.out | apply zq2 | apply zq1 | apply zqd | refine zq3 ?_ GE654.out | refine zq3 ?_ GE655.out) | exact HB.out))) : w.heap.size ≤ gb659)); have n6_ := Az.mk ((by rw [hg]; exact (below_size (by repeat (first | (with_reducible first | exact HB.out | apply zq2 | apply zq1 | apply zqd | refine zq3 ?_ GE654.out | refine zq3 ?_ GE655.out) | exact HB.out))) : w.heap.size ≤ gb659)); have n7_ := Az.mk ((by rw [hg]; exact Nat.ne_of_lt (blk_lt (g := gb654) (o := .cells #[.int .i64 a1_0, .slice A1_1 l1_1.length c1_1] 57 (0, 0)) (by (with_reducible repeat (first | refine zq6 ?_ _ | refine zq8 ?_ | refine zq7 ?_ _)); exact BK654.out)) : gb654 ≠ gb659)); have n8_ := Az.mk ((by rw [hg]; exact Nat.ne_of_gt (blk_lt (g := gb654) (o := .cells #[.int .i64 a1_0, .slice A1_1 l1_1.length c1_1] 57 (0, 0)) (by (with_reducible repeat (first | refine zq6 ?_ _ | refine zq8 ?_ | refine zq7 ?_ _)); exact BK654.out)) : gb659 ≠ gb654)); have n9_ := Az.mk ((by rw [hg]; exact Nat.ne_of_lt (blk_lt (g := gb655) (o := .cells #[.int .i64 a2_0, .slice A2_1 l2_1.length c2_1] 57 (0, 0)) (by (with_reducible repeat (first | refine zq6 ?_ _ | refine zq8 ?_ | refine zq7 ?_ _)); exact BK655.out)) : gb655 ≠ gb659)); have n10_ := Az.mk ((by rw [hg]; exact Nat.ne_of_gt (blk_lt (g := gb655) (o := .cells #[.int .i64 a2_0, .slice A2_1 l2_1.length c2_1] 57 (0, 0)) (by (with_reducible repeat (first | refine zq6 ?_ _ | refine zq8 ?_ | refine zq7 ?_ _)); exact BK655.out)) : gb659 ≠ gb655)); clear HO_7; clear BK654; clear BK655; clear HB; have HO_7 := n0_; have BK654 := n1_; have BK655 := n2_; have HB := n3_; have BK659 := n4_; have GW659 := n5_; have GE659 := n6_; have NB654_659 := n7_; have NB659_654 := n8_; have NB655_659 := n9_; have NB659_655 := n10_; clear n0_ n1_ n2_ n3_ n4_ n5_ n6_ n7_ n8_ n9_ n10_; clear hb hbox hg; have hnb22 := NB659_654.out; have hnc22 := NB654_659.out; have hnb23 := NB659_655.out; have hnc23 := NB655_659.out; have hcz24_0 : w21.cell? ⟨gb659, 0, none⟩ = some (.int .i64 0) := (zq4 BK659.out 0).trans rfl; have hcz24_1 : w21.cell? ⟨gb659, 1, none⟩ = some (.int .i64 0) := (zq4 BK659.out 1).trans rfl; have hfz24_0 := zq5 BK659.out 0; have hfz24_1 := zq5 BK659.out 1; have hnb25 := NB654_655.out; have hnc25 := NB655_654.out; have hcz26_0 : w21.cell? ⟨gb654, 0, none⟩ = some (.int .i64 a1_0) := (zq4 BK654.out 0).trans rfl; have hcz26_1 : w21.cell? ⟨gb654, 1, none⟩ = some (.slice A1_1 l1_1.length c1_1) := (zq4 BK654.out 1).trans rfl; have hfz26_0 := zq5 BK654.out 0; have hfz26_1 := zq5 BK654.out 1) | ((with_reducible refine gate_callee (f := 117) rfl ?_); refine zq9 (some 26) rfl rfl Try.func117 (by kernel_rfl) rfl #[.agg #[.int .i64 a1_0, .slice A1_1 l1_1.length c1_1], .agg #[.int .i64 x8_1, .int .i64 x9_2]] rfl (by (try simp only [List.map_toArray, List.map_cons, List.map_nil]); first | done | rfl | (simp only [List.length_drop, List.length_take]; rfl)) ?_; (with_reducible refine (spec_l12Used.calls k2 a1_0 _ _ l1_1 x8_1 x9_2 false _ ?side1 ?side2 A10.out).mono ?_); (case side1 => exact Kd.C_below HR1_1.out (by repeat (first | (with_reducible first | exact HB.out | apply zq2 | apply zq1 | apply zqd | refine zq3 ?_ GE654.out | refine zq3 ?_ GE655.out | refine zq3 ?_ GE659.out) | exact HB.out))); (case side2 => exact HC1_1.out); rintro e w27 ⟨rfl, hb⟩; refine ⟨_, rfl, ?_⟩; have n0_ := Az.mk (Kd.R_below (by (with_reducible repeat (first | apply Kd.R_alloc | apply Kd.R_drewN | apply Kd.R_drew)); exact (Kd.R_mono (Kd.R_far (p := ⟨gb659, 1, none⟩) (Kd.R_far (p := ⟨gb659, 0, none⟩) (Kd.R_mono HO_7.out (fun k_ hk => (⟨hk, hk.2⟩ : _ ∧ k_ ≠ gb659))) (fun _ hk => hk.2) (.int .i64 x8_1)) (fun _ hk => hk.2) (.int .i64 x9_2)) (fun _ h_ => h_.1))) hb); have n1_ := Az.mk (blk_below (g := gb654) (o := .cells #[.int .i64 a1_0, .slice A1_1 l1_1.length c1_1] 57 (0, 0)) (by (with_reducible repeat (first | refine zq6 ?_ _ | refine zq8 ?_ | refine zq7 ?_ _)); refine blk_far ?_ NB654_659.out _; (with_reducible repeat (first | refine zq6 ?_ _ | refine zq8 ?_ | refine zq7 ?_ _)); refine blk_far ?_ NB654_659.out _; (with_reducible repeat (first | refine zq6 ?_ _ | refine zq8 ?_ | refine zq7 ?_ _)); exact BK654.out) hb); have n2_ := Az.mk (blk_below (g := gb655) (o := .cells #[.int .i64 a2_0, .slice A2_1 l2_1.length c2_1] 57 (0, 0)) (by (with_reducible repeat (first | refine zq6 ?_ _ | refine zq8 ?_ | refine zq7 ?_ _)); refine blk_far ?_ NB655_659.out _; (with_reducible repeat (first | refine zq6 ?_ _ | refine zq8 ?_ | refine zq7 ?_ _)); refine blk_far ?_ NB655_659.out _; (with_reducible repeat (first | refine zq6 ?_ _ | refine zq8 ?_ | refine zq7 ?_ _)); exact BK655.out) hb); have n3_ := Az.mk (blk_below (g := gb659) (o := .cells #[.int .i64 x8_1, .int .i64 x9_2] 37 (0, 0)) (by (with_reducible repeat (first | refine zq6 ?_ _ | refine zq8 ?_ | refine zq7 ?_ _)); refine blk_put (cs := #[.int .i64 x8_1, .int .i64 0]) ?_ 1 _ rfl; (with_reducible repeat (first | refine zq6 ?_ _ | refine zq8 ?_ | refine zq7 ?_ _)); refine blk_put (cs := #[.int .i64 0, .int .i64 0]) ?_ 0 _ rfl; (with_reducible repeat (first | refine zq6 ?_ _ | refine zq8 ?_ | refine zq7 ?_ _)); exact BK659.out) hb); have n4_ := Az.mk (below_step (by repeat (first | (with_reducible first | exact HB.out | apply zq2 | apply zq1 | apply zqd | refine zq3 ?_ GE654.out | refine zq3 ?_ GE655.out | refine zq3 ?_ GE659.out) | exact HB.out)) hb); clear HO_7; clear BK654; clear BK655; clear BK659; clear HB; have HO_7 := n0_; have BK654 := n1_; have BK655 := n2_; have BK659 := n3_; have HB := n4_; clear n0_ n1_ n2_ n3_ n4_; (try clear hb); (try clear hb2); (try clear hk); (try clear hi); have hcz28_0 : w27.cell? ⟨gb655, 0, none⟩ = some (.int .i64 a2_0) := (zq4 BK655.out 0).trans rfl; have hcz28_1 : w27.cell? ⟨gb655, 1, none⟩ = some (.slice A2_1 l2_1.length c2_1) := (zq4 BK655.out 1).trans rfl; have hfz28_0 := zq5 BK655.out 0; have hfz28_1 := zq5 BK655.out 1; have hcz29_0 : w27.cell? ⟨gb659, 0, none⟩ = some (.int .i64 x8_1) := (zq4 BK659.out 0).trans rfl; have hcz29_1 : w27.cell? ⟨gb659, 1, none⟩ = some (.int .i64 x9_2) := (zq4 BK659.out 1).trans rfl; have hfz29_0 := zq5 BK659.out 0; have hfz29_1 := zq5 BK659.out 1) | (go_at_call 117; (with_reducible refine (spec_l12Used.calls k2 a2_0 _ _ l2_1 x8_1 x9_2 true _ ?side1 ?side2 A19.out).mono ?_); (case side1 => repeat (first | exact (Kd.C_below HR2_1.out HB.out) | (with_reducible refine Kd.C_alloc ?_ _) | (with_reducible refine Kd.C_drewN ?_ _) | (with_reducible refine Kd.C_drew ?_))); (case side2 => exact HC2_1.out); rintro e w30 ⟨rfl, hb⟩; have n0_ := Az.mk (Kd.R_below (by (with_reducible repeat (first | apply Kd.R_alloc | apply Kd.R_drewN | apply Kd.R_drew)); exact HO_7.out) hb); have n1_ := Az.mk (blk_below (g := gb654) (o := .cells #[.int .i64 a1_0, .slice A1_1 l1_1.length c1_1] 57 (0, 0)) (by (with_reducible repeat (first | refine zq6 ?_ _ | refine zq8 ?_ | refine zq7 ?_ _)); exact BK654.out) hb); have n2_ := Az.mk (blk_below (g := gb655) (o := .cells #[.int .i64 a2_0, .slice A2_1 l2_1.length c2_1] 57 (0, 0)) (by (with_reducible repeat (first | refine zq6 ?_ _ | refine zq8 ?_ | refine zq7 ?_ _)); exact BK655.out) hb); have n3_ := Az.mk (blk_below (g := gb659) (o := .cells #[.int .i64 x8_1, .int .i64 x9_2] 37 (0, 0)) (by (with_reducible repeat (first | refine zq6 ?_ _ | refine zq8 ?_ | refine zq7 ?_ _)); exact BK659.out) hb); have n4_ := Az.mk (below_step (by repeat (first | (with_reducible first | exact HB.out | apply zq2 | apply zq1 | apply zqd | refine zq3 ?_ GE654.out | refine zq3 ?_ GE655.out | refine zq3 ?_ GE659.out) | exact HB.out)) hb); clear HO_7; clear BK654; clear BK655; clear BK659; clear HB; have HO_7 := n0_; have BK654 := n1_; have BK655 := n2_; have BK659 := n3_; have HB := n4_; clear n0_ n1_ n2_ n3_ n4_; (try clear hb); (try clear hb2); (try clear hk); (try clear hi)))
         go_roundg k2
         case measure => have := HK1.out; have := HK2.out; omega
         case rel => exact ⟨(x7_2), (wrap64 (x9_2 + 1)), (by first | rfl | (simp; done) | (simp [*]; done)), H', ⟨by have := HK1.out; have := HK2.out; omega⟩, ⟨by (with_reducible repeat (first | apply Kd.R_alloc | apply Kd.R_drewN | apply Kd.R_drew)); exact Kd.R_mono HO_7.out (fun _ hk => trivial)⟩, ⟨by (with_reducible repeat (first | refine zq6 ?_ _ | refine zq8 ?_ | refine zq7 ?_ _)); exact BK654.out⟩, ⟨by (with_reducible repeat (first | refine zq6 ?_ _ | refine zq8 ?_ | refine zq7 ?_ _)); exact BK655.out⟩, ⟨by repeat (first | (with_reducible first | exact HB.out | apply zq2 | apply zq1 | apply zqd | refine zq3 ?_ GE654.out | refine zq3 ?_ GE655.out | refine zq3 ?_ GE659.out) | exact HB.out)⟩⟩
        ·replace c20 := Bool.eq_false_iff.mpr c20
         subst c20
         have H1 : (if x7_2.length < 8796093022208 then (spec_l12Free.l1 k2 a0 (x7_2 ++ [(⟨x8_1, x9_2⟩ : S37)]) x8_1 (wrap64 (x9_2 + 1)) a1_0 l1_1 a2_0 l2_1) else (none)) = some r := by rw [if_neg (show ¬ (false = true) by decide)] at H; exact H
         clear H
         have H := H1
         clear H1
         by_cases c31 : x7_2.length < 8796093022208
         ·rw [if_pos c31] at H
          have LMc31 := Az.mk c31
          clear c31
          obtain ⟨y662, hy662⟩ : ∃ y_ : List (S37), y_ = (x7_2 ++ [(⟨x8_1, x9_2⟩ : S37)]) := ⟨_, rfl⟩
          replace H : (spec_l12Free.l1 k2 a0 y662 x8_1 (wrap64 (x9_2 + 1)) a1_0 l1_1 a2_0 l2_1) = some r := by first | (rw [hy662]; with_reducible exact H) | (have H2_ := (Option.bind_some _ _).symm.trans H; rw [hy662]; with_reducible exact H2_) | (have H2_ := (Option.bind_some _ _).symm.trans H; with_reducible exact H2_) | with_reducible exact H | (rw [hy662]; exact H) | exact H
          have Ny662 := Az.mk hy662
          clear hy662
          have H' := Az.mk H
          clear H
          go_wp2_with (first | ((with_reducible refine zqg (N := 10) rfl ?_); refine zqb ?hg (N := 10) ?hd (cs := #[.int .i64 0, .int .i64 0]) (t := 37) ?hr ?_; (case hd => rfl); (case hg => rfl); (case hr => first | (go_simp; done) | (go_simp; rfl)); intro gb659 hg w32 hbox hb; have n0_ := Az.mk (Kd.R_below (Kd.R_elderB (by (with_reducible repeat (first | apply Kd.R_alloc | apply Kd.R_drewN | apply Kd.R_drew)); exact HO_7.out) gb659 (Nat.le_of_eq hg.symm)) hb); have n1_ := Az.mk (blk_below (g := gb654) (o := .cells #[.int .i64 a1_0, .slice A1_1 l1_1.length c1_1] 57 (0, 0)) (by (with_reducible repeat (first | refine zq6 ?_ _ | refine zq8 ?_ | refine zq7 ?_ _)); exact BK654.out) hb); have n2_ := Az.mk (blk_below (g := gb655) (o := .cells #[.int .i64 a2_0, .slice A2_1 l2_1.length c2_1] 57 (0, 0)) (by (with_reducible repeat (first | refine zq6 ?_ _ | refine zq8 ?_ | refine zq7 ?_ _)); exact BK655.out) hb); have n3_ := Az.mk (below_step (by repeat (first | (with_reducible first | exact HB.out | apply zq2 | apply zq1 | apply zqd | refine zq3 ?_ GE654.out | refine zq3 ?_ GE655.out) | exact HB.out)) hb); have n4_ := Az.mk (hbox); have n5_ := Az.mk ((by rw [hg]; exact (below_size (by repeat (first | (with_reducible first | exact HB.out | apply zq2 | apply zq1 | apply zqd | refine zq3 ?_ GE654.out | refine zq3 ?_ GE655.out) | exact HB.out))) : w.heap.size ≤ gb659)); have n6_ := Az.mk ((by rw [hg]; exact (below_size (by repeat (first | (with_reducible first | exact HB.out | apply zq2 | apply zq1 | apply zqd | refine zq3 ?_ GE654.out | refine zq3 ?_ GE655.out) | exact HB.out))) : w.heap.size ≤ gb659)); have n7_ := Az.mk ((by rw [hg]; exact Nat.ne_of_lt (blk_lt (g := gb654) (o := .cells #[.int .i64 a1_0, .slice A1_1 l1_1.length c1_1] 57 (0, 0)) (by (with_reducible repeat (first | refine zq6 ?_ _ | refine zq8 ?_ | refine zq7 ?_ _)); exact BK654.out)) : gb654 ≠ gb659)); have n8_ := Az.mk ((by rw [hg]; exact Nat.ne_of_gt (blk_lt (g := gb654) (o := .cells #[.int .i64 a1_0, .slice A1_1 l1_1.length c1_1] 57 (0, 0)) (by (with_reducible repeat (first | refine zq6 ?_ _ | refine zq8 ?_ | refine zq7 ?_ _)); exact BK654.out)) : gb659 ≠ gb654)); have n9_ := Az.mk ((by rw [hg]; exact Nat.ne_of_lt (blk_lt (g := gb655) (o := .cells #[.int .i64 a2_0, .slice A2_1 l2_1.length c2_1] 57 (0, 0)) (by (with_reducible repeat (first | refine zq6 ?_ _ | refine zq8 ?_ | refine zq7 ?_ _)); exact BK655.out)) : gb655 ≠ gb659)); have n10_ := Az.mk ((by rw [hg]; exact Nat.ne_of_gt (blk_lt (g := gb655) (o := .cells #[.int .i64 a2_0, .slice A2_1 l2_1.length c2_1] 57 (0, 0)) (by (with_reducible repeat (first | refine zq6 ?_ _ | refine zq8 ?_ | refine zq7 ?_ _)); exact BK655.out)) : gb659 ≠ gb655)); clear HO_7; clear BK654; clear BK655; clear HB; have HO_7 := n0_; have BK654 := n1_; have BK655 := n2_; have HB := n3_; have BK659 := n4_; have GW659 := n5_; have GE659 := n6_; have NB654_659 := n7_; have NB659_654 := n8_; have NB655_659 := n9_; have NB659_655 := n10_; clear n0_ n1_ n2_ n3_ n4_ n5_ n6_ n7_ n8_ n9_ n10_; clear hb hbox hg; have hnb33 := NB659_654.out; have hnc33 := NB654_659.out; have hnb34 := NB659_655.out; have hnc34 := NB655_659.out; have hcz35_0 : w32.cell? ⟨gb659, 0, none⟩ = some (.int .i64 0) := (zq4 BK659.out 0).trans rfl; have hcz35_1 : w32.cell? ⟨gb659, 1, none⟩ = some (.int .i64 0) := (zq4 BK659.out 1).trans rfl; have hfz35_0 := zq5 BK659.out 0; have hfz35_1 := zq5 BK659.out 1; have hnb36 := NB654_655.out; have hnc36 := NB655_654.out; have hcz37_0 : w32.cell? ⟨gb654, 0, none⟩ = some (.int .i64 a1_0) := (zq4 BK654.out 0).trans rfl; have hcz37_1 : w32.cell? ⟨gb654, 1, none⟩ = some (.slice A1_1 l1_1.length c1_1) := (zq4 BK654.out 1).trans rfl; have hfz37_0 := zq5 BK654.out 0; have hfz37_1 := zq5 BK654.out 1) | ((with_reducible refine gate_callee (f := 117) rfl ?_); refine zq9 (some 26) rfl rfl Try.func117 (by kernel_rfl) rfl #[.agg #[.int .i64 a1_0, .slice A1_1 l1_1.length c1_1], .agg #[.int .i64 x8_1, .int .i64 x9_2]] rfl (by (try simp only [List.map_toArray, List.map_cons, List.map_nil]); first | done | rfl | (simp only [List.length_drop, List.length_take]; rfl)) ?_; (with_reducible refine (spec_l12Used.calls k2 a1_0 _ _ l1_1 x8_1 x9_2 false _ ?side1 ?side2 A10.out).mono ?_); (case side1 => exact Kd.C_below HR1_1.out (by repeat (first | (with_reducible first | exact HB.out | apply zq2 | apply zq1 | apply zqd | refine zq3 ?_ GE654.out | refine zq3 ?_ GE655.out | refine zq3 ?_ GE659.out) | exact HB.out))); (case side2 => exact HC1_1.out); rintro e w38 ⟨rfl, hb⟩; refine ⟨_, rfl, ?_⟩; have n0_ := Az.mk (Kd.R_below (by (with_reducible repeat (first | apply Kd.R_alloc | apply Kd.R_drewN | apply Kd.R_drew)); exact (Kd.R_mono (Kd.R_far (p := ⟨gb659, 1, none⟩) (Kd.R_far (p := ⟨gb659, 0, none⟩) (Kd.R_mono HO_7.out (fun k_ hk => (⟨hk, hk.2⟩ : _ ∧ k_ ≠ gb659))) (fun _ hk => hk.2) (.int .i64 x8_1)) (fun _ hk => hk.2) (.int .i64 x9_2)) (fun _ h_ => h_.1))) hb); have n1_ := Az.mk (blk_below (g := gb654) (o := .cells #[.int .i64 a1_0, .slice A1_1 l1_1.length c1_1] 57 (0, 0)) (by (with_reducible repeat (first | refine zq6 ?_ _ | refine zq8 ?_ | refine zq7 ?_ _)); refine blk_far ?_ NB654_659.out _; (with_reducible repeat (first | refine zq6 ?_ _ | refine zq8 ?_ | refine zq7 ?_ _)); refine blk_far ?_ NB654_659.out _; (with_reducible repeat (first | refine zq6 ?_ _ | refine zq8 ?_ | refine zq7 ?_ _)); exact BK654.out) hb); have n2_ := Az.mk (blk_below (g := gb655) (o := .cells #[.int .i64 a2_0, .slice A2_1 l2_1.length c2_1] 57 (0, 0)) (by (with_reducible repeat (first | refine zq6 ?_ _ | refine zq8 ?_ | refine zq7 ?_ _)); refine blk_far ?_ NB655_659.out _; (with_reducible repeat (first | refine zq6 ?_ _ | refine zq8 ?_ | refine zq7 ?_ _)); refine blk_far ?_ NB655_659.out _; (with_reducible repeat (first | refine zq6 ?_ _ | refine zq8 ?_ | refine zq7 ?_ _)); exact BK655.out) hb); have n3_ := Az.mk (blk_below (g := gb659) (o := .cells #[.int .i64 x8_1, .int .i64 x9_2] 37 (0, 0)) (by (with_reducible repeat (first | refine zq6 ?_ _ | refine zq8 ?_ | refine zq7 ?_ _)); refine blk_put (cs := #[.int .i64 x8_1, .int .i64 0]) ?_ 1 _ rfl; (with_reducible repeat (first | refine zq6 ?_ _ | refine zq8 ?_ | refine zq7 ?_ _)); refine blk_put (cs := #[.int .i64 0, .int .i64 0]) ?_ 0 _ rfl; (with_reducible repeat (first | refine zq6 ?_ _ | refine zq8 ?_ | refine zq7 ?_ _)); exact BK659.out) hb); have n4_ := Az.mk (below_step (by repeat (first | (with_reducible first | exact HB.out | apply zq2 | apply zq1 | apply zqd | refine zq3 ?_ GE654.out | refine zq3 ?_ GE655.out | refine zq3 ?_ GE659.out) | exact HB.out)) hb); clear HO_7; clear BK654; clear BK655; clear BK659; clear HB; have HO_7 := n0_; have BK654 := n1_; have BK655 := n2_; have BK659 := n3_; have HB := n4_; clear n0_ n1_ n2_ n3_ n4_; (try clear hb); (try clear hb2); (try clear hk); (try clear hi); have hcz39_0 : w38.cell? ⟨gb655, 0, none⟩ = some (.int .i64 a2_0) := (zq4 BK655.out 0).trans rfl; have hcz39_1 : w38.cell? ⟨gb655, 1, none⟩ = some (.slice A2_1 l2_1.length c2_1) := (zq4 BK655.out 1).trans rfl; have hfz39_0 := zq5 BK655.out 0; have hfz39_1 := zq5 BK655.out 1; have hcz40_0 : w38.cell? ⟨gb659, 0, none⟩ = some (.int .i64 x8_1) := (zq4 BK659.out 0).trans rfl; have hcz40_1 : w38.cell? ⟨gb659, 1, none⟩ = some (.int .i64 x9_2) := (zq4 BK659.out 1).trans rfl; have hfz40_0 := zq5 BK659.out 0; have hfz40_1 := zq5 BK659.out 1) | (go_at_call 117; (with_reducible refine (spec_l12Used.calls k2 a2_0 _ _ l2_1 x8_1 x9_2 false _ ?side1 ?side2 A19.out).mono ?_); (case side1 => repeat (first | exact (Kd.C_below HR2_1.out HB.out) | (with_reducible refine Kd.C_alloc ?_ _) | (with_reducible refine Kd.C_drewN ?_ _) | (with_reducible refine Kd.C_drew ?_))); (case side2 => exact HC2_1.out); rintro e w41 ⟨rfl, hb⟩; have n0_ := Az.mk (Kd.R_below (by (with_reducible repeat (first | apply Kd.R_alloc | apply Kd.R_drewN | apply Kd.R_drew)); exact HO_7.out) hb); have n1_ := Az.mk (blk_below (g := gb654) (o := .cells #[.int .i64 a1_0, .slice A1_1 l1_1.length c1_1] 57 (0, 0)) (by (with_reducible repeat (first | refine zq6 ?_ _ | refine zq8 ?_ | refine zq7 ?_ _)); exact BK654.out) hb); have n2_ := Az.mk (blk_below (g := gb655) (o := .cells #[.int .i64 a2_0, .slice A2_1 l2_1.length c2_1] 57 (0, 0)) (by (with_reducible repeat (first | refine zq6 ?_ _ | refine zq8 ?_ | refine zq7 ?_ _)); exact BK655.out) hb); have n3_ := Az.mk (blk_below (g := gb659) (o := .cells #[.int .i64 x8_1, .int .i64 x9_2] 37 (0, 0)) (by (with_reducible repeat (first | refine zq6 ?_ _ | refine zq8 ?_ | refine zq7 ?_ _)); exact BK659.out) hb); have n4_ := Az.mk (below_step (by repeat (first | (with_reducible first | exact HB.out | apply zq2 | apply zq1 | apply zqd | refine zq3 ?_ GE654.out | refine zq3 ?_ GE655.out | refine zq3 ?_ GE659.out) | exact HB.out)) hb); clear HO_7; clear BK654; clear BK655; clear BK659; clear HB; have HO_7 := n0_; have BK654 := n1_; have BK655 := n2_; have BK659 := n3_; have HB := n4_; clear n0_ n1_ n2_ n3_ n4_; (try clear hb); (try clear hb2); (try clear hk); (try clear hi); have hcz42_0 : w41.cell? ⟨gb659, 0, none⟩ = some (.int .i64 x8_1) := (zq4 BK659.out 0).trans rfl; have hcz42_1 : w41.cell? ⟨gb659, 1, none⟩ = some (.int .i64 x9_2) := (zq4 BK659.out 1).trans rfl; have hfz42_0 := zq5 BK659.out 0; have hfz42_1 := zq5 BK659.out 1) | ((with_reducible refine gate_builtin (b := .append) (xs := #[.tmp 34, .tmp 36]) rfl ?_); at_builtin; refine Kd.R_append k37 (w0 := w) w.heap.size rfl (.tmp 34) (.tmp 36) 27 37 (.agg #[(.int .i64 0), (.int .i64 0)]) 16 rfl Try.underlying27 info37 rfl (by decide) (by omega) u7 x7_2 (⟨x8_1, x9_2⟩ : S37) [.int .i64 x8_1, .int .i64 x9_2] (fun k_ => k_ ≠ gb659) (fun _ => False) rfl rfl ?aP (fun _ hk => hk.elim) ?aF ?aO ?aB ?aS ?aL ?_; (case aP => exact k37_mkM _ _ _ (⟨x8_1, x9_2⟩ : S37)); (case aB => exact (by repeat (first | (with_reducible first | exact HB.out | apply zq2 | apply zq1 | apply zqd | refine zq3 ?_ GE654.out | refine zq3 ?_ GE655.out | refine zq3 ?_ GE659.out) | exact HB.out))); (case aF => exact (fun k_ hk => Kd.freshB (g := gb659) (o := .cells #[.int .i64 x8_1, .int .i64 x9_2] 37 (0, 0)) (by (with_reducible repeat (first | refine zq6 ?_ _ | refine zq8 ?_ | refine zq7 ?_ _)); exact BK659.out) k_ hk)); (case aO => exact (by (with_reducible repeat (first | apply Kd.R_alloc | apply Kd.R_drewN | apply Kd.R_drew)); exact Kd.R_mono HO_7.out (fun _ hk => hk.2))); (case aS => exact (below_size (by repeat (first | (with_reducible first | exact HB.out | apply zq2 | apply zq1 | apply zqd | refine zq3 ?_ GE654.out | refine zq3 ?_ GE655.out | refine zq3 ?_ GE659.out) | exact HB.out)))); (case aL => have := LMc31.out; omega); intro v663 w43 ho hb hg hat; rw [← Ny662.out] at ho; have n0_ := Az.mk (blk_grown (g := gb654) (o := .cells #[.int .i64 a1_0, .slice A1_1 l1_1.length c1_1] 57 (0, 0)) (by (with_reducible repeat (first | refine zq6 ?_ _ | refine zq8 ?_ | refine zq7 ?_ _)); exact BK654.out) hg (Kd.R_ne HO_7.out BK654.out (by decide))); have n1_ := Az.mk (blk_grown (g := gb655) (o := .cells #[.int .i64 a2_0, .slice A2_1 l2_1.length c2_1] 57 (0, 0)) (by (with_reducible repeat (first | refine zq6 ?_ _ | refine zq8 ?_ | refine zq7 ?_ _)); exact BK655.out) hg (Kd.R_ne HO_7.out BK655.out (by decide))); have n2_ := Az.mk (blk_grown (g := gb659) (o := .cells #[.int .i64 x8_1, .int .i64 x9_2] 37 (0, 0)) (by (with_reducible repeat (first | refine zq6 ?_ _ | refine zq8 ?_ | refine zq7 ?_ _)); exact BK659.out) hg (Kd.R_away HO_7.out (fun _ hk => hk.2))); have n3_ := Az.mk (hb); have n4_ := Az.mk (ho); clear BK654; clear BK655; clear BK659; clear HB; clear HO_7; have BK654 := n0_; have BK655 := n1_; have BK659 := n2_; have HB := n3_; have HO664 := n4_; clear n0_ n1_ n2_ n3_ n4_; clear ho hb hg hat))
          go_roundg k2
          case measure => have := HK1.out; have := HK2.out; omega
          case rel => exact ⟨(y662), (wrap64 (x9_2 + 1)), (by first | rfl | (simp; done) | (simp [*]; done)), H', ⟨by have := HK1.out; have := HK2.out; omega⟩, ⟨by (with_reducible repeat (first | apply Kd.R_alloc | apply Kd.R_drewN | apply Kd.R_drew)); exact Kd.R_mono HO664.out (fun _ hk => trivial)⟩, ⟨by (with_reducible repeat (first | refine zq6 ?_ _ | refine zq8 ?_ | refine zq7 ?_ _)); exact BK654.out⟩, ⟨by (with_reducible repeat (first | refine zq6 ?_ _ | refine zq8 ?_ | refine zq7 ?_ _)); exact BK655.out⟩, ⟨by repeat (first | (with_reducible first | exact HB.out | apply zq2 | apply zq1 | apply zqd | refine zq3 ?_ GE654.out | refine zq3 ?_ GE655.out | refine zq3 ?_ GE659.out) | exact HB.out)⟩⟩
         ·rw [if_neg c31] at H
          exact absurd H (by simp)
      ·rw [if_neg c9] at H
       have c9b0 : decide (x9_2 < 12) = false := decide_eq_false c9
       clear c9
       have H' := Az.mk H
       clear H
       go_wp2
       go_roundg k2
       case measure => have := HK1.out; have := HK2.out; omega
       case rel => exact ⟨(x7_2), (wrap64 (x8_1 + 1)), (by first | rfl | (simp; done) | (simp [*]; done)), H', ⟨by have := HK1.out; have := HK2.out; omega⟩, ⟨by (with_reducible repeat (first | apply Kd.R_alloc | apply Kd.R_drewN | apply Kd.R_drew)); exact HO_7.out⟩, ⟨by (with_reducible repeat (first | refine zq6 ?_ _ | refine zq8 ?_ | refine zq7 ?_ _)); exact BK654.out⟩, ⟨by (with_reducible repeat (first | refine zq6 ?_ _ | refine zq8 ?_ | refine zq7 ?_ _)); exact BK655.out⟩, ⟨by repeat (first | (with_reducible first | exact HB.out | apply zq2 | apply zq1 | apply zqd | refine zq3 ?_ GE654.out | refine zq3 ?_ GE655.out) | exact HB.out)⟩⟩
   ·rw [if_neg c8] at H
    have c8b0 : decide (x8_1 < a0) = false := decide_eq_false c8
    clear c8
    obtain rfl := Option.some.inj H
    go_wp2
    go_ret
    exact ⟨_, by first | rfl | (simp [errW_none, errW_some] <;> rfl) | (simp [*, errW_none, errW_some] <;> rfl), by (with_reducible repeat (first | apply Kd.R_alloc | apply Kd.R_drewN | apply Kd.R_drew)); exact HO_7.out, by repeat (first | (with_reducible first | exact HB.out | apply zq2 | apply zq1 | apply zqd | refine zq3 ?_ GE654.out | refine zq3 ?_ GE655.out) | exact HB.out)⟩
end Go.Proofs.Ytkoimmeghdbodaa.Print
namespace Go.Proofs.Ytkoimmeghdbodaa.Pure
open Go.RowKit Go.Lib Go.Sort Go.Proofs.Ytkoimmeghdbodaa.Print Go.Proofs.YtkoimmeghdbodaaW.PrintWords Go.Proofs.YtkoimmeghdbodaaW.PrintLast
theorem used_l1 (ps : List S29) (hp : ps.length ≤ 1048576) (hF : ∀ p ∈ ps, p.f2.length ≤ 1048576) (x : S37) (i : Nat) (hi : i < ps.length) {r : Bool} (K : Ev (fun k => spec_l12Used.l0 k ps ((i + 1 : Nat) : Int) x.f0 x.f1) r) (d : Nat) :
    ∀ j : Nat, j + d = (ps.getD i z29).f2.length → Ev (fun k => spec_l12Used.l1 k ps (i : Int) (j : Int) x.f0 x.f1) ((((ps.getD i z29).f2.drop j).any fun y => decide (y = x)) || r) := by
  have e : wrap64 ((i : Int) + 1) = ((i + 1 : Nat) : Int) := by rw [wrap_ok (by omega)]; omega
  have hpi := hF _ (getD_mem (z := z29) (i := i) (l := ps) (by omega))
  induction d with
  | zero =>
    intro j hj
    refine Ev.next ?_
    simp only [spec_l12Used.l1, e, rd29n]
    clear e
    refine Ev.pos (by omega) (Ev.pos (by omega) (Ev.neg (by omega) ?_))
    rw [List.drop_of_length_le (by omega)]
    exact K
  | succ d ih =>
    intro j hj
    have e2 : wrap64 ((j : Int) + 1) = ((j + 1 : Nat) : Int) := by rw [wrap_ok (by omega)]; omega
    have hih := ih (j + 1) (by omega)
    rw [drop_getD (ps.getD i z29).f2 z37 j (by omega), List.any_cons]
    have key := eq37 ((ps.getD i z29).f2.getD j z37) x
    refine Ev.next ?_
    simp only [spec_l12Used.l1, e2, rd29n, rd37n, key]
    clear e e2 key
    refine Ev.pos (by omega) (Ev.pos (by omega) (Ev.pos (by omega) (Ev.pos (by omega) ?_)))
    by_cases c : (ps.getD i z29).f2.getD j z37 = x
    · exact Ev.pos (decide_eq_true c) (Ev.ret (by rw [decide_eq_true c]; rfl))
    · refine Ev.neg (by rw [decide_eq_true_iff]; exact c) ?_
      rw [decide_eq_false c, Bool.false_or]
      exact hih
def usedB (ps : List S29) (x : S37) : Bool := ps.any fun p => p.f2.any fun y => decide (y = x)
theorem used_l0 (ps : List S29) (hp : ps.length ≤ 1048576) (hF : ∀ p ∈ ps, p.f2.length ≤ 1048576) (x : S37) (d : Nat) :
    ∀ i : Nat, i + d = ps.length → Ev (fun k => spec_l12Used.l0 k ps (i : Int) x.f0 x.f1) (usedB (ps.drop i) x) := by
  induction d with
  | zero =>
    intro i hi
    refine Ev.next ?_
    simp only [spec_l12Used.l0]
    exact Ev.neg (by omega) (Ev.ret (by rw [List.drop_of_length_le (by omega)]; rfl))
  | succ d ih =>
    intro i hi
    have h := used_l1 ps hp hF x i (by omega) (ih (i + 1) (by omega)) _ 0 (Nat.zero_add _)
    rw [List.drop_zero] at h
    refine Ev.next ?_
    simp only [spec_l12Used.l0]
    refine Ev.pos (by omega) ?_
    unfold usedB at h ⊢
    rw [drop_getD ps z29 i (by omega), List.any_cons]
    exact h
theorem usedB_iff (ps : List S29) (x : S37) : usedB ps x = decide (x ∈ placesAll ps) := by
  rw [Bool.eq_iff_iff, decide_eq_true_iff]
  unfold usedB placesAll
  rw [List.any_eq_true, List.mem_flatMap]
  constructor
  · rintro ⟨p, hp, h⟩
    obtain ⟨y, hy, h2⟩ := List.any_eq_true.1 h
    rw [decide_eq_true_iff] at h2
    exact ⟨p, hp, by rw [← h2]; exact hy⟩
  · rintro ⟨p, hp, h⟩
    exact ⟨p, hp, List.any_eq_true.2 ⟨x, h, decide_eq_true rfl⟩⟩
theorem used_ev (tx : Int) (vs : List S65) (hl : vs.length ≤ 4) (h3 : ∀ x ∈ vs, x.f1.length = 3) (hF : FitM vs) (x : S37) : Ev (fun k => spec_l12Used.f k tx vs x.f0 x.f1) (decide (x ∈ placesAll (ptrs vs))) := by
  unfold spec_l12Used.f
  have hp := ptrs_take_len h3 vs.length (Nat.le_refl _)
  rw [List.take_length] at hp
  rw [← usedB_iff]
  exact Ev.bind (all_ev tx vs hl h3) (used_l0 (ptrs vs) (by omega) (fun p hp => by
    obtain ⟨y, hy, h⟩ := List.mem_flatMap.1 hp
    exact hF.places y hy p h) x _ 0 (Nat.zero_add _))
theorem root_shape {n tx : Int} {vs : List S65} (h : rootB n tx vs = true) : vs.length ≤ 4 ∧ ∀ x ∈ vs, x.f1.length = 3 := by
  unfold rootB at h
  simp only [Bool.and_eq_true, decide_eq_true_iff] at h
  have hg := vols_good h.2.2.2.1
  exact ⟨hg.1, hg.2.1⟩
theorem rootPl_mem {n tx : Int} {vs : List S65} (h : rootB n tx vs = true) (x : S37) : x ∈ rootPl n tx vs ↔ x ∈ placesAll (ptrs vs) := by
  unfold rootPl
  rw [if_pos h, compactPl_mem]
section
variable {n txa txb : Int} {la lb : List S65} (ea : rootB n txa la = true) (eb : rootB n txb lb = true) (hFa : FitM la) (hFb : FitM lb)
include ea eb hFa hFb
theorem free_l1 (d : Nat) (hd : d < 10) {r : List S37} (K : Ev (fun k => spec_l12Free.l0 k n (flatF (rootPl n txa la ++ rootPl n txb lb) (d + 1)) ((d + 1 : Nat) : Int) txa la txb lb) r) (q : Nat) :
    ∀ s : Nat, s + q = 12 → Ev (fun k => spec_l12Free.l1 k n (flatF (rootPl n txa la ++ rootPl n txb lb) d ++ freeP (rootPl n txa la ++ rootPl n txb lb) d s) (d : Int) (s : Int) txa la txb lb) r := by
  have e7 : wrap64 ((d : Int) + 1) = ((d + 1 : Nat) : Int) := by rw [wrap_ok (by omega)]; omega
  have sa := root_shape ea
  have sb := root_shape eb
  induction q with
  | zero =>
    intro s hs
    have hs : s = 12 := by omega
    subst hs
    refine Ev.next ?_
    simp only [spec_l12Free.l1, e7]
    clear e7
    refine Ev.neg (by omega) ?_
    rw [flatF_succ] at K
    exact K
  | succ q ih =>
    intro s hs
    have e : wrap64 ((s : Int) + 1) = ((s + 1 : Nat) : Int) := by rw [wrap_ok (by omega)]; omega
    have hih := ih (s + 1) (by omega)
    have hlen : (flatF (rootPl n txa la ++ rootPl n txb lb) d ++ freeP (rootPl n txa la ++ rootPl n txb lb) d s).length ≤ 1000 := by
      rw [List.length_append]
      have := flatF_len (rootPl n txa la ++ rootPl n txb lb) d
      have := freeP_len (rootPl n txa la ++ rootPl n txb lb) d s
      omega
    have ua := used_ev txa la sa.1 sa.2 hFa (⟨(d : Int), (s : Int)⟩ : S37)
    have ub := used_ev txb lb sb.1 sb.2 hFb (⟨(d : Int), (s : Int)⟩ : S37)
    have hm : (⟨(d : Int), (s : Int)⟩ : S37) ∈ rootPl n txa la ++ rootPl n txb lb ↔ (⟨(d : Int), (s : Int)⟩ : S37) ∈ placesAll (ptrs la) ∨ (⟨(d : Int), (s : Int)⟩ : S37) ∈ placesAll (ptrs lb) := by
      rw [List.mem_append, rootPl_mem ea, rootPl_mem eb]
    rw [freeP_succ, ← List.append_assoc] at hih
    refine Ev.next ?_
    simp only [spec_l12Free.l1, e]
    clear e e7
    refine Ev.pos (by omega) (Ev.bind ua ?_)
    by_cases c : (⟨(d : Int), (s : Int)⟩ : S37) ∈ placesAll (ptrs la)
    · refine Ev.pos (decide_eq_true c) ?_
      rw [if_pos (hm.2 (Or.inl c)), List.append_nil] at hih
      exact hih
    · refine Ev.neg (by rw [decide_eq_true_iff]; exact c) (Ev.bind ub ?_)
      by_cases c2 : (⟨(d : Int), (s : Int)⟩ : S37) ∈ placesAll (ptrs lb)
      · refine Ev.pos (decide_eq_true c2) ?_
        rw [if_pos (hm.2 (Or.inr c2)), List.append_nil] at hih
        exact hih
      · refine Ev.neg (by rw [decide_eq_true_iff]; exact c2) (Ev.pos (by omega) ?_)
        rw [if_neg (fun h => (hm.1 h).elim c c2)] at hih
        exact hih
theorem free_l0 (nn : Nat) (hn : n = (nn : Int)) (h4 : nn ≤ 4) (q : Nat) : ∀ d : Nat, d + q = nn → Ev (fun k => spec_l12Free.l0 k n (flatF (rootPl n txa la ++ rootPl n txb lb) d) (d : Int) txa la txb lb) (flatF (rootPl n txa la ++ rootPl n txb lb) nn) := by
  induction q with
  | zero =>
    intro d hd
    have hd : d = nn := by omega
    subst hd
    refine Ev.next ?_
    simp only [spec_l12Free.l0]
    exact Ev.neg (by omega) (Ev.ret rfl)
  | succ q ih =>
    intro d hd
    have h := free_l1 ea eb hFa hFb d (by omega) (ih (d + 1) (by omega)) 12 0 rfl
    have e0 : freeP (rootPl n txa la ++ rootPl n txb lb) d 0 = [] := by simp [freeP]
    rw [e0, List.append_nil] at h
    refine Ev.next ?_
    simp only [spec_l12Free.l0]
    exact Ev.pos (by omega) h
theorem free_ev : Ev (fun k => spec_l12Free.f k n txa la txb lb) (flatF (rootPl n txa la ++ rootPl n txb lb) n.toNat) := by
  have sa := rootPl_small ea
  obtain ⟨nn, hnn⟩ := Int.eq_ofNat_of_zero_le (show 0 ≤ n by omega)
  have h := free_l0 ea eb hFa hFb nn hnn (by omega) nn 0 (Nat.zero_add _)
  unfold spec_l12Free.f
  rw [show n.toNat = nn by omega]
  exact h
end
theorem spaceI_len (n txa txb : Int) (la lb : List S65) : (spaceI n txa txb la lb).length ≤ 1048576 := by
  unfold spaceI
  cases ea : rootB n txa la with
  | false => simp
  | true =>
    cases eb : rootB n txb lb with
    | false => simp
    | true =>
      have sa := rootPl_small ea
      have := flatF_len (rootPl n txa la ++ rootPl n txb lb) n.toNat
      rw [if_pos (by rfl : (true && true) = true)]
      omega
end Go.Proofs.Ytkoimmeghdbodaa.Pure
namespace Go.Proofs.Ytkoimmeghdbodaa.Print
open Go.RowKit Go.Lib Go.Maps Go.WideMaps Go.Proofs.YtkoimmeghdbodaaW.PrintWords Go.Proofs.YtkoimmeghdbodaaW.PrintLast Go.Proofs.YtkoimmeghdbodaaW.PrintMore Go.Proofs.Ytkoimmeghdbodaa.Pure
theorem keepS {w w' : World} {a1 a2 a3 b1 b2 b3 : Addr} {u1 u2 u3 v1 v2 v3 : Value} (hb : Below w.heap.size w w') (h : (w.cell? a1 = some u1 ∧ w.cell? a2 = some u2 ∧ w.cell? a3 = some u3) ∧ (w.cell? b1 = some v1 ∧ w.cell? b2 = some v2 ∧ w.cell? b3 = some v3)) :
    (w'.cell? a1 = some u1 ∧ w'.cell? a2 = some u2 ∧ w'.cell? a3 = some u3) ∧ (w'.cell? b1 = some v1 ∧ w'.cell? b2 = some v2 ∧ w'.cell? b3 = some v3) := by
  have k : ∀ {a : Addr} {u : Value}, w.cell? a = some u → w'.cell? a = some u := fun h => (Below.cell hb (World.block_lt_of_cell? _ _ h)).trans h
  exact ⟨⟨k h.1.1, k h.1.2.1, k h.1.2.2⟩, k h.2.1, k h.2.2.1, k h.2.2.2⟩
def namesB (vs : List S65) : Bool := decide (∀ q, q < vs.length → nameAt vs q = true)
def ptrsB (n : Int) (ps : List S29) : Bool := decide (∀ t, t < ps.length → 0 ≤ t → ptrAt n ps t = true)
theorem namesB_no {vs : List S65} {i : Nat} (hi : i < vs.length) (h : nameAt vs i = false) : namesB vs = false := by
  unfold namesB
  rw [decide_eq_false]
  intro h2
  rw [h2 i hi] at h
  cases h
theorem ptrsB_no {n : Int} {ps : List S29} {i : Nat} (hi : i < ps.length) (h : ptrAt n ps i = false) : ptrsB n ps = false := by
  unfold ptrsB
  rw [decide_eq_false]
  intro h2
  rw [h2 i hi (Nat.zero_le _)] at h
  cases h
theorem eqStr (a b : ByteArray) : (a = b) ↔ a.toList = b.toList := by
  rw [ByteArray.toList_eq, ByteArray.toList_eq]
  constructor
  · intro h
    rw [h]
  · intro h
    exact ByteArray.ext (Array.ext' h)
set_option maxHeartbeats 16000000 in
set_option maxRecDepth 100000 in
theorem sVols_call (n tx : Int) (hn : 3 ≤ n ∧ n ≤ 4) (A0 : Option Addr) (c0 : Nat) (l0 : List S65) (w : World) (hr0 : Kd.C k65 w A0 l0.length l0) (hc0 : l0.length ≤ c0) (hF : FitM l0) (hl : l0.length ≤ 4) :
    Calls Try.prog 76 #[.int .i64 n, .agg #[.int .i64 tx, .slice A0 l0.length c0]] w fun e w' => e = .returned (.bool (namesB l0 && ptrsB n (ptrs l0))) ∧ Below w.heap.size w w' := by
  have hu57 := Try.underlying57
  have hu65 := Try.underlying65
  have hu29 := Try.underlying29
  have mixed : Try.prog.follows Departure.mixedOrders = true := by kernel_rfl
  have HB := Az.mk (Below.refl w.heap.size w)
  have HR := Az.mk hr0
  have HCC := Az.mk hc0
  have HF := Az.mk hF
  have HL := Az.mk hl
  have HN := Az.mk hn
  clear hr0 hc0 hF hl hn
  go_enter Try.func76, Try.ntmps76
  go_wp2_with (first | ((with_reducible refine zqg (N := 3) rfl ?_); refine zqb ?hg (N := 3) ?hd (cs := #[.int .i64 tx, .slice A0 l0.length c0]) (t := 57) ?hr ?_; (case hd => rfl); (case hg => rfl); (case hr => first | (go_simp; done) | (go_simp; rfl)); intro gb hg w5 hbox hb; have n0_ := Az.mk (below_step zB hb); have BR := Az.mk (show Blk w5 gb #[.int .i64 tx, .slice A0 l0.length c0] 57 from hbox); clear HB; have HB := n0_; clear n0_ hbox hb hg; have hcz_0 := (BR.out.cell 0).trans rfl; have hcz_1 := (BR.out.cell 1).trans rfl) | go_in)
  clear hcz_0 hcz_1
  go_loopg [5] l0.length (fun kq v5 wr => ∃ (i : Nat), v5 = .int .i64 (i : Int) ∧ Az (i + kq = l0.length) ∧ Az (∀ q, q < i → nameAt l0 q = true) ∧ Az (Blk wr gb #[.int .i64 tx, .slice A0 l0.length c0] 57) ∧ Az (Below w.heap.size w wr))
  case atStart => exact ⟨0, rfl, ⟨Nat.zero_add _⟩, ⟨fun q h => by omega⟩, BR, HB⟩
  case round =>
    obtain ⟨i, rfl, HI, HQ, BR, HB⟩ := hrel
    have hcz_0 := (BR.out.cell 0).trans rfl
    have hcz_1 := (BR.out.cell 1).trans rfl
    by_cases e1 : i < l0.length
    · have e1b : decide ((i : Int) < (l0.length : Int)) = true := decide_eq_true (by omega)
      have p1 := eq_true (show (0 : Int) ≤ (i : Int) by omega)
      have q1 := eq_true (show (i : Int) < (l0.length : Int) by omega)
      have HE1 := Az.mk e1
      obtain ⟨ad, A1, c1, eA, hx_0, hx_1, hl1, hi1⟩ := at_T65 (Kd.C_below HR.out HB.out) (i : Int) (by omega) (by omega)
      subst eA
      simp only [Int.toNat_natCast, rd_T65] at hx_0 hx_1
      obtain ⟨x, hX⟩ : ∃ x, x = l0.getD i z65 := ⟨_, rfl⟩
      rw [← hX] at hx_0 hx_1
      have HX := Az.mk hX
      obtain ⟨kn, hkn⟩ := Ev.rounds (l2Name_ev x.f0)
      have HNM := Az.mk (fun W => spec_l2Name.calls kn x.f0 (volB x.f0) W hkn)
      clear hX hl1 hi1 hkn e1
      cases hv : volB x.f0 with
      | false =>
        rw [hv] at HNM
        have HNO : Az (namesB l0 = false) := ⟨namesB_no HE1.out (by unfold nameAt; rw [← HX.out, hv]; rfl)⟩
        clear hv
        go_wp2_with (first | (go_at_call 98; refine (HNM.out _).mono ?_; rintro e w23 ⟨rfl, hd⟩; have hb := hd.below; have BR2 := Az.mk (BR.out.below hb); have HB2 := Az.mk (HB.out.trans (hb.mono HB.out.size)); clear BR HB hcz_0 hcz_1; have BR := BR2; have HB := HB2; clear BR2 HB2; have hcz_0 := (BR.out.cell 0).trans rfl; have hcz_1 := (BR.out.cell 1).trans rfl; have h0_ := (Below.cell hb (World.block_lt_of_cell? _ _ hx_0)).trans hx_0; have h1_ := (Below.cell hb (World.block_lt_of_cell? _ _ hx_1)).trans hx_1; clear hx_0 hx_1; have hx_0 := h0_; have hx_1 := h1_; clear h0_ h1_; clear hb hd) | go_in)
        go_ret
        exact ⟨by rw [HNO.out]; rfl, HB.out⟩
      | true =>
        rw [hv] at HNM
        by_cases h3 : x.f1.length = 3
        · have h3b : decide ((x.f1.length : Int) = 3) = true := decide_eq_true (by omega)
          have h3c : ((x.f1.length : Int) == 3) = true := by rw [beq_iff_eq]; omega
          have h3d : ((x.f1.length : Int) = 3) := by omega
          have HV := Az.mk hv
          have H3 := Az.mk h3
          have HWi : Az (wrap64 ((i : Int) + 1) = ((i + 1 : Nat) : Int)) := ⟨by rw [Pure.wrap_ok (by have := HL.out; have := HE1.out; omega)]; omega⟩
          obtain ⟨go, hgo⟩ : ∃ go, go = gk := ⟨_, rfl⟩
          subst hgo
          clear hv h3
          go_wp2_with (first | (go_at_call 98; refine (HNM.out _).mono ?_; rintro e w23 ⟨rfl, hd⟩; have hb := hd.below; have BR2 := Az.mk (BR.out.below hb); have HB2 := Az.mk (HB.out.trans (hb.mono HB.out.size)); clear BR HB hcz_0 hcz_1; have BR := BR2; have HB := HB2; clear BR2 HB2; have hcz_0 := (BR.out.cell 0).trans rfl; have hcz_1 := (BR.out.cell 1).trans rfl; have h0_ := (Below.cell hb (World.block_lt_of_cell? _ _ hx_0)).trans hx_0; have h1_ := (Below.cell hb (World.block_lt_of_cell? _ _ hx_1)).trans hx_1; clear hx_0 hx_1; have hx_0 := h0_; have hx_1 := h1_; clear h0_ h1_; clear hb hd) | go_in)
          clear hx_0 hx_1 h3b h3c h3d hcz_0 hcz_1
          go_loopg [6] i (fun kq v6 wr => ∃ (j : Nat), v6 = .int .i64 (j : Int) ∧ Az (j + kq = i) ∧ Az (∀ q, q < j → (l0.getD q z65).f0.toList ≠ x.f0.toList) ∧ Az (Blk wr gb #[.int .i64 tx, .slice (some ad) l0.length c0] 57) ∧ Az (Below w.heap.size w wr))
          case atStart => exact ⟨0, rfl, ⟨Nat.zero_add _⟩, ⟨fun q h => by omega⟩, BR, HB⟩
          case round =>
            obtain ⟨j, rfl, HJ, HD, BR, HB⟩ := hrel
            have hcz_0 := (BR.out.cell 0).trans rfl
            have hcz_1 := (BR.out.cell 1).trans rfl
            by_cases e2 : j < i
            · have e2b : decide ((j : Int) < (i : Int)) = true := decide_eq_true (by omega)
              have p2 := eq_true (show (0 : Int) ≤ (j : Int) by omega)
              have q2 := eq_true (show (j : Int) < (l0.length : Int) by have := HE1.out; omega)
              have HE2 := Az.mk e2
              have HWj : Az (wrap64 ((j : Int) + 1) = ((j + 1 : Nat) : Int)) := ⟨by rw [Pure.wrap_ok (by have := HL.out; have := HE1.out; omega)]; omega⟩
              obtain ⟨_, _, _, eA, hx_0, _, _, _⟩ := at_T65 (Kd.C_below HR.out HB.out) (i : Int) (by omega) (by have := HE1.out; omega)
              cases eA
              obtain ⟨_, _, _, eA, hy_0, _, _, _⟩ := at_T65 (Kd.C_below HR.out HB.out) (j : Int) (by omega) (by have := HE1.out; omega)
              cases eA
              simp only [Int.toNat_natCast, rd_T65] at hx_0 hy_0
              rw [← HX.out] at hx_0
              obtain ⟨y, hY⟩ : ∃ y, y = l0.getD j z65 := ⟨_, rfl⟩
              rw [← hY] at hy_0
              have HY := Az.mk hY
              have HDR : Az (Below wr.heap.size wr wr.drew) := ⟨(Below.refl _ _).drew⟩
              clear hY
              cases esd : (y.f0.toList == x.f0.toList) with
              | true =>
                have es := beq_iff_eq.1 esd
                have ES : y.f0 = x.f0 := (eqStr _ _).2 es
                have HNO : Az (namesB l0 = false) := ⟨namesB_no HE1.out (by
                  unfold nameAt
                  rw [← HX.out, Bool.and_eq_false_iff, Bool.and_eq_false_iff, decide_eq_false_iff_not, decide_eq_false_iff_not]
                  exact Or.inr (Or.inr fun h => h j HE2.out (by rw [← HY.out]; exact es)))⟩
                clear es ES
                go_wp2_with fail
                refine start_ (n := 13) (S := fun w' => (w'.cell? ⟨gb, 0, none⟩ = some (.int .i64 tx) ∧ w'.cell? ⟨gb, 1, none⟩ = some (.slice (some ad) l0.length c0)) ∧ w'.cell? (ad.add (i * 2)) = some (.string x.f0) ∧ w'.cell? (ad.add (j * 2)) = some (.string y.f0)) (ds := []) (bm 13 0) (by kernel_rfl) rfl rfl (⟨⟨hcz_0, hcz_1⟩, hx_0, hy_0⟩) (fun hHeld => ?_)
                refine zP 0 (some 40) (bm 13 1) ?_
                refine zP 2 (some 42) (bm 13 5) ?_
                refine zP 6 (some 46) (bm 13 69) ?_
                refine zP 8 (some 48) (bm 13 325) ?_
                refine zU 1 (some 41) (bm 13 327) rfl hHeld (Or.inl ⟨by rfl, by rintro w' ⟨⟨s0, s1⟩, s2, s3⟩; go_simp; with_reducible rfl⟩) ?_
                refine zP 3 (some 43) (bm 13 335) ?_
                refine zP 4 (some 44) (bm 13 351) ?_
                refine zU 5 (some 45) (bm 13 383) rfl hHeld (Or.inl ⟨by rfl, by rintro w' ⟨⟨s0, s1⟩, s2, s3⟩; go_simp; with_reducible rfl⟩) ?_
                refine zU 7 (some 47) (bm 13 511) rfl hHeld (Or.inl ⟨by rfl, by rintro w' ⟨⟨s0, s1⟩, s2, s3⟩; go_simp; with_reducible rfl⟩) ?_
                refine zP 9 (some 49) (bm 13 1023) ?_
                refine zP 10 (some 50) (bm 13 2047) ?_
                refine zU 11 (some 51) (bm 13 4095) rfl hHeld (Or.inl ⟨by rfl, by rintro w' ⟨⟨s0, s1⟩, s2, s3⟩; go_simp; with_reducible rfl⟩) ?_
                refine zP 12 (some 52) (bm 13 8191) ?_
                refine done_ (by kernel_rfl) ?_
                go_wp2
                go_ret
                exact ⟨by rw [HNO.out]; rfl, HB.out.trans (HDR.out.mono HB.out.size)⟩
              | false =>
                have HES := Az.mk (beq_eq_false_iff_ne.1 esd)
                go_wp2_with fail
                refine start_ (n := 13) (S := fun w' => (w'.cell? ⟨gb, 0, none⟩ = some (.int .i64 tx) ∧ w'.cell? ⟨gb, 1, none⟩ = some (.slice (some ad) l0.length c0)) ∧ w'.cell? (ad.add (i * 2)) = some (.string x.f0) ∧ w'.cell? (ad.add (j * 2)) = some (.string y.f0)) (ds := []) (bm 13 0) (by kernel_rfl) rfl rfl (⟨⟨hcz_0, hcz_1⟩, hx_0, hy_0⟩) (fun hHeld => ?_)
                refine zP 0 (some 40) (bm 13 1) ?_
                refine zP 2 (some 42) (bm 13 5) ?_
                refine zP 6 (some 46) (bm 13 69) ?_
                refine zP 8 (some 48) (bm 13 325) ?_
                refine zU 1 (some 41) (bm 13 327) rfl hHeld (Or.inl ⟨by rfl, by rintro w' ⟨⟨s0, s1⟩, s2, s3⟩; go_simp; with_reducible rfl⟩) ?_
                refine zP 3 (some 43) (bm 13 335) ?_
                refine zP 4 (some 44) (bm 13 351) ?_
                refine zU 5 (some 45) (bm 13 383) rfl hHeld (Or.inl ⟨by rfl, by rintro w' ⟨⟨s0, s1⟩, s2, s3⟩; go_simp; with_reducible rfl⟩) ?_
                refine zU 7 (some 47) (bm 13 511) rfl hHeld (Or.inl ⟨by rfl, by rintro w' ⟨⟨s0, s1⟩, s2, s3⟩; go_simp; with_reducible rfl⟩) ?_
                refine zP 9 (some 49) (bm 13 1023) ?_
                refine zP 10 (some 50) (bm 13 2047) ?_
                refine zU 11 (some 51) (bm 13 4095) rfl hHeld (Or.inl ⟨by rfl, by rintro w' ⟨⟨s0, s1⟩, s2, s3⟩; go_simp; with_reducible rfl⟩) ?_
                refine zP 12 (some 52) (bm 13 8191) ?_
                refine done_ (by kernel_rfl) ?_
                go_wp2
                go_roundg (i - (j + 1))
                case measure => have := HJ.out; have := HE2.out; omega
                case rel => exact ⟨j + 1, by rw [← HWj.out], ⟨by have := HE2.out; omega⟩, ⟨fun q hq => by
                    by_cases e : q = j
                    · rw [e, ← HY.out]; exact HES.out
                    · exact HD.out q (by omega)⟩, ⟨BR.out.below HDR.out⟩, ⟨HB.out.trans (HDR.out.mono HB.out.size)⟩⟩
            · have e2b : decide ((j : Int) < (i : Int)) = false := decide_eq_false (by omega)
              have hj : j = i := by have := HJ.out; omega
              have HOK : Az (nameAt l0 i = true) := ⟨by
                unfold nameAt
                rw [← HX.out, HV.out, decide_eq_true H3.out, decide_eq_true (fun q hq => HD.out q (by omega))]
                rfl⟩
              clear hj
              go_wp2
              go_roundg (l0.length - (i + 1))
              case measure => have := HI.out; have := HE1.out; omega
              case rel => exact ⟨i + 1, by rw [← HWi.out], ⟨by have := HE1.out; omega⟩, ⟨fun q hq => by
                  by_cases e : q = i
                  · rw [e]; exact HOK.out
                  · exact HQ.out q (by omega)⟩, BR, HB⟩
        · have h3b : decide ((x.f1.length : Int) = 3) = false := decide_eq_false (by omega)
          have h3c : ((x.f1.length : Int) == 3) = false := by rw [beq_eq_false_iff_ne]; omega
          have h3d : ¬ ((x.f1.length : Int) = 3) := by omega
          have HNO : Az (namesB l0 = false) := ⟨namesB_no HE1.out (by
            unfold nameAt
            rw [← HX.out, decide_eq_false h3, Bool.false_and, Bool.and_false])⟩
          clear hv h3
          go_wp2_with (first | (go_at_call 98; refine (HNM.out _).mono ?_; rintro e w23 ⟨rfl, hd⟩; have hb := hd.below; have BR2 := Az.mk (BR.out.below hb); have HB2 := Az.mk (HB.out.trans (hb.mono HB.out.size)); clear BR HB hcz_0 hcz_1; have BR := BR2; have HB := HB2; clear BR2 HB2; have hcz_0 := (BR.out.cell 0).trans rfl; have hcz_1 := (BR.out.cell 1).trans rfl; have h0_ := (Below.cell hb (World.block_lt_of_cell? _ _ hx_0)).trans hx_0; have h1_ := (Below.cell hb (World.block_lt_of_cell? _ _ hx_1)).trans hx_1; clear hx_0 hx_1; have hx_0 := h0_; have hx_1 := h1_; clear h0_ h1_; clear hb hd) | go_in)
          go_ret
          exact ⟨by rw [HNO.out]; rfl, HB.out⟩
    · have e1b : decide ((i : Int) < (l0.length : Int)) = false := decide_eq_false (by omega)
      have hi : i = l0.length := by have := HI.out; omega
      have hnm : namesB l0 = true := decide_eq_true (by rw [← hi]; exact HQ.out)
      have HNM := Az.mk hnm
      have hnn : ∀ x ∈ l0, x.f1.length = 3 := fun x hx => by
        obtain ⟨q, hq, rfl⟩ := List.getElem_of_mem hx
        have := HQ.out q (by omega)
        unfold nameAt at this
        rw [Bool.and_eq_true, Bool.and_eq_true, decide_eq_true_iff] at this
        simpa [List.getD, hq] using this.2.1
      obtain ⟨ka, hka⟩ := Ev.rounds (all_ev tx l0 HL.out hnn)
      have HPT := Az.mk (fun (W : World) (hb : Below w.heap.size w W) => spec_l2All.calls ka tx (fun k_ => k_ < w.heap.size) A0 c0 l0 (ptrs l0) W (Kd.V_mk HCC.out (Kd.F_below (Kd.C_F k65_heap HR.out) hb)) hka)
      have hpn : (ptrs l0).length ≤ 12 := by
        have := ptrs_take_len hnn l0.length (Nat.le_refl _)
        rw [List.take_length] at this
        have := HL.out
        omega
      have hpF : ∀ p ∈ ptrs l0, p.f2.length ≤ 1048576 := fun p hp => by
        obtain ⟨x, hx, h⟩ := List.mem_flatMap.1 hp
        exact HF.out.places x hx p h
      have HNMT : Az (∀ b, (namesB l0 && b) = b) := ⟨fun b => by rw [HNM.out]; rfl⟩
      obtain ⟨res, hres⟩ : ∃ r, r = (namesB l0 && ptrsB n (ptrs l0)) := ⟨_, rfl⟩
      have HRES : Az ((namesB l0 && ptrsB n (ptrs l0)) = ptrsB n (ptrs l0)) := ⟨HNMT.out _⟩
      obtain ⟨ps, hps⟩ : ∃ ps, ps = ptrs l0 := ⟨_, rfl⟩
      rw [← hps] at HPT hpn hpF HRES
      have HPLN := Az.mk hpn
      have HPF := Az.mk hpF
      have HPS := Az.mk hps
      clear hi hnm hnn hka hpn hpF hres hps HQ
      go_wp2_with (first | (go_at_call 86; refine (HPT.out _ HB.out).mono ?_; rintro e w54 ⟨v, rfl, hN, hb⟩; obtain ⟨A1, c1, rfl, hl1, hC1⟩ := Kd.N_reads hN; have HC1 := Az.mk hC1; have HB2 := Az.mk (HB.out.trans (hb.mono HB.out.size)); clear HB hcz_0 hcz_1 BR hN hl1 hC1 hb; have HBW := HB2; clear HB2) | go_in)
      go_loopg [8] ps.length (fun kq v8 wr => ∃ (i : Nat), v8 = .int .i64 (i : Int) ∧ Az (i + kq = ps.length) ∧ Az (∀ t, t < i → ptrAt n ps t = true) ∧ Az (Below w54.heap.size w54 wr))
      case atStart => exact ⟨0, rfl, ⟨Nat.zero_add _⟩, ⟨fun q h => by omega⟩, ⟨Below.refl _ _⟩⟩
      case round =>
        obtain ⟨i, rfl, HI, HQ, HB⟩ := hrel
        by_cases e1 : i < ps.length
        · have e1b : decide ((i : Int) < (ps.length : Int)) = true := decide_eq_true (by omega)
          have p1 := eq_true (show (0 : Int) ≤ (i : Int) by omega)
          have q1 := eq_true (show (i : Int) < (ps.length : Int) by omega)
          have HE1 := Az.mk e1
          have HWi : Az (wrap64 ((i : Int) + 1) = ((i + 1 : Nat) : Int)) := ⟨by rw [Pure.wrap_ok (by have := HPLN.out; omega)]; omega⟩
          obtain ⟨ad, A2, c2, eA, hx_0, hx_1, hx_2, hl2, hC2⟩ := at_T29 (Kd.C_below HC1.out HB.out) (i : Int) (by omega) (by omega)
          subst eA
          simp only [Int.toNat_natCast, rd_T29] at hx_0 hx_1 hx_2 hl2 hC2
          have hpi := HPF.out _ (getD_mem (z := z29) e1)
          obtain ⟨p, hP⟩ : ∃ p, p = ps.getD i z29 := ⟨_, rfl⟩
          rw [← hP] at hx_0 hx_1 hx_2 hl2 hC2 hpi
          have HP := Az.mk hP
          have hq := spec_l2Ptr_ev HN.out p.f0 p.f1 p.f2 (by omega)
          have ec : @decide (PtrGood n p.f0 p.f1 p.f2) (Classical.propDecidable _) = decide (PtrGood n p.f0 p.f1 p.f2) := decide_eq_decide.2 Iff.rfl
          rw [ec] at hq
          obtain ⟨kp, hkp⟩ := Ev.rounds hq
          have HL2 := Az.mk hl2
          have HC2 := Az.mk hC2
          have hBI := HB.out
          obtain ⟨wi, hwi⟩ : ∃ wi, wi = wr := ⟨_, rfl⟩
          rw [← hwi] at HC2 hBI
          have HBI : Az (∀ W, Below wr.heap.size wr W → Kd.C k37 W A2 p.f2.length p.f2) := ⟨fun W hb => Kd.C_below hC2 hb⟩
          have HPK := Az.mk (fun (W : World) (hb : Below w54.heap.size w54 W) (hC : Kd.C k37 W A2 p.f2.length p.f2) => spec_l2Ptr.calls kp n p.f0 p.f1 A2 c2 p.f2 _ W hC hl2 hkp)
          have HPI := Az.mk hpi
          clear hP hl2 hq ec hkp hBI hwi hpi
          by_cases hg : PtrGood n p.f0 p.f1 p.f2
          · rw [decide_eq_true hg] at HPK
            have HGC : Az (ptrC n p = true) := ⟨decide_eq_true ⟨HN.out, hg⟩⟩
            obtain ⟨go, hgo⟩ : ∃ go, go = gk := ⟨_, rfl⟩
            subst hgo
            clear hg
            go_wp2_with (first | (go_at_call 54; refine (HPK.out _ HB.out (HBI.out _ (Below.refl _ _))).mono ?_; rintro e w66 ⟨rfl, hb⟩; have HB2 := Az.mk (HB.out.trans (hb.mono HB.out.size)); clear HB hb; have HB := HB2; clear HB2) | go_in)
            clear hx_0 hx_1 hx_2 hC2 HBI
            go_loopg [9] i (fun kq v9 wr => ∃ (j : Nat), v9 = .int .i64 (j : Int) ∧ Az (j + kq = i) ∧ Az (∀ t, t < j → pairB p (ps.getD t z29) = true) ∧ Az (Below w54.heap.size w54 wr))
            case atStart => exact ⟨0, rfl, ⟨Nat.zero_add _⟩, ⟨fun q h => by omega⟩, HB⟩
            case round =>
              obtain ⟨j, rfl, HJ, HD, HB⟩ := hrel
              by_cases e2 : j < i
              · have e2b : decide ((j : Int) < (i : Int)) = true := decide_eq_true (by omega)
                have p2 := eq_true (show (0 : Int) ≤ (j : Int) by omega)
                have q2 := eq_true (show (j : Int) < (ps.length : Int) by have := HE1.out; omega)
                have HE2 := Az.mk e2
                have HWj : Az (wrap64 ((j : Int) + 1) = ((j + 1 : Nat) : Int)) := ⟨by rw [Pure.wrap_ok (by have := HPLN.out; have := HE1.out; omega)]; omega⟩
                obtain ⟨_, A2, c2, eA, hx_0, hx_1, hx_2, hl2, hC2⟩ := at_T29 (Kd.C_below HC1.out HB.out) (i : Int) (by omega) (by have := HE1.out; omega)
                cases eA
                obtain ⟨_, B2, d2, eA, hy_0, hy_1, hy_2, hm2, hD2⟩ := at_T29 (Kd.C_below HC1.out HB.out) (j : Int) (by omega) (by have := HE1.out; omega)
                cases eA
                simp only [Int.toNat_natCast, rd_T29] at hx_0 hx_1 hx_2 hl2 hC2 hy_0 hy_1 hy_2 hm2 hD2
                rw [← HP.out] at hx_0 hx_1 hx_2 hl2 hC2
                have hpj := HPF.out _ (getD_mem (z := z29) (i := j) (l := ps) (by have := HE1.out; omega))
                obtain ⟨q, hQ⟩ : ∃ q, q = ps.getD j z29 := ⟨_, rfl⟩
                rw [← hQ] at hy_0 hy_1 hy_2 hm2 hD2 hpj
                have HQ2 := Az.mk hQ
                obtain ⟨km, hkm⟩ := Ev.rounds (meet_ev p q HPI.out hpj)
                obtain ⟨ks, hks⟩ := Ev.rounds (specSame_ev p q HPI.out)
                have HME : Az (∀ W, Below wr.heap.size wr W → Calls Try.prog 87 #[.agg #[.int .i64 p.f0, .int .i64 p.f1, .slice A2 p.f2.length c2], .agg #[.int .i64 q.f0, .int .i64 q.f1, .slice B2 q.f2.length d2]] W fun e w' => e = .returned (.bool (meetB p.f2 q.f2)) ∧ Below W.heap.size W w') := ⟨fun W hb => spec_l2Meet.calls km p.f0 p.f1 A2 c2 p.f2 q.f0 q.f1 B2 d2 q.f2 _ W (Kd.C_below hC2 hb) hl2 (Kd.C_below hD2 hb) hm2 hkm⟩
                have HSA : Az (∀ W, Below wr.heap.size wr W → Calls Try.prog 99 #[.agg #[.int .i64 p.f0, .int .i64 p.f1, .slice A2 p.f2.length c2], .agg #[.int .i64 q.f0, .int .i64 q.f1, .slice B2 q.f2.length d2]] W fun e w' => e = .returned (.bool (sameB p q)) ∧ Below W.heap.size W w') := ⟨fun W hb => spec_l2Same.calls ks p.f0 p.f1 A2 c2 p.f2 q.f0 q.f1 B2 d2 q.f2 _ W (Kd.C_below hC2 hb) hl2 (Kd.C_below hD2 hb) hm2 hks⟩
                have HB0 := Az.mk HB.out
                obtain ⟨w0, hw0⟩ : ∃ w0, w0 = wr := ⟨_, rfl⟩
                have HBZ : Az (Below w54.heap.size w54 wr) := HB
                clear HB
                have HB := Az.mk (Below.refl wr.heap.size wr)
                clear hQ hkm hks hl2 hC2 hm2 hD2 hpj hw0 HB0
                cases hme : meetB p.f2 q.f2 with
                | false =>
                  rw [hme] at HME
                  have HPB : Az (pairB p q = true) := ⟨by unfold pairB; rw [hme]; rfl⟩
                  clear hme
                  go_wp2_with fail
                  refine start_ (n := 21) (S := fun w' => (w'.cell? (ad.add (i * 3)) = some (.int .i64 p.f0) ∧ w'.cell? ⟨(ad.add (i * 3)).block, (ad.add (i * 3)).off + 1, none⟩ = some (.int .i64 p.f1) ∧ w'.cell? ⟨(ad.add (i * 3)).block, (ad.add (i * 3)).off + 2, none⟩ = some (.slice A2 p.f2.length c2)) ∧ (w'.cell? (ad.add (j * 3)) = some (.int .i64 q.f0) ∧ w'.cell? ⟨(ad.add (j * 3)).block, (ad.add (j * 3)).off + 1, none⟩ = some (.int .i64 q.f1) ∧ w'.cell? ⟨(ad.add (j * 3)).block, (ad.add (j * 3)).off + 2, none⟩ = some (.slice B2 q.f2.length d2))) (ds := []) (bm 21 0) (by kernel_rfl) rfl rfl (⟨⟨hx_0, hx_1, hx_2⟩, hy_0, hy_1, hy_2⟩) (fun hHeld => ?_)
                  have HB2 := Az.mk (HB.out.drew)
                  clear HB
                  have HB := HB2
                  clear HB2
                  generalize wr.drew = wd at HB hHeld ⊢
                  refine zP 0 (some 73) (bm 21 1) ?_
                  refine zP 1 (some 74) (bm 21 3) ?_
                  refine zP 2 (some 75) (bm 21 7) ?_
                  refine zP 4 (some 77) (bm 21 23) ?_
                  refine zP 5 (some 78) (bm 21 55) ?_
                  refine zP 6 (some 79) (bm 21 119) ?_
                  refine zU 3 (some 76) (bm 21 127) rfl hHeld (Or.inl ⟨by rfl, by rintro w' ⟨⟨s0, s1, s2⟩, s3, s4, s5⟩; go_simp; with_reducible rfl⟩) ?_
                  refine zU 7 (some 80) (bm 21 255) rfl hHeld (Or.inl ⟨by rfl, by rintro w' ⟨⟨s0, s1, s2⟩, s3, s4, s5⟩; go_simp; with_reducible rfl⟩) ?_
                  refine one_ (i := 8) (N := some 81) (bm 21 511) rfl rfl (by kernel_rfl) (by decide) (fun K hK => ?_)
                  refine goes_ Try.func87 (by kernel_rfl) rfl #[.agg #[.int .i64 p.f0, .int .i64 p.f1, .slice A2 p.f2.length c2], .agg #[.int .i64 q.f0, .int .i64 q.f1, .slice B2 q.f2.length d2]] (by rfl) rfl rfl (by (try simp only [List.map_toArray, List.map_cons, List.map_nil]); first | done | rfl) ?_
                  refine (HME.out _ HB.out).mono ?_
                  rintro e w81 ⟨rfl, hb⟩
                  refine ⟨_, rfl, ?_⟩
                  have HS2 := keepS hb hHeld
                  have HB2 := Az.mk (HB.out.trans (hb.mono HB.out.size))
                  clear HB
                  have HB := HB2
                  clear HB2
                  refine hK.out _ _ HS2 (fun hHeld => ?_)
                  clear HS2
                  clear hK K
                  refine norm_ (a' := ?_) ?_ ?_
                  rotate_left
                  · show Act.put _ (some 81) _ = _
                    simp only [Act.put, zs1, zs2, zs3, i64_w, i32_w]
                    rfl
                  refine zP 9 (some 82) (bm 21 1023) ?_
                  refine zO 10 (some 83) (bm 21 2047) ?_
                  refine zO 11 (some 84) (bm 21 4095) ?_
                  refine zO 12 (some 85) (bm 21 8191) ?_
                  refine zO 13 (some 86) (bm 21 16383) ?_
                  refine zO 14 (some 87) (bm 21 32767) ?_
                  refine zO 15 (some 88) (bm 21 65535) ?_
                  refine zO 16 (some 89) (bm 21 131071) ?_
                  refine zO 17 (some 90) (bm 21 262143) ?_
                  refine zO 18 (some 91) (bm 21 524287) ?_
                  refine zO 19 (some 92) (bm 21 1048575) ?_
                  refine zP 20 (some 93) (bm 21 2097151) ?_
                  refine done_ (by kernel_rfl) ?_
                  have HB2 := Az.mk (HBZ.out.trans (HB.out.mono HBZ.out.size))
                  clear HB
                  have HB := HB2
                  go_wp2
                  go_roundg (i - (j + 1))
                  case measure => have := HJ.out; have := HE2.out; omega
                  case rel => exact ⟨j + 1, by rw [← HWj.out], ⟨by have := HE2.out; omega⟩, ⟨fun t ht => by
                      by_cases e : t = j
                      · rw [e, ← HQ2.out]; exact HPB.out
                      · exact HD.out t (by omega)⟩, HB⟩
                | true =>
                  rw [hme] at HME
                  cases hsa : sameB p q with
                  | true =>
                    rw [hsa] at HSA
                    have HPB : Az (pairB p q = true) := ⟨by unfold pairB; rw [hsa]; simp⟩
                    clear hme hsa
                    go_wp2_with fail
                    refine start_ (n := 21) (S := fun w' => (w'.cell? (ad.add (i * 3)) = some (.int .i64 p.f0) ∧ w'.cell? ⟨(ad.add (i * 3)).block, (ad.add (i * 3)).off + 1, none⟩ = some (.int .i64 p.f1) ∧ w'.cell? ⟨(ad.add (i * 3)).block, (ad.add (i * 3)).off + 2, none⟩ = some (.slice A2 p.f2.length c2)) ∧ (w'.cell? (ad.add (j * 3)) = some (.int .i64 q.f0) ∧ w'.cell? ⟨(ad.add (j * 3)).block, (ad.add (j * 3)).off + 1, none⟩ = some (.int .i64 q.f1) ∧ w'.cell? ⟨(ad.add (j * 3)).block, (ad.add (j * 3)).off + 2, none⟩ = some (.slice B2 q.f2.length d2))) (ds := []) (bm 21 0) (by kernel_rfl) rfl rfl (⟨⟨hx_0, hx_1, hx_2⟩, hy_0, hy_1, hy_2⟩) (fun hHeld => ?_)
                    have HB2 := Az.mk (HB.out.drew)
                    clear HB
                    have HB := HB2
                    clear HB2
                    generalize wr.drew = wd at HB hHeld ⊢
                    refine zP 0 (some 73) (bm 21 1) ?_
                    refine zP 1 (some 74) (bm 21 3) ?_
                    refine zP 2 (some 75) (bm 21 7) ?_
                    refine zP 4 (some 77) (bm 21 23) ?_
                    refine zP 5 (some 78) (bm 21 55) ?_
                    refine zP 6 (some 79) (bm 21 119) ?_
                    refine zU 3 (some 76) (bm 21 127) rfl hHeld (Or.inl ⟨by rfl, by rintro w' ⟨⟨s0, s1, s2⟩, s3, s4, s5⟩; go_simp; with_reducible rfl⟩) ?_
                    refine zU 7 (some 80) (bm 21 255) rfl hHeld (Or.inl ⟨by rfl, by rintro w' ⟨⟨s0, s1, s2⟩, s3, s4, s5⟩; go_simp; with_reducible rfl⟩) ?_
                    refine one_ (i := 8) (N := some 81) (bm 21 511) rfl rfl (by kernel_rfl) (by decide) (fun K hK => ?_)
                    refine goes_ Try.func87 (by kernel_rfl) rfl #[.agg #[.int .i64 p.f0, .int .i64 p.f1, .slice A2 p.f2.length c2], .agg #[.int .i64 q.f0, .int .i64 q.f1, .slice B2 q.f2.length d2]] (by rfl) rfl rfl (by (try simp only [List.map_toArray, List.map_cons, List.map_nil]); first | done | rfl) ?_
                    refine (HME.out _ HB.out).mono ?_
                    rintro e w81 ⟨rfl, hb⟩
                    refine ⟨_, rfl, ?_⟩
                    have HS2 := keepS hb hHeld
                    have HB2 := Az.mk (HB.out.trans (hb.mono HB.out.size))
                    clear HB
                    have HB := HB2
                    clear HB2
                    refine hK.out _ _ HS2 (fun hHeld => ?_)
                    clear HS2
                    clear hK K
                    refine norm_ (a' := ?_) ?_ ?_
                    rotate_left
                    · show Act.put _ (some 81) _ = _
                      simp only [Act.put, zs1, zs2, zs3, i64_w, i32_w]
                      rfl
                    refine zP 9 (some 82) (bm 21 1023) ?_
                    refine zP 10 (some 83) (bm 21 2047) ?_
                    refine zP 11 (some 84) (bm 21 4095) ?_
                    refine zP 12 (some 85) (bm 21 8191) ?_
                    refine zP 14 (some 87) (bm 21 24575) ?_
                    refine zP 15 (some 88) (bm 21 57343) ?_
                    refine zP 16 (some 89) (bm 21 122879) ?_
                    refine zU 13 (some 86) (bm 21 131071) rfl hHeld (Or.inl ⟨by rfl, by rintro w' ⟨⟨s0, s1, s2⟩, s3, s4, s5⟩; go_simp; with_reducible rfl⟩) ?_
                    refine zU 17 (some 90) (bm 21 262143) rfl hHeld (Or.inl ⟨by rfl, by rintro w' ⟨⟨s0, s1, s2⟩, s3, s4, s5⟩; go_simp; with_reducible rfl⟩) ?_
                    refine one_ (i := 18) (N := some 91) (bm 21 524287) rfl rfl (by kernel_rfl) (by decide) (fun K hK => ?_)
                    refine goes_ Try.func99 (by kernel_rfl) rfl #[.agg #[.int .i64 p.f0, .int .i64 p.f1, .slice A2 p.f2.length c2], .agg #[.int .i64 q.f0, .int .i64 q.f1, .slice B2 q.f2.length d2]] (by rfl) rfl rfl (by (try simp only [List.map_toArray, List.map_cons, List.map_nil]); first | done | rfl) ?_
                    refine (HSA.out _ HB.out).mono ?_
                    rintro e w91 ⟨rfl, hb⟩
                    refine ⟨_, rfl, ?_⟩
                    have HS2 := keepS hb hHeld
                    have HB2 := Az.mk (HB.out.trans (hb.mono HB.out.size))
                    clear HB
                    have HB := HB2
                    clear HB2
                    refine hK.out _ _ HS2 (fun hHeld => ?_)
                    clear HS2
                    clear hK K
                    refine norm_ (a' := ?_) ?_ ?_
                    rotate_left
                    · show Act.put _ (some 91) _ = _
                      simp only [Act.put, zs1, zs2, zs3, i64_w, i32_w]
                      rfl
                    refine zP 19 (some 92) (bm 21 1048575) ?_
                    refine zP 20 (some 93) (bm 21 2097151) ?_
                    refine done_ (by kernel_rfl) ?_
                    have HB2 := Az.mk (HBZ.out.trans (HB.out.mono HBZ.out.size))
                    clear HB
                    have HB := HB2
                    go_wp2
                    go_roundg (i - (j + 1))
                    case measure => have := HJ.out; have := HE2.out; omega
                    case rel => exact ⟨j + 1, by rw [← HWj.out], ⟨by have := HE2.out; omega⟩, ⟨fun t ht => by
                        by_cases e : t = j
                        · rw [e, ← HQ2.out]; exact HPB.out
                        · exact HD.out t (by omega)⟩, HB⟩
                  | false =>
                    rw [hsa] at HSA
                    have HNO : Az (ptrsB n ps = false) := ⟨ptrsB_no HE1.out (by
                      unfold ptrAt
                      rw [← HP.out, Bool.and_eq_false_iff, decide_eq_false_iff_not]
                      right
                      intro h
                      have := h j HE2.out
                      rw [← HQ2.out] at this
                      unfold pairB at this
                      rw [hme, hsa] at this
                      cases this)⟩
                    clear hme hsa
                    go_wp2_with fail
                    refine start_ (n := 21) (S := fun w' => (w'.cell? (ad.add (i * 3)) = some (.int .i64 p.f0) ∧ w'.cell? ⟨(ad.add (i * 3)).block, (ad.add (i * 3)).off + 1, none⟩ = some (.int .i64 p.f1) ∧ w'.cell? ⟨(ad.add (i * 3)).block, (ad.add (i * 3)).off + 2, none⟩ = some (.slice A2 p.f2.length c2)) ∧ (w'.cell? (ad.add (j * 3)) = some (.int .i64 q.f0) ∧ w'.cell? ⟨(ad.add (j * 3)).block, (ad.add (j * 3)).off + 1, none⟩ = some (.int .i64 q.f1) ∧ w'.cell? ⟨(ad.add (j * 3)).block, (ad.add (j * 3)).off + 2, none⟩ = some (.slice B2 q.f2.length d2))) (ds := []) (bm 21 0) (by kernel_rfl) rfl rfl (⟨⟨hx_0, hx_1, hx_2⟩, hy_0, hy_1, hy_2⟩) (fun hHeld => ?_)
                    have HB2 := Az.mk (HB.out.drew)
                    clear HB
                    have HB := HB2
                    clear HB2
                    generalize wr.drew = wd at HB hHeld ⊢
                    refine zP 0 (some 73) (bm 21 1) ?_
                    refine zP 1 (some 74) (bm 21 3) ?_
                    refine zP 2 (some 75) (bm 21 7) ?_
                    refine zP 4 (some 77) (bm 21 23) ?_
                    refine zP 5 (some 78) (bm 21 55) ?_
                    refine zP 6 (some 79) (bm 21 119) ?_
                    refine zU 3 (some 76) (bm 21 127) rfl hHeld (Or.inl ⟨by rfl, by rintro w' ⟨⟨s0, s1, s2⟩, s3, s4, s5⟩; go_simp; with_reducible rfl⟩) ?_
                    refine zU 7 (some 80) (bm 21 255) rfl hHeld (Or.inl ⟨by rfl, by rintro w' ⟨⟨s0, s1, s2⟩, s3, s4, s5⟩; go_simp; with_reducible rfl⟩) ?_
                    refine one_ (i := 8) (N := some 81) (bm 21 511) rfl rfl (by kernel_rfl) (by decide) (fun K hK => ?_)
                    refine goes_ Try.func87 (by kernel_rfl) rfl #[.agg #[.int .i64 p.f0, .int .i64 p.f1, .slice A2 p.f2.length c2], .agg #[.int .i64 q.f0, .int .i64 q.f1, .slice B2 q.f2.length d2]] (by rfl) rfl rfl (by (try simp only [List.map_toArray, List.map_cons, List.map_nil]); first | done | rfl) ?_
                    refine (HME.out _ HB.out).mono ?_
                    rintro e w81 ⟨rfl, hb⟩
                    refine ⟨_, rfl, ?_⟩
                    have HS2 := keepS hb hHeld
                    have HB2 := Az.mk (HB.out.trans (hb.mono HB.out.size))
                    clear HB
                    have HB := HB2
                    clear HB2
                    refine hK.out _ _ HS2 (fun hHeld => ?_)
                    clear HS2
                    clear hK K
                    refine norm_ (a' := ?_) ?_ ?_
                    rotate_left
                    · show Act.put _ (some 81) _ = _
                      simp only [Act.put, zs1, zs2, zs3, i64_w, i32_w]
                      rfl
                    refine zP 9 (some 82) (bm 21 1023) ?_
                    refine zP 10 (some 83) (bm 21 2047) ?_
                    refine zP 11 (some 84) (bm 21 4095) ?_
                    refine zP 12 (some 85) (bm 21 8191) ?_
                    refine zP 14 (some 87) (bm 21 24575) ?_
                    refine zP 15 (some 88) (bm 21 57343) ?_
                    refine zP 16 (some 89) (bm 21 122879) ?_
                    refine zU 13 (some 86) (bm 21 131071) rfl hHeld (Or.inl ⟨by rfl, by rintro w' ⟨⟨s0, s1, s2⟩, s3, s4, s5⟩; go_simp; with_reducible rfl⟩) ?_
                    refine zU 17 (some 90) (bm 21 262143) rfl hHeld (Or.inl ⟨by rfl, by rintro w' ⟨⟨s0, s1, s2⟩, s3, s4, s5⟩; go_simp; with_reducible rfl⟩) ?_
                    refine one_ (i := 18) (N := some 91) (bm 21 524287) rfl rfl (by kernel_rfl) (by decide) (fun K hK => ?_)
                    refine goes_ Try.func99 (by kernel_rfl) rfl #[.agg #[.int .i64 p.f0, .int .i64 p.f1, .slice A2 p.f2.length c2], .agg #[.int .i64 q.f0, .int .i64 q.f1, .slice B2 q.f2.length d2]] (by rfl) rfl rfl (by (try simp only [List.map_toArray, List.map_cons, List.map_nil]); first | done | rfl) ?_
                    refine (HSA.out _ HB.out).mono ?_
                    rintro e w91 ⟨rfl, hb⟩
                    refine ⟨_, rfl, ?_⟩
                    have HS2 := keepS hb hHeld
                    have HB2 := Az.mk (HB.out.trans (hb.mono HB.out.size))
                    clear HB
                    have HB := HB2
                    clear HB2
                    refine hK.out _ _ HS2 (fun hHeld => ?_)
                    clear HS2
                    clear hK K
                    refine norm_ (a' := ?_) ?_ ?_
                    rotate_left
                    · show Act.put _ (some 91) _ = _
                      simp only [Act.put, zs1, zs2, zs3, i64_w, i32_w]
                      rfl
                    refine zP 19 (some 92) (bm 21 1048575) ?_
                    refine zP 20 (some 93) (bm 21 2097151) ?_
                    refine done_ (by kernel_rfl) ?_
                    have HB2 := Az.mk (HBZ.out.trans (HB.out.mono HBZ.out.size))
                    clear HB
                    have HB := HB2
                    go_wp2
                    go_ret
                    exact ⟨by rw [← HPS.out, HRES.out, HNO.out]; rfl, HBW.out.trans (HB.out.mono HBW.out.size)⟩
              · have e2b : decide ((j : Int) < (i : Int)) = false := decide_eq_false (by omega)
                have hj : j = i := by have := HJ.out; omega
                have HOK : Az (ptrAt n ps i = true) := ⟨by
                  unfold ptrAt
                  rw [← HP.out, HGC.out, Bool.true_and, decide_eq_true_iff]
                  exact fun q hq => HD.out q (by omega)⟩
                clear hj
                go_wp2
                go_roundg (ps.length - (i + 1))
                case measure => have := HI.out; have := HE1.out; omega
                case rel => exact ⟨i + 1, by rw [← HWi.out], ⟨by have := HE1.out; omega⟩, ⟨fun t ht => by
                    by_cases e : t = i
                    · rw [e]; exact HOK.out
                    · exact HQ.out t (by omega)⟩, HB⟩
          · rw [decide_eq_false hg] at HPK
            have HNO : Az (ptrsB n ps = false) := ⟨ptrsB_no HE1.out (by
              unfold ptrAt ptrC
              rw [← HP.out, decide_eq_false (fun h => hg h.2), Bool.false_and])⟩
            clear hg
            go_wp2_with (first | (go_at_call 54; refine (HPK.out _ HB.out (HBI.out _ (Below.refl _ _))).mono ?_; rintro e w66 ⟨rfl, hb⟩; have HB2 := Az.mk (HB.out.trans (hb.mono HB.out.size)); clear HB hb; have HB := HB2; clear HB2) | go_in)
            go_ret
            exact ⟨by rw [← HPS.out, HRES.out, HNO.out]; rfl, HBW.out.trans (HB.out.mono HBW.out.size)⟩
        · have e1b : decide ((i : Int) < (ps.length : Int)) = false := decide_eq_false (by omega)
          have hi : i = ps.length := by have := HI.out; omega
          have HOK : Az (ptrsB n ps = true) := ⟨decide_eq_true fun t ht _ => HQ.out t (by omega)⟩
          clear hi
          go_wp2
          go_ret
          exact ⟨by rw [← HPS.out, HRES.out, HOK.out]; rfl, HBW.out.trans (HB.out.mono HBW.out.size)⟩
end Go.Proofs.Ytkoimmeghdbodaa.Print
namespace Go.Proofs.Ytkoimmeghdbodaa.Print
open Go.RowKit Go.Lib Go.Maps Go.WideMaps Go.Proofs.YtkoimmeghdbodaaW.PrintWords Go.Proofs.YtkoimmeghdbodaaW.PrintLast Go.Proofs.YtkoimmeghdbodaaW.PrintMore Go.Proofs.Ytkoimmeghdbodaa.Pure
set_option maxHeartbeats 8000000 in
set_option maxRecDepth 100000 in
theorem sRoot_call (n tx : Int) (A0 : Option Addr) (c0 : Nat) (l0 : List S65) (w : World) (hr0 : Kd.C k65 w A0 l0.length l0) (hc0 : l0.length ≤ c0) (hF : FitM l0) :
    Calls Try.prog 36 #[.int .i64 n, .agg #[.int .i64 tx, .slice A0 l0.length c0]] w fun e w' => e = .returned (.bool (rootB n tx l0)) ∧ Below w.heap.size w w' := by
  have hu57 := Try.underlying57
  have HB := Az.mk (Below.refl w.heap.size w)
  rw [rootB_eq]
  have H53 := Az.mk (fun W => spec_l2Disks.calls n (decide (3 ≤ n ∧ n ≤ 4)) W (by unfold spec_l2Disks.f; rw [l6In_eq]; rfl))
  have H75 := Az.mk (fun W => spec_l6In.calls tx 0 100000 (decide (0 ≤ tx ∧ tx ≤ 100000)) W (l6In_eq _ _ _))
  have hsp : specB n tx l0 = (decide (3 ≤ n ∧ n ≤ 4) && (decide (0 ≤ tx ∧ tx ≤ 100000) && (decide (l0.length ≤ 4) && (namesB l0 && ptrsB n (ptrs l0))))) := rfl
  generalize specB n tx l0 = res at hsp ⊢
  by_cases c1 : 3 ≤ n ∧ n ≤ 4
  · rw [decide_eq_true c1] at H53 hsp
    by_cases c2 : 0 ≤ tx ∧ tx ≤ 100000
    · rw [decide_eq_true c2] at H75 hsp
      by_cases c3 : l0.length ≤ 4
      · rw [decide_eq_true c3] at hsp
        have H76 := Az.mk (fun (W : World) (hb : Below w.heap.size w W) => sVols_call n tx c1 A0 c0 l0 W (Kd.C_below hr0 hb) hc0 hF c3)
        have d3 : decide ((l0.length : Int) ≤ 4) = true := decide_eq_true (by omega)
        have HE : Az (res = (namesB l0 && ptrsB n (ptrs l0))) := ⟨by rw [hsp]; rfl⟩
        clear hr0 hc0 hF c1 c2 hsp
        go_enter Try.func36, Try.ntmps36
        go_wp2_with (first | ((with_reducible refine zqg (N := 3) rfl ?_); refine zqb ?hg (N := 3) ?hd (cs := #[.int .i64 tx, .slice A0 l0.length c0]) (t := 57) ?hr ?_; (case hd => rfl); (case hg => rfl); (case hr => first | (go_simp; done) | (go_simp; rfl)); intro gb hg w5 hbox hb; have n0_ := Az.mk (below_step zB hb); have BR := Az.mk (show Blk w5 gb #[.int .i64 tx, .slice A0 l0.length c0] 57 from hbox); clear HB; have HB := n0_; clear n0_ hbox hb hg; have hcz_0 := (BR.out.cell 0).trans rfl; have hcz_1 := (BR.out.cell 1).trans rfl) | (go_at_call 53; refine (H53.out _).mono ?_; rintro e w6 ⟨rfl, hd⟩; have hb := hd.below; have BR2 := Az.mk (BR.out.below hb); have HB2 := Az.mk (HB.out.trans (hb.mono HB.out.size)); clear BR HB hcz_0 hcz_1; have BR := BR2; have HB := HB2; clear BR2 HB2; have hcz_0 := (BR.out.cell 0).trans rfl; have hcz_1 := (BR.out.cell 1).trans rfl; clear hb hd) | (go_at_call 75; refine (H75.out _).mono ?_; rintro e w10 ⟨rfl, hd⟩; have hb := hd.below; have BR2 := Az.mk (BR.out.below hb); have HB2 := Az.mk (HB.out.trans (hb.mono HB.out.size)); clear BR HB hcz_0 hcz_1; have BR := BR2; have HB := HB2; clear BR2 HB2; have hcz_0 := (BR.out.cell 0).trans rfl; have hcz_1 := (BR.out.cell 1).trans rfl; clear hb hd) | (go_at_call 76; refine (H76.out _ HB.out).mono ?_; rintro e w21 ⟨rfl, hb⟩; have BR2 := Az.mk (BR.out.below hb); have HB2 := Az.mk (HB.out.trans (hb.mono HB.out.size)); clear BR HB hcz_0 hcz_1; have BR := BR2; have HB := HB2; clear BR2 HB2; have hcz_0 := (BR.out.cell 0).trans rfl; have hcz_1 := (BR.out.cell 1).trans rfl; clear hb) | go_in)
        go_ret
        exact ⟨by rw [HE.out]; rfl, HB.out⟩
      · rw [decide_eq_false c3] at hsp
        have d3 : decide ((l0.length : Int) ≤ 4) = false := decide_eq_false (by omega)
        have HE : Az (res = false) := ⟨by rw [hsp]; rfl⟩
        clear hr0 hc0 hF c1 c2 hsp
        go_enter Try.func36, Try.ntmps36
        go_wp2_with (first | ((with_reducible refine zqg (N := 3) rfl ?_); refine zqb ?hg (N := 3) ?hd (cs := #[.int .i64 tx, .slice A0 l0.length c0]) (t := 57) ?hr ?_; (case hd => rfl); (case hg => rfl); (case hr => first | (go_simp; done) | (go_simp; rfl)); intro gb hg w5 hbox hb; have n0_ := Az.mk (below_step zB hb); have BR := Az.mk (show Blk w5 gb #[.int .i64 tx, .slice A0 l0.length c0] 57 from hbox); clear HB; have HB := n0_; clear n0_ hbox hb hg; have hcz_0 := (BR.out.cell 0).trans rfl; have hcz_1 := (BR.out.cell 1).trans rfl) | (go_at_call 53; refine (H53.out _).mono ?_; rintro e w6 ⟨rfl, hd⟩; have hb := hd.below; have BR2 := Az.mk (BR.out.below hb); have HB2 := Az.mk (HB.out.trans (hb.mono HB.out.size)); clear BR HB hcz_0 hcz_1; have BR := BR2; have HB := HB2; clear BR2 HB2; have hcz_0 := (BR.out.cell 0).trans rfl; have hcz_1 := (BR.out.cell 1).trans rfl; clear hb hd) | (go_at_call 75; refine (H75.out _).mono ?_; rintro e w10 ⟨rfl, hd⟩; have hb := hd.below; have BR2 := Az.mk (BR.out.below hb); have HB2 := Az.mk (HB.out.trans (hb.mono HB.out.size)); clear BR HB hcz_0 hcz_1; have BR := BR2; have HB := HB2; clear BR2 HB2; have hcz_0 := (BR.out.cell 0).trans rfl; have hcz_1 := (BR.out.cell 1).trans rfl; clear hb hd) | go_in)
        go_ret
        exact ⟨by rw [HE.out]; rfl, HB.out⟩
    · rw [decide_eq_false c2] at H75 hsp
      have HE : Az (res = false) := ⟨by rw [hsp]; rfl⟩
      clear hr0 hc0 hF c1 c2 hsp
      go_enter Try.func36, Try.ntmps36
      go_wp2_with (first | ((with_reducible refine zqg (N := 3) rfl ?_); refine zqb ?hg (N := 3) ?hd (cs := #[.int .i64 tx, .slice A0 l0.length c0]) (t := 57) ?hr ?_; (case hd => rfl); (case hg => rfl); (case hr => first | (go_simp; done) | (go_simp; rfl)); intro gb hg w5 hbox hb; have n0_ := Az.mk (below_step zB hb); have BR := Az.mk (show Blk w5 gb #[.int .i64 tx, .slice A0 l0.length c0] 57 from hbox); clear HB; have HB := n0_; clear n0_ hbox hb hg; have hcz_0 := (BR.out.cell 0).trans rfl; have hcz_1 := (BR.out.cell 1).trans rfl) | (go_at_call 53; refine (H53.out _).mono ?_; rintro e w6 ⟨rfl, hd⟩; have hb := hd.below; have BR2 := Az.mk (BR.out.below hb); have HB2 := Az.mk (HB.out.trans (hb.mono HB.out.size)); clear BR HB hcz_0 hcz_1; have BR := BR2; have HB := HB2; clear BR2 HB2; have hcz_0 := (BR.out.cell 0).trans rfl; have hcz_1 := (BR.out.cell 1).trans rfl; clear hb hd) | (go_at_call 75; refine (H75.out _).mono ?_; rintro e w10 ⟨rfl, hd⟩; have hb := hd.below; have BR2 := Az.mk (BR.out.below hb); have HB2 := Az.mk (HB.out.trans (hb.mono HB.out.size)); clear BR HB hcz_0 hcz_1; have BR := BR2; have HB := HB2; clear BR2 HB2; have hcz_0 := (BR.out.cell 0).trans rfl; have hcz_1 := (BR.out.cell 1).trans rfl; clear hb hd) | go_in)
      go_ret
      exact ⟨by rw [HE.out]; rfl, HB.out⟩
  · rw [decide_eq_false c1] at H53 hsp
    have HE : Az (res = false) := ⟨by rw [hsp]; rfl⟩
    clear hr0 hc0 hF c1 hsp
    go_enter Try.func36, Try.ntmps36
    go_wp2_with (first | ((with_reducible refine zqg (N := 3) rfl ?_); refine zqb ?hg (N := 3) ?hd (cs := #[.int .i64 tx, .slice A0 l0.length c0]) (t := 57) ?hr ?_; (case hd => rfl); (case hg => rfl); (case hr => first | (go_simp; done) | (go_simp; rfl)); intro gb hg w5 hbox hb; have n0_ := Az.mk (below_step zB hb); have BR := Az.mk (show Blk w5 gb #[.int .i64 tx, .slice A0 l0.length c0] 57 from hbox); clear HB; have HB := n0_; clear n0_ hbox hb hg; have hcz_0 := (BR.out.cell 0).trans rfl; have hcz_1 := (BR.out.cell 1).trans rfl) | (go_at_call 53; refine (H53.out _).mono ?_; rintro e w6 ⟨rfl, hd⟩; have hb := hd.below; have BR2 := Az.mk (BR.out.below hb); have HB2 := Az.mk (HB.out.trans (hb.mono HB.out.size)); clear BR HB hcz_0 hcz_1; have BR := BR2; have HB := HB2; clear BR2 HB2; have hcz_0 := (BR.out.cell 0).trans rfl; have hcz_1 := (BR.out.cell 1).trans rfl; clear hb hd) | go_in)
    go_ret
    exact ⟨by rw [HE.out]; rfl, HB.out⟩
end Go.Proofs.Ytkoimmeghdbodaa.Print
namespace Go.Proofs.Ytkoimmeghdbodaa.Hq
open Go.RowKit Go.Proofs.Ytkoimmeghdbodaa.Print Go.Proofs.YtkoimmeghdbodaaW.PrintWords Go.Proofs.YtkoimmeghdbodaaW.PrintLast Go.Proofs.YtkoimmeghdbodaaW.PrintMore Go.Proofs.Ytkoimmeghdbodaa.Pure Go.Proofs.Ytkoimmeghdbodaa.Hd
theorem M_apart {w : World} {b : Nat} {ok ok' : Nat → Prop} {y : S29} {cs : List Value} {u : Value} {l : List S29} (h : q29.M w b ok y cs) (hu : q29.R 29 w b ok' u l) : q29.M w b (fun k => ok k ∧ some k ≠ u.ownBlock) y cs := by
  cases hv : u.ownBlock with
  | none => exact q29.M_mono (fun k hk => ⟨hk, by simp⟩) h
  | some g =>
    obtain ⟨c, hc⟩ := Kd.R_typed hu g hv
    refine q29.M_mono (fun k hk => ⟨hk.1, fun e => hk.2 (Option.some.inj e)⟩) (Kd.M_types h hc (fun q hq => ?_))
    have : q ∈ [37] := hq
    have : q = 37 := by simpa using this
    subst this
    decide
theorem own_new {w W : World} (hb : Below w.heap.size w W) {v : Value} (h : ∃ b, v.ownBlock = some b ∧ W.heap.size ≤ b) : ∀ k, v.ownBlock = some k → w.heap.size ≤ k := fun k hk => by
  obtain ⟨b, h1, h2⟩ := h
  rw [h1] at hk
  cases hk
  exact Nat.le_trans hb.size h2
theorem own_at {w W : World} {u v : Value} (hu : ∀ k, u.ownBlock = some k → w.heap.size ≤ k) (hb : Below w.heap.size w W) (h : v.ownBlock = u.ownBlock ∨ ∃ b, v.ownBlock = some b ∧ W.heap.size ≤ b) : ∀ k, v.ownBlock = some k → w.heap.size ≤ k := by
  rcases h with h | h
  · intro k hk
    exact hu k (by rw [← h]; exact hk)
  · exact own_new hb h
theorem blk_grown {w w' : World} {g : Nat} {cs : Array Value} {t : TypeId} {row : Option Nat} (h : Blk w g cs t) (hg : w.grownBy w' row) (hr : some g ≠ row) : Blk w' g cs t := by
  show w'.heap[g]? = _
  exact (hg.block g (blk_lt h) hr).trans h
theorem R_ne57 {w : World} {g b : Nat} {cs : Array Value} {ok : Nat → Prop} {u : Value} {l : List S29} (h : Blk w g cs 57) (hu : q29.R 29 w b ok u l) : u.ownBlock ≠ some g := fun e => by
  obtain ⟨c, hc⟩ := Kd.R_typed hu g e
  have h' : w.heap[g]? = _ := h
  rw [hc] at h'
  injection h' with h1
  injection h1 with _ h1
  exact absurd h1 (by decide)
theorem vol_at {w : World} {b : Nat} {S : Nat → Prop} {A : Option Addr} {c : Nat} {D : List S65} (hO : r65.R 65 w b S (.slice A D.length c) D) {i : Nat} (hi : i < D.length) :
    ∃ g A1 c1, A = some ⟨g, 0, none⟩ ∧ w.cell? ⟨g, i * 2, none⟩ = some (.string (D.getD i z65).f0) ∧ w.cell? ⟨g, i * 2 + 1, none⟩ = some (.slice A1 (D.getD i z65).f1.length c1) ∧ (D.getD i z65).f1.length ≤ c1 ∧
      ReadsRow (q29.M w b (fun k => S k ∧ k ≠ g)) 3 w A1 (D.getD i z65).f1.length (D.getD i z65).f1 := by
  obtain ⟨g, cap, e, _⟩ := Kd.R_form hO (by omega)
  injection e with e1 _ e2
  subst e1 e2
  obtain ⟨cs, hcl, hM, hcc, _⟩ := Kd.R_elem hO z65 (i : Int) (by omega) (by omega)
  rw [Int.toNat_natCast] at hM hcc
  obtain ⟨v1, rfl, hR⟩ := r65_openM hM
  obtain ⟨A1, c1, rfl, hl, hrr⟩ := OwnRow.reads hR.2
  refine ⟨g, A1, c1, rfl, hcc 0 _ rfl, hcc 1 _ rfl, hl, ?_⟩
  exact hrr.imp_ (Below.refl _ _) (fun _ _ hp => q29.M_mono (fun k hk => hk.1) hp)
set_option maxHeartbeats 4000000 in
set_option maxRecDepth 100000 in
theorem l2All_callr {w : World} {b : Nat} {S : Nat → Prop} {tx : Int} {A : Option Addr} {c : Nat} {D : List S65} (hO : r65.R 65 w b S (.slice A D.length c) D) (hb : b ≤ w.heap.size) (hl : D.length ≤ 10) (hD : GV D) :
    Calls Try.prog 86 #[.agg #[.int .i64 tx, .slice A D.length c]] w fun e w' => ∃ v, e = .returned v ∧ q29.R 29 w' b (fun k => S k ∨ w.heap.size ≤ k) v (ptrs D) ∧ Below w.heap.size w w' := by
  have hu29 := Try.underlying29
  have hu57 := Try.underlying57
  have hu65 := Try.underlying65
  have HB := Az.mk (Below.refl w.heap.size w)
  have HBS := Az.mk hb
  have HR0 := Az.mk hO
  have HL := Az.mk hl
  have HD := Az.mk hD
  clear hO hb hl hD
  go_enter Try.func86, Try.ntmps86
  go_wp2_with (first | ((with_reducible refine zqg (N := 1) rfl ?_); refine zqb ?hg (N := 1) ?hd (cs := #[.int .i64 tx, .slice A D.length c]) (t := 57) ?hr ?_; (case hd => rfl); (case hg => rfl); (case hr => first | (go_simp; done) | (go_simp; rfl)); intro gb hg w5 hbox hb; have n0_ := Az.mk (below_step zB hb); have BR := Az.mk (show Blk w5 gb #[.int .i64 tx, .slice A D.length c] 57 from hbox); clear HB; have HB := n0_; clear n0_ hbox hb hg) | ((with_reducible refine zqg (N := 5) rfl ?_); refine Kd.R_lit q29 (w0 := w) b 29 ?hg (N := 5) ?hd (xs := ([] : List S29)) (inner := []) (ok := fun k => S k ∨ w.heap.size ≤ k) (okp := fun k => S k ∨ w.heap.size ≤ k) ?hr ?hp (fun _ hk => hk) (.inr HB.out.size) (HB.out.mono HBS.out) (Nat.le_trans HBS.out HB.out.size) (by simp) ?_; (case hd => rfl); (case hg => rfl); (case hr => first | (go_simp; done) | (go_simp; rfl)); (case hp => exact (Reps.none _ _)); intro v17 w26 ho27 hb hg_ hnew_; have R17 := Az.mk ho27; have HO17 := Az.mk (own_new HB.out hnew_); have HB2 := Az.mk (HB.out.grown hg_ HB.out.size (fun k hk => by cases hk)); have BR2 := Az.mk (blk_grown BR.out hg_ (by simp)); clear HB BR ho27 hb hg_ hnew_; have HB := HB2; have BR := BR2; clear HB2 BR2) | go_in)
  go_loopg [3, 4] D.length (fun kq v3 v4 wr => ∃ (i : Nat), v4 = .int .i64 (i : Int) ∧ Az (i + kq = D.length) ∧ Az (q29.R 29 wr b (fun k => S k ∨ w.heap.size ≤ k) v3 (ptrs (D.take i))) ∧ Az (∀ k, v3.ownBlock = some k → w.heap.size ≤ k) ∧ Az (Blk wr gb #[.int .i64 tx, .slice A D.length c] 57) ∧ Az (Below w.heap.size w wr))
  case atStart => exact ⟨0, rfl, ⟨Nat.zero_add _⟩, R17, HO17, BR, HB⟩
  case round =>
    clear R17 HO17 BR HB
    obtain ⟨i, rfl, HI, HR, HO, BR, HB⟩ := hrel
    have hcz_0 := (BR.out.cell 0).trans rfl
    have hcz_1 := (BR.out.cell 1).trans rfl
    by_cases e1 : i < D.length
    · have e1b : decide ((i : Int) < (D.length : Int)) = true := decide_eq_true (by omega)
      have p1 := eq_true (show (0 : Int) ≤ (i : Int) by omega)
      have q1 := eq_true (show (i : Int) < (D.length : Int) by omega)
      obtain ⟨g, A1, c1, eA, hx_0, hx_1, hl1, hrd⟩ := vol_at (Kd.R_below HR0.out HB.out) e1
      subst eA
      have hpt := ptrs_take_len (vs := D) (fun x hx => (HD.out x hx).1) i (by omega)
      have htk := take65 D i e1
      have hx3 := (HD.out _ (getD_mem (z := z65) e1)).1
      obtain ⟨x, hX⟩ : ∃ x, x = D.getD i z65 := ⟨_, rfl⟩
      rw [← hX] at hx_0 hx_1 hl1 hrd htk hx3
      have HRD := Az.mk hrd
      have HLN : Az ((ptrs (D.take i)).length + x.f1.length ≤ 100) := ⟨by have := HL.out; omega⟩
      have HTK : Az (ptrs (D.take (i + 1)) = ptrs (D.take i) ++ x.f1) := ⟨by rw [htk]; simp [ptrs]⟩
      have HWi : Az (wrap64 ((i : Int) + 1) = ((i + 1 : Nat) : Int)) := ⟨by rw [Pure.wrap_ok (by have := HL.out; omega)]; omega⟩
      have HE1 := Az.mk e1
      clear hX hl1 hrd hpt htk hx3 e1
      go_wp2_with (first | ((with_reducible refine zqg (N := 20) rfl ?_); refine Kd.R_append_rows q29 (Rr := q29.M wr b (fun k => S k ∧ k ≠ g)) (w0 := w) b rfl (.tmp 13) (.tmp 19) 63 29 (.agg #[.int .i64 0, .int .i64 0, .slice none 0 0]) 40 rfl Try.underlying63 info29 rfl (by decide) (by omega) u3 (ptrs (D.take i)) x.f1 A1 x.f1.length c1 (fun k => S k ∨ w.heap.size ≤ k) (fun k => (S k ∧ k ≠ g) ∧ some k ≠ u3.ownBlock) rfl rfl HR.out HRD.out (fun x cs h => M_apart h HR.out) (fun k hk => ⟨.inl hk.1.1, hk.2⟩) (fun k hk => .inr (Nat.le_trans HB.out.size hk)) (HB.out.mono HBS.out) (Nat.le_trans HBS.out HB.out.size) (by have := HLN.out; omega) ?_; intro v1 w1 hR1 hB1 hg1 hat1; have R1 := Az.mk hR1; have HO1 := Az.mk (own_at HO.out HB.out hat1); have BR1 := Az.mk (blk_grown BR.out hg1 (fun e => R_ne57 BR.out HR.out e.symm)); have B1w := Az.mk (HB.out.grown hg1 HB.out.size (fun k hk => HO.out k hk)); clear hR1 hB1 hg1 hat1) | go_in)
      go_roundg (D.length - (i + 1))
      case measure => have := HI.out; have := HE1.out; omega
      case rel => exact ⟨i + 1, by rw [← HWi.out], ⟨by have := HE1.out; omega⟩, ⟨by rw [HTK.out]; exact R1.out⟩, HO1, BR1, B1w⟩
    · have e1b : decide ((i : Int) < (D.length : Int)) = false := decide_eq_false (by omega)
      have hi : i = D.length := by have := HI.out; omega
      subst hi
      clear e1
      go_wp2
      go_ret
      exact ⟨_, rfl, by have h := HR.out; rw [List.take_length] at h; exact h, HB.out⟩
end Go.Proofs.Ytkoimmeghdbodaa.Hq
