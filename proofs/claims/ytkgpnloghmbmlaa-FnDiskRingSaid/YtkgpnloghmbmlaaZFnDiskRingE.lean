/- Proved, with what follows on it: the row of the law FnDiskRing. Conditions: the row's alone. Texts of this session and words that the kit's print laid for this seat, merged and cut by shrink.py, a program of this session. -/
import Derived.Test.YtkgpnloghmbmlaaZFnDiskRingD
namespace Go.Proofs.Ytkgpnloghmbmlaa.Print
open Go.RowKit Go.Proofs.YtkgpnloghmbmlaaW.PrintWords Go.Proofs.YtkgpnloghmbmlaaW.PrintLast Go.Proofs.YtkgpnloghmbmlaaW.PrintMore
attribute [local go_sem] max2_int min2_int max_two min_two max_three min_three max_four min_four   -- for this text's walks alone
set_option linter.unusedVariables false
set_option linter.unusedSimpArgs false
attribute [local go_sem high] eqA54
mutual
def laws_lpaDisk.j0 : Nat → Bool → Int → List ByteArray → List ByteArray → List Bool → List (S54) → Int → List ByteArray → List ByteArray → List Bool → List (S54) → Option (Bool)
 | 0, _, _, _, _, _, _, _, _, _, _, _ => none
 | k + 1, x45, x429000, x429001, x429002, x429003, x429004, x430000, x430001, x430002, x430003, x430004 => if x45 = true then (some false) else (laws_lpaDisk.l0 k 0 x429000 x429001 x429002 x429003 x429004 x430000 x430001 x430002 x430003 x430004)
def laws_lpaDisk.l0 : Nat → Int → Int → List ByteArray → List ByteArray → List Bool → List (S54) → Int → List ByteArray → List ByteArray → List Bool → List (S54) → Option (Bool)
 | 0, _, _, _, _, _, _, _, _, _, _, _ => none
 | k + 1, x5, x429000, x429001, x429002, x429003, x429004, x430000, x430001, x430002, x430003, x430004 => if x5 < (x429003.length : Int) then (if 0 ≤ x5 then (if x5 < (x430003.length : Int) then (if ((rdOf false x429003 x5) != (rdOf false x430003 x5)) = true then (some false) else (laws_lpaDisk.l0 k (wrap64 (x5 + 1)) x429000 x429001 x429002 x429003 x429004 x430000 x430001 x430002 x430003 x430004)) else (none)) else (none)) else (laws_lpaDisk.l1 k 0 x429000 x429001 x429002 x429003 x429004 x430000 x430001 x430002 x430003 x430004)
def laws_lpaDisk.l1 : Nat → Int → Int → List ByteArray → List ByteArray → List Bool → List (S54) → Int → List ByteArray → List ByteArray → List Bool → List (S54) → Option (Bool)
 | 0, _, _, _, _, _, _, _, _, _, _, _ => none
 | k + 1, x6, x429000, x429001, x429002, x429003, x429004, x430000, x430001, x430002, x430003, x430004 => if x6 < (x429004.length : Int) then (if 0 ≤ x6 then (if x6 < (x430004.length : Int) then (if (!(((rd_T54 x429004 x6).f0) == ((rd_T54 x430004 x6).f0)) || (!(((rd_T54 x429004 x6).f1) == ((rd_T54 x430004 x6).f1)) || (!((((rd_T54 x429004 x6).f2).toList) == (((rd_T54 x430004 x6).f2).toList))))) = true then (some false) else (laws_lpaDisk.l1 k (wrap64 (x6 + 1)) x429000 x429001 x429002 x429003 x429004 x430000 x430001 x430002 x430003 x430004)) else (none)) else (none)) else (some true)
end
def laws_lpaDisk.f (k : Nat) (a0_0 : Int) (l0_1 : List ByteArray) (l0_2 : List ByteArray) (l0_3 : List Bool) (l0_4 : List (S54)) (a1_0 : Int) (l1_1 : List ByteArray) (l1_2 : List ByteArray) (l1_3 : List Bool) (l1_4 : List (S54)) : Option (Bool) := if a0_0 = a1_0 then ((laws_lpaTexts.f k l0_1 l1_1).bind fun t430 => (if t430 = true then ((laws_lpaTexts.f k l0_2 l1_2).bind fun t431 => (if t431 = true then (if (l0_3.length : Int) = (l1_3.length : Int) then (laws_lpaDisk.j0 k ((l0_4.length : Int) != (l1_4.length : Int)) a0_0 l0_1 l0_2 l0_3 l0_4 a1_0 l1_1 l1_2 l1_3 l1_4) else (laws_lpaDisk.j0 k true a0_0 l0_1 l0_2 l0_3 l0_4 a1_0 l1_1 l1_2 l1_3 l1_4)) else (laws_lpaDisk.j0 k true a0_0 l0_1 l0_2 l0_3 l0_4 a1_0 l1_1 l1_2 l1_3 l1_4))) else (laws_lpaDisk.j0 k true a0_0 l0_1 l0_2 l0_3 l0_4 a1_0 l1_1 l1_2 l1_3 l1_4))) else (laws_lpaDisk.j0 k true a0_0 l0_1 l0_2 l0_3 l0_4 a1_0 l1_1 l1_2 l1_3 l1_4)
set_option maxHeartbeats 8000000 in
set_option maxRecDepth 100000 in
theorem laws_lpaDisk.calls (k : Nat) (a0_0 : Int) (A0_1 : Option Addr) (c0_1 : Nat) (l0_1 : List ByteArray) (A0_2 : Option Addr) (c0_2 : Nat) (l0_2 : List ByteArray) (A0_3 : Option Addr) (c0_3 : Nat) (l0_3 : List Bool) (A0_4 : Option Addr) (c0_4 : Nat) (l0_4 : List (S54)) (a1_0 : Int) (A1_1 : Option Addr) (c1_1 : Nat) (l1_1 : List ByteArray) (A1_2 : Option Addr) (c1_2 : Nat) (l1_2 : List ByteArray) (A1_3 : Option Addr) (c1_3 : Nat) (l1_3 : List Bool) (A1_4 : Option Addr) (c1_4 : Nat) (l1_4 : List (S54)) (r : Bool) (w : World) (hr0_1 : Kd.C Kd.string w A0_1 l0_1.length l0_1) (hc0_1 : l0_1.length ≤ c0_1) (hr0_2 : Kd.C Kd.string w A0_2 l0_2.length l0_2) (hc0_2 : l0_2.length ≤ c0_2) (hr0_3 : Kd.C Kd.bool w A0_3 l0_3.length l0_3) (hc0_3 : l0_3.length ≤ c0_3) (hr0_4 : Kd.C k54 w A0_4 l0_4.length l0_4) (hc0_4 : l0_4.length ≤ c0_4) (hr1_1 : Kd.C Kd.string w A1_1 l1_1.length l1_1) (hc1_1 : l1_1.length ≤ c1_1) (hr1_2 : Kd.C Kd.string w A1_2 l1_2.length l1_2) (hc1_2 : l1_2.length ≤ c1_2) (hr1_3 : Kd.C Kd.bool w A1_3 l1_3.length l1_3) (hc1_3 : l1_3.length ≤ c1_3) (hr1_4 : Kd.C k54 w A1_4 l1_4.length l1_4) (hc1_4 : l1_4.length ≤ c1_4) (h : laws_lpaDisk.f k a0_0 l0_1 l0_2 l0_3 l0_4 a1_0 l1_1 l1_2 l1_3 l1_4 = some r) :
  Calls Try.prog 18 #[.agg #[.int .i64 a0_0, .slice A0_1 l0_1.length c0_1, .slice A0_2 l0_2.length c0_2, .slice A0_3 l0_3.length c0_3, .slice A0_4 l0_4.length c0_4], .agg #[.int .i64 a1_0, .slice A1_1 l1_1.length c1_1, .slice A1_2 l1_2.length c1_2, .slice A1_3 l1_3.length c1_3, .slice A1_4 l1_4.length c1_4]] w fun e w' => e = .returned (.bool r) ∧ Below w.heap.size w w' := by
 have hu28 := Try.underlying28
 have hu54 := Try.underlying54
 have HR0_1 := Az.mk hr0_1
 have HC0_1 := Az.mk hc0_1
 clear hr0_1 hc0_1
 have HR0_2 := Az.mk hr0_2
 have HC0_2 := Az.mk hc0_2
 clear hr0_2 hc0_2
 have HR0_3 := Az.mk hr0_3
 have HC0_3 := Az.mk hc0_3
 clear hr0_3 hc0_3
 have HR0_4 := Az.mk hr0_4
 have HC0_4 := Az.mk hc0_4
 clear hr0_4 hc0_4
 have HR1_1 := Az.mk hr1_1
 have HC1_1 := Az.mk hc1_1
 clear hr1_1 hc1_1
 have HR1_2 := Az.mk hr1_2
 have HC1_2 := Az.mk hc1_2
 clear hr1_2 hc1_2
 have HR1_3 := Az.mk hr1_3
 have HC1_3 := Az.mk hc1_3
 clear hr1_3 hc1_3
 have HR1_4 := Az.mk hr1_4
 have HC1_4 := Az.mk hc1_4
 clear hr1_4 hc1_4
 have HB := Az.mk (Below.refl w.heap.size w)
 have H : (if a0_0 = a1_0 then ((laws_lpaTexts.f k l0_1 l1_1).bind fun t430 => (if t430 = true then ((laws_lpaTexts.f k l0_2 l1_2).bind fun t431 => (if t431 = true then (if (l0_3.length : Int) = (l1_3.length : Int) then (laws_lpaDisk.j0 k ((l0_4.length : Int) != (l1_4.length : Int)) a0_0 l0_1 l0_2 l0_3 l0_4 a1_0 l1_1 l1_2 l1_3 l1_4) else (laws_lpaDisk.j0 k true a0_0 l0_1 l0_2 l0_3 l0_4 a1_0 l1_1 l1_2 l1_3 l1_4)) else (laws_lpaDisk.j0 k true a0_0 l0_1 l0_2 l0_3 l0_4 a1_0 l1_1 l1_2 l1_3 l1_4))) else (laws_lpaDisk.j0 k true a0_0 l0_1 l0_2 l0_3 l0_4 a1_0 l1_1 l1_2 l1_3 l1_4))) else (laws_lpaDisk.j0 k true a0_0 l0_1 l0_2 l0_3 l0_4 a1_0 l1_1 l1_2 l1_3 l1_4)) = some r := h
 clear h
 have HC3 := Az.mk H
 clear H
 go_enter Try.func18, Try.ntmps18
 go_upto_region 1 with (first | ((with_reducible refine zqg (N := 2) rfl ?_); (try (refine gate_guard (by rfl) ?_; dsimp only)); refine zqb ?hg (N := 2) ?hd (cs := #[.int .i64 a0_0, .slice A0_1 l0_1.length c0_1, .slice A0_2 l0_2.length c0_2, .slice A0_3 l0_3.length c0_3, .slice A0_4 l0_4.length c0_4]) (t := 28) ?hr ?_; (case hd => rfl); (case hg => rfl); (case hr => first | (go_simp; done) | (go_simp; rfl)); intro gb428 hg w4 hbox hb; have n0_ := Az.mk (below_step (by repeat (first | (with_reducible first | exact HB.out | apply zq2 | apply zq1 | apply zqd) | exact HB.out)) hb); have n1_ := Az.mk (hbox); have n2_ := Az.mk ((by rw [hg]; exact (below_size (by repeat (first | (with_reducible first | exact HB.out | apply zq2 | apply zq1 | apply zqd) | exact HB.out))) : w.heap.size ≤ gb428)); have n3_ := Az.mk ((by rw [hg]; exact (below_size (by repeat (first | (with_reducible first | exact HB.out | apply zq2 | apply zq1 | apply zqd) | exact HB.out))) : w.heap.size ≤ gb428)); clear HB; have HB := n0_; have BK428 := n1_; have GW428 := n2_; have GE428 := n3_; clear n0_ n1_ n2_ n3_; clear hb hbox hg) | ((with_reducible refine zqg (N := 3) rfl ?_); (try (refine gate_guard (by rfl) ?_; dsimp only)); refine zqb ?hg (N := 3) ?hd (cs := #[.int .i64 a1_0, .slice A1_1 l1_1.length c1_1, .slice A1_2 l1_2.length c1_2, .slice A1_3 l1_3.length c1_3, .slice A1_4 l1_4.length c1_4]) (t := 28) ?hr ?_; (case hd => rfl); (case hg => rfl); (case hr => first | (go_simp; done) | (go_simp; rfl)); intro gb429 hg w5 hbox hb; have n0_ := Az.mk (blk_below (g := gb428) (o := .cells #[.int .i64 a0_0, .slice A0_1 l0_1.length c0_1, .slice A0_2 l0_2.length c0_2, .slice A0_3 l0_3.length c0_3, .slice A0_4 l0_4.length c0_4] 28 (0, 0)) (by (with_reducible repeat (first | refine zq6 ?_ _ | refine zq8 ?_ | refine zq7 ?_ _)); exact BK428.out) hb); have n1_ := Az.mk (below_step (by repeat (first | (with_reducible first | exact HB.out | apply zq2 | apply zq1 | apply zqd | refine zq3 ?_ GE428.out) | exact HB.out)) hb); have n2_ := Az.mk (hbox); have n3_ := Az.mk ((by rw [hg]; exact (below_size (by repeat (first | (with_reducible first | exact HB.out | apply zq2 | apply zq1 | apply zqd | refine zq3 ?_ GE428.out) | exact HB.out))) : w.heap.size ≤ gb429)); have n4_ := Az.mk ((by rw [hg]; exact (below_size (by repeat (first | (with_reducible first | exact HB.out | apply zq2 | apply zq1 | apply zqd | refine zq3 ?_ GE428.out) | exact HB.out))) : w.heap.size ≤ gb429)); have n5_ := Az.mk ((by rw [hg]; exact Nat.ne_of_lt (blk_lt (g := gb428) (o := .cells #[.int .i64 a0_0, .slice A0_1 l0_1.length c0_1, .slice A0_2 l0_2.length c0_2, .slice A0_3 l0_3.length c0_3, .slice A0_4 l0_4.length c0_4] 28 (0, 0)) (by (with_reducible repeat (first | refine zq6 ?_ _ | refine zq8 ?_ | refine zq7 ?_ _)); exact BK428.out)) : gb428 ≠ gb429)); have n6_ := Az.mk ((by rw [hg]; exact Nat.ne_of_gt (blk_lt (g := gb428) (o := .cells #[.int .i64 a0_0, .slice A0_1 l0_1.length c0_1, .slice A0_2 l0_2.length c0_2, .slice A0_3 l0_3.length c0_3, .slice A0_4 l0_4.length c0_4] 28 (0, 0)) (by (with_reducible repeat (first | refine zq6 ?_ _ | refine zq8 ?_ | refine zq7 ?_ _)); exact BK428.out)) : gb429 ≠ gb428)); clear BK428; clear HB; have BK428 := n0_; have HB := n1_; have BK429 := n2_; have GW429 := n3_; have GE429 := n4_; have NB428_429 := n5_; have NB429_428 := n6_; clear n0_ n1_ n2_ n3_ n4_ n5_ n6_; clear hb hbox hg))
 repeat (go_quiet (first | ((with_reducible refine zqg (N := 2) rfl ?_); (try (refine gate_guard (by rfl) ?_; dsimp only)); refine zqb ?hg (N := 2) ?hd (cs := #[.int .i64 a0_0, .slice A0_1 l0_1.length c0_1, .slice A0_2 l0_2.length c0_2, .slice A0_3 l0_3.length c0_3, .slice A0_4 l0_4.length c0_4]) (t := 28) ?hr ?_; (case hd => rfl); (case hg => rfl); (case hr => first | (go_simp; done) | (go_simp; rfl)); intro gb428 hg w4 hbox hb; have n0_ := Az.mk (below_step (by repeat (first | (with_reducible first | exact HB.out | apply zq2 | apply zq1 | apply zqd) | exact HB.out)) hb); have n1_ := Az.mk (hbox); have n2_ := Az.mk ((by rw [hg]; exact (below_size (by repeat (first | (with_reducible first | exact HB.out | apply zq2 | apply zq1 | apply zqd) | exact HB.out))) : w.heap.size ≤ gb428)); have n3_ := Az.mk ((by rw [hg]; exact (below_size (by repeat (first | (with_reducible first | exact HB.out | apply zq2 | apply zq1 | apply zqd) | exact HB.out))) : w.heap.size ≤ gb428)); clear HB; have HB := n0_; have BK428 := n1_; have GW428 := n2_; have GE428 := n3_; clear n0_ n1_ n2_ n3_; clear hb hbox hg) | ((with_reducible refine zqg (N := 3) rfl ?_); (try (refine gate_guard (by rfl) ?_; dsimp only)); refine zqb ?hg (N := 3) ?hd (cs := #[.int .i64 a1_0, .slice A1_1 l1_1.length c1_1, .slice A1_2 l1_2.length c1_2, .slice A1_3 l1_3.length c1_3, .slice A1_4 l1_4.length c1_4]) (t := 28) ?hr ?_; (case hd => rfl); (case hg => rfl); (case hr => first | (go_simp; done) | (go_simp; rfl)); intro gb429 hg w5 hbox hb; have n0_ := Az.mk (blk_below (g := gb428) (o := .cells #[.int .i64 a0_0, .slice A0_1 l0_1.length c0_1, .slice A0_2 l0_2.length c0_2, .slice A0_3 l0_3.length c0_3, .slice A0_4 l0_4.length c0_4] 28 (0, 0)) (by (with_reducible repeat (first | refine zq6 ?_ _ | refine zq8 ?_ | refine zq7 ?_ _)); exact BK428.out) hb); have n1_ := Az.mk (below_step (by repeat (first | (with_reducible first | exact HB.out | apply zq2 | apply zq1 | apply zqd | refine zq3 ?_ GE428.out) | exact HB.out)) hb); have n2_ := Az.mk (hbox); have n3_ := Az.mk ((by rw [hg]; exact (below_size (by repeat (first | (with_reducible first | exact HB.out | apply zq2 | apply zq1 | apply zqd | refine zq3 ?_ GE428.out) | exact HB.out))) : w.heap.size ≤ gb429)); have n4_ := Az.mk ((by rw [hg]; exact (below_size (by repeat (first | (with_reducible first | exact HB.out | apply zq2 | apply zq1 | apply zqd | refine zq3 ?_ GE428.out) | exact HB.out))) : w.heap.size ≤ gb429)); have n5_ := Az.mk ((by rw [hg]; exact Nat.ne_of_lt (blk_lt (g := gb428) (o := .cells #[.int .i64 a0_0, .slice A0_1 l0_1.length c0_1, .slice A0_2 l0_2.length c0_2, .slice A0_3 l0_3.length c0_3, .slice A0_4 l0_4.length c0_4] 28 (0, 0)) (by (with_reducible repeat (first | refine zq6 ?_ _ | refine zq8 ?_ | refine zq7 ?_ _)); exact BK428.out)) : gb428 ≠ gb429)); have n6_ := Az.mk ((by rw [hg]; exact Nat.ne_of_gt (blk_lt (g := gb428) (o := .cells #[.int .i64 a0_0, .slice A0_1 l0_1.length c0_1, .slice A0_2 l0_2.length c0_2, .slice A0_3 l0_3.length c0_3, .slice A0_4 l0_4.length c0_4] 28 (0, 0)) (by (with_reducible repeat (first | refine zq6 ?_ _ | refine zq8 ?_ | refine zq7 ?_ _)); exact BK428.out)) : gb429 ≠ gb428)); clear BK428; clear HB; have BK428 := n0_; have HB := n1_; have BK429 := n2_; have GW429 := n3_; have GE429 := n4_; have NB428_429 := n5_; have NB429_428 := n6_; clear n0_ n1_ n2_ n3_ n4_ n5_ n6_; clear hb hbox hg)); go_upto_region 1 with (first | ((with_reducible refine zqg (N := 2) rfl ?_); (try (refine gate_guard (by rfl) ?_; dsimp only)); refine zqb ?hg (N := 2) ?hd (cs := #[.int .i64 a0_0, .slice A0_1 l0_1.length c0_1, .slice A0_2 l0_2.length c0_2, .slice A0_3 l0_3.length c0_3, .slice A0_4 l0_4.length c0_4]) (t := 28) ?hr ?_; (case hd => rfl); (case hg => rfl); (case hr => first | (go_simp; done) | (go_simp; rfl)); intro gb428 hg w4 hbox hb; have n0_ := Az.mk (below_step (by repeat (first | (with_reducible first | exact HB.out | apply zq2 | apply zq1 | apply zqd) | exact HB.out)) hb); have n1_ := Az.mk (hbox); have n2_ := Az.mk ((by rw [hg]; exact (below_size (by repeat (first | (with_reducible first | exact HB.out | apply zq2 | apply zq1 | apply zqd) | exact HB.out))) : w.heap.size ≤ gb428)); have n3_ := Az.mk ((by rw [hg]; exact (below_size (by repeat (first | (with_reducible first | exact HB.out | apply zq2 | apply zq1 | apply zqd) | exact HB.out))) : w.heap.size ≤ gb428)); clear HB; have HB := n0_; have BK428 := n1_; have GW428 := n2_; have GE428 := n3_; clear n0_ n1_ n2_ n3_; clear hb hbox hg) | ((with_reducible refine zqg (N := 3) rfl ?_); (try (refine gate_guard (by rfl) ?_; dsimp only)); refine zqb ?hg (N := 3) ?hd (cs := #[.int .i64 a1_0, .slice A1_1 l1_1.length c1_1, .slice A1_2 l1_2.length c1_2, .slice A1_3 l1_3.length c1_3, .slice A1_4 l1_4.length c1_4]) (t := 28) ?hr ?_; (case hd => rfl); (case hg => rfl); (case hr => first | (go_simp; done) | (go_simp; rfl)); intro gb429 hg w5 hbox hb; have n0_ := Az.mk (blk_below (g := gb428) (o := .cells #[.int .i64 a0_0, .slice A0_1 l0_1.length c0_1, .slice A0_2 l0_2.length c0_2, .slice A0_3 l0_3.length c0_3, .slice A0_4 l0_4.length c0_4] 28 (0, 0)) (by (with_reducible repeat (first | refine zq6 ?_ _ | refine zq8 ?_ | refine zq7 ?_ _)); exact BK428.out) hb); have n1_ := Az.mk (below_step (by repeat (first | (with_reducible first | exact HB.out | apply zq2 | apply zq1 | apply zqd | refine zq3 ?_ GE428.out) | exact HB.out)) hb); have n2_ := Az.mk (hbox); have n3_ := Az.mk ((by rw [hg]; exact (below_size (by repeat (first | (with_reducible first | exact HB.out | apply zq2 | apply zq1 | apply zqd | refine zq3 ?_ GE428.out) | exact HB.out))) : w.heap.size ≤ gb429)); have n4_ := Az.mk ((by rw [hg]; exact (below_size (by repeat (first | (with_reducible first | exact HB.out | apply zq2 | apply zq1 | apply zqd | refine zq3 ?_ GE428.out) | exact HB.out))) : w.heap.size ≤ gb429)); have n5_ := Az.mk ((by rw [hg]; exact Nat.ne_of_lt (blk_lt (g := gb428) (o := .cells #[.int .i64 a0_0, .slice A0_1 l0_1.length c0_1, .slice A0_2 l0_2.length c0_2, .slice A0_3 l0_3.length c0_3, .slice A0_4 l0_4.length c0_4] 28 (0, 0)) (by (with_reducible repeat (first | refine zq6 ?_ _ | refine zq8 ?_ | refine zq7 ?_ _)); exact BK428.out)) : gb428 ≠ gb429)); have n6_ := Az.mk ((by rw [hg]; exact Nat.ne_of_gt (blk_lt (g := gb428) (o := .cells #[.int .i64 a0_0, .slice A0_1 l0_1.length c0_1, .slice A0_2 l0_2.length c0_2, .slice A0_3 l0_3.length c0_3, .slice A0_4 l0_4.length c0_4] 28 (0, 0)) (by (with_reducible repeat (first | refine zq6 ?_ _ | refine zq8 ?_ | refine zq7 ?_ _)); exact BK428.out)) : gb429 ≠ gb428)); clear BK428; clear HB; have BK428 := n0_; have HB := n1_; have BK429 := n2_; have GW429 := n3_; have GE429 := n4_; have NB428_429 := n5_; have NB429_428 := n6_; clear n0_ n1_ n2_ n3_ n4_ n5_ n6_; clear hb hbox hg)))
 (try simp only [Act.put, List.setIfInBounds_toArray, List.set_cons_zero, List.set_cons_succ])
 go_cut [45] (fun v45 wc => ∃ (kq : Nat) (x45_2 : Bool), v45 = .bool x45_2 ∧ Az (laws_lpaDisk.j0 kq x45_2 a0_0 l0_1 l0_2 l0_3 l0_4 a1_0 l1_1 l1_2 l1_3 l1_4 = some r) ∧ Az (kq ≤ k) ∧ Az (wc.heap[gb428]? = some (.cells #[.int .i64 a0_0, (.slice A0_1 l0_1.length c0_1), (.slice A0_2 l0_2.length c0_2), (.slice A0_3 l0_3.length c0_3), (.slice A0_4 l0_4.length c0_4)] 28 (0, 0))) ∧ Az (wc.heap[gb429]? = some (.cells #[.int .i64 a1_0, (.slice A1_1 l1_1.length c1_1), (.slice A1_2 l1_2.length c1_2), (.slice A1_3 l1_3.length c1_3), (.slice A1_4 l1_4.length c1_4)] 28 (0, 0))) ∧ Az (Below w.heap.size w wc))
 case first =>
  have H := HC3.out
  clear HC3
  by_cases c6 : a0_0 = a1_0
  ·rw [if_pos c6] at H
   have c6b0 : (a0_0 == a1_0) = true := beq_iff_eq.mpr c6
   have c6b1 : (a0_0 != a1_0) = false := bne_eq_false_iff_eq.mpr c6
   clear c6
   (first | rw [c6b0] | (simp only [i64_w, i32_w]; rw [c6b0]) | skip)
   replace H := Option.bind_eq_some_iff.mp H
   obtain ⟨t430, A70, H⟩ := H
   replace H : (if t430 = true then ((laws_lpaTexts.f k l0_2 l1_2).bind fun t431 => (if t431 = true then (if (l0_3.length : Int) = (l1_3.length : Int) then (laws_lpaDisk.j0 k ((l0_4.length : Int) != (l1_4.length : Int)) a0_0 l0_1 l0_2 l0_3 l0_4 a1_0 l1_1 l1_2 l1_3 l1_4) else (laws_lpaDisk.j0 k true a0_0 l0_1 l0_2 l0_3 l0_4 a1_0 l1_1 l1_2 l1_3 l1_4)) else (laws_lpaDisk.j0 k true a0_0 l0_1 l0_2 l0_3 l0_4 a1_0 l1_1 l1_2 l1_3 l1_4))) else (laws_lpaDisk.j0 k true a0_0 l0_1 l0_2 l0_3 l0_4 a1_0 l1_1 l1_2 l1_3 l1_4)) = some r := H
   have A7 := Az.mk A70
   clear A70
   by_cases c8 : t430 = true
   ·subst c8
    have H1 : ((laws_lpaTexts.f k l0_2 l1_2).bind fun t431 => (if t431 = true then (if (l0_3.length : Int) = (l1_3.length : Int) then (laws_lpaDisk.j0 k ((l0_4.length : Int) != (l1_4.length : Int)) a0_0 l0_1 l0_2 l0_3 l0_4 a1_0 l1_1 l1_2 l1_3 l1_4) else (laws_lpaDisk.j0 k true a0_0 l0_1 l0_2 l0_3 l0_4 a1_0 l1_1 l1_2 l1_3 l1_4)) else (laws_lpaDisk.j0 k true a0_0 l0_1 l0_2 l0_3 l0_4 a1_0 l1_1 l1_2 l1_3 l1_4))) = some r := by rw [if_pos rfl] at H; exact H
    clear H
    have H := H1
    clear H1
    replace H := Option.bind_eq_some_iff.mp H
    obtain ⟨t431, A90, H⟩ := H
    replace H : (if t431 = true then (if (l0_3.length : Int) = (l1_3.length : Int) then (laws_lpaDisk.j0 k ((l0_4.length : Int) != (l1_4.length : Int)) a0_0 l0_1 l0_2 l0_3 l0_4 a1_0 l1_1 l1_2 l1_3 l1_4) else (laws_lpaDisk.j0 k true a0_0 l0_1 l0_2 l0_3 l0_4 a1_0 l1_1 l1_2 l1_3 l1_4)) else (laws_lpaDisk.j0 k true a0_0 l0_1 l0_2 l0_3 l0_4 a1_0 l1_1 l1_2 l1_3 l1_4)) = some r := H
    have A9 := Az.mk A90
    clear A90
    by_cases c10 : t431 = true
    ·subst c10
     have H1 : (if (l0_3.length : Int) = (l1_3.length : Int) then (laws_lpaDisk.j0 k ((l0_4.length : Int) != (l1_4.length : Int)) a0_0 l0_1 l0_2 l0_3 l0_4 a1_0 l1_1 l1_2 l1_3 l1_4) else (laws_lpaDisk.j0 k true a0_0 l0_1 l0_2 l0_3 l0_4 a1_0 l1_1 l1_2 l1_3 l1_4)) = some r := by rw [if_pos rfl] at H; exact H
     clear H
     have H := H1
     clear H1
     by_cases c11 : (l0_3.length : Int) = (l1_3.length : Int)
     ·rw [if_pos c11] at H
      have c11b0 : ((l0_3.length : Int) == (l1_3.length : Int)) = true := beq_iff_eq.mpr c11
      have c11b1 : ((l0_3.length : Int) != (l1_3.length : Int)) = false := bne_eq_false_iff_eq.mpr c11
      have c11b2 : (l0_3.length == l1_3.length) = true := by first | simpa using c11 | (simp at c11 ⊢; omega)
      clear c11
      have H' := Az.mk H
      clear H
      have hnb12 := NB428_429.out
      have hnc12 := NB429_428.out
      have hcz13_0 : w5.cell? ⟨gb428, 0, none⟩ = some (.int .i64 a0_0) := (zq4 BK428.out 0).trans rfl
      have hcz13_1 : w5.cell? ⟨gb428, 1, none⟩ = some (.slice A0_1 l0_1.length c0_1) := (zq4 BK428.out 1).trans rfl
      have hcz13_2 : w5.cell? ⟨gb428, 2, none⟩ = some (.slice A0_2 l0_2.length c0_2) := (zq4 BK428.out 2).trans rfl
      have hcz13_3 : w5.cell? ⟨gb428, 3, none⟩ = some (.slice A0_3 l0_3.length c0_3) := (zq4 BK428.out 3).trans rfl
      have hcz13_4 : w5.cell? ⟨gb428, 4, none⟩ = some (.slice A0_4 l0_4.length c0_4) := (zq4 BK428.out 4).trans rfl
      have hfz13_0 := zq5 BK428.out 0
      have hfz13_1 := zq5 BK428.out 1
      have hfz13_2 := zq5 BK428.out 2
      have hfz13_3 := zq5 BK428.out 3
      have hfz13_4 := zq5 BK428.out 4
      have hcz14_0 : w5.cell? ⟨gb429, 0, none⟩ = some (.int .i64 a1_0) := (zq4 BK429.out 0).trans rfl
      have hcz14_1 : w5.cell? ⟨gb429, 1, none⟩ = some (.slice A1_1 l1_1.length c1_1) := (zq4 BK429.out 1).trans rfl
      have hcz14_2 : w5.cell? ⟨gb429, 2, none⟩ = some (.slice A1_2 l1_2.length c1_2) := (zq4 BK429.out 2).trans rfl
      have hcz14_3 : w5.cell? ⟨gb429, 3, none⟩ = some (.slice A1_3 l1_3.length c1_3) := (zq4 BK429.out 3).trans rfl
      have hcz14_4 : w5.cell? ⟨gb429, 4, none⟩ = some (.slice A1_4 l1_4.length c1_4) := (zq4 BK429.out 4).trans rfl
      have hfz14_0 := zq5 BK429.out 0
      have hfz14_1 := zq5 BK429.out 1
      have hfz14_2 := zq5 BK429.out 2
      have hfz14_3 := zq5 BK429.out 3
      have hfz14_4 := zq5 BK429.out 4
      go_wp2_with (first | (go_at_call 40; (with_reducible refine (laws_lpaTexts.calls k _ _ l0_1 _ _ l1_1 true _ ?side1 ?side2 ?side3 ?side4 A7.out).mono ?_); (case side1 => repeat (first | exact (Kd.C_below HR0_1.out HB.out) | (with_reducible refine Kd.C_alloc ?_ _) | (with_reducible refine Kd.C_drewN ?_ _) | (with_reducible refine Kd.C_drew ?_))); (case side2 => exact HC0_1.out); (case side3 => repeat (first | exact (Kd.C_below HR1_1.out HB.out) | (with_reducible refine Kd.C_alloc ?_ _) | (with_reducible refine Kd.C_drewN ?_ _) | (with_reducible refine Kd.C_drew ?_))); (case side4 => exact HC1_1.out); rintro e w' ⟨rfl, ⟨nd, rfl⟩⟩; (try first | exact ⟨rfl, _, World.drewN_drewN _ _ _⟩ | exact ⟨rfl, _, Eq.trans (World.drewN_drewN _ _ _) (congrArg (World.drewN _) (Nat.add_assoc _ _ _))⟩)) | (go_at_call 40; (with_reducible refine (laws_lpaTexts.calls k _ _ l0_2 _ _ l1_2 true _ ?side1 ?side2 ?side3 ?side4 A9.out).mono ?_); (case side1 => repeat (first | exact (Kd.C_below HR0_2.out (by repeat (first | (with_reducible first | exact HB.out | apply zq2 | apply zq1 | apply zqd | refine zq3 ?_ GE428.out | refine zq3 ?_ GE429.out) | exact HB.out))) | (with_reducible refine Kd.C_alloc ?_ _) | (with_reducible refine Kd.C_drewN ?_ _) | (with_reducible refine Kd.C_drew ?_))); (case side2 => exact HC0_2.out); (case side3 => repeat (first | exact (Kd.C_below HR1_2.out (by repeat (first | (with_reducible first | exact HB.out | apply zq2 | apply zq1 | apply zqd | refine zq3 ?_ GE428.out | refine zq3 ?_ GE429.out) | exact HB.out))) | (with_reducible refine Kd.C_alloc ?_ _) | (with_reducible refine Kd.C_drewN ?_ _) | (with_reducible refine Kd.C_drew ?_))); (case side4 => exact HC1_2.out); rintro e w' ⟨rfl, ⟨nd, rfl⟩⟩; (try first | exact ⟨rfl, _, World.drewN_drewN _ _ _⟩ | exact ⟨rfl, _, Eq.trans (World.drewN_drewN _ _ _) (congrArg (World.drewN _) (Nat.add_assoc _ _ _))⟩)))
      repeat (go_quiet (first | (go_at_call 40; (with_reducible refine (laws_lpaTexts.calls k _ _ l0_1 _ _ l1_1 true _ ?side1 ?side2 ?side3 ?side4 A7.out).mono ?_); (case side1 => repeat (first | exact (Kd.C_below HR0_1.out HB.out) | (with_reducible refine Kd.C_alloc ?_ _) | (with_reducible refine Kd.C_drewN ?_ _) | (with_reducible refine Kd.C_drew ?_))); (case side2 => exact HC0_1.out); (case side3 => repeat (first | exact (Kd.C_below HR1_1.out HB.out) | (with_reducible refine Kd.C_alloc ?_ _) | (with_reducible refine Kd.C_drewN ?_ _) | (with_reducible refine Kd.C_drew ?_))); (case side4 => exact HC1_1.out); rintro e w' ⟨rfl, ⟨nd, rfl⟩⟩; (try first | exact ⟨rfl, _, World.drewN_drewN _ _ _⟩ | exact ⟨rfl, _, Eq.trans (World.drewN_drewN _ _ _) (congrArg (World.drewN _) (Nat.add_assoc _ _ _))⟩)) | (go_at_call 40; (with_reducible refine (laws_lpaTexts.calls k _ _ l0_2 _ _ l1_2 true _ ?side1 ?side2 ?side3 ?side4 A9.out).mono ?_); (case side1 => repeat (first | exact (Kd.C_below HR0_2.out (by repeat (first | (with_reducible first | exact HB.out | apply zq2 | apply zq1 | apply zqd | refine zq3 ?_ GE428.out | refine zq3 ?_ GE429.out) | exact HB.out))) | (with_reducible refine Kd.C_alloc ?_ _) | (with_reducible refine Kd.C_drewN ?_ _) | (with_reducible refine Kd.C_drew ?_))); (case side2 => exact HC0_2.out); (case side3 => repeat (first | exact (Kd.C_below HR1_2.out (by repeat (first | (with_reducible first | exact HB.out | apply zq2 | apply zq1 | apply zqd | refine zq3 ?_ GE428.out | refine zq3 ?_ GE429.out) | exact HB.out))) | (with_reducible refine Kd.C_alloc ?_ _) | (with_reducible refine Kd.C_drewN ?_ _) | (with_reducible refine Kd.C_drew ?_))); (case side4 => exact HC1_2.out); rintro e w' ⟨rfl, ⟨nd, rfl⟩⟩; (try first | exact ⟨rfl, _, World.drewN_drewN _ _ _⟩ | exact ⟨rfl, _, Eq.trans (World.drewN_drewN _ _ _) (congrArg (World.drewN _) (Nat.add_assoc _ _ _))⟩))); try go_wp2_with (first | (go_at_call 40; (with_reducible refine (laws_lpaTexts.calls k _ _ l0_1 _ _ l1_1 true _ ?side1 ?side2 ?side3 ?side4 A7.out).mono ?_); (case side1 => repeat (first | exact (Kd.C_below HR0_1.out HB.out) | (with_reducible refine Kd.C_alloc ?_ _) | (with_reducible refine Kd.C_drewN ?_ _) | (with_reducible refine Kd.C_drew ?_))); (case side2 => exact HC0_1.out); (case side3 => repeat (first | exact (Kd.C_below HR1_1.out HB.out) | (with_reducible refine Kd.C_alloc ?_ _) | (with_reducible refine Kd.C_drewN ?_ _) | (with_reducible refine Kd.C_drew ?_))); (case side4 => exact HC1_1.out); rintro e w' ⟨rfl, ⟨nd, rfl⟩⟩; (try first | exact ⟨rfl, _, World.drewN_drewN _ _ _⟩ | exact ⟨rfl, _, Eq.trans (World.drewN_drewN _ _ _) (congrArg (World.drewN _) (Nat.add_assoc _ _ _))⟩)) | (go_at_call 40; (with_reducible refine (laws_lpaTexts.calls k _ _ l0_2 _ _ l1_2 true _ ?side1 ?side2 ?side3 ?side4 A9.out).mono ?_); (case side1 => repeat (first | exact (Kd.C_below HR0_2.out (by repeat (first | (with_reducible first | exact HB.out | apply zq2 | apply zq1 | apply zqd | refine zq3 ?_ GE428.out | refine zq3 ?_ GE429.out) | exact HB.out))) | (with_reducible refine Kd.C_alloc ?_ _) | (with_reducible refine Kd.C_drewN ?_ _) | (with_reducible refine Kd.C_drew ?_))); (case side2 => exact HC0_2.out); (case side3 => repeat (first | exact (Kd.C_below HR1_2.out (by repeat (first | (with_reducible first | exact HB.out | apply zq2 | apply zq1 | apply zqd | refine zq3 ?_ GE428.out | refine zq3 ?_ GE429.out) | exact HB.out))) | (with_reducible refine Kd.C_alloc ?_ _) | (with_reducible refine Kd.C_drewN ?_ _) | (with_reducible refine Kd.C_drew ?_))); (case side4 => exact HC1_2.out); rintro e w' ⟨rfl, ⟨nd, rfl⟩⟩; (try first | exact ⟨rfl, _, World.drewN_drewN _ _ _⟩ | exact ⟨rfl, _, Eq.trans (World.drewN_drewN _ _ _) (congrArg (World.drewN _) (Nat.add_assoc _ _ _))⟩))))
      go_meet
      case rel => exact ⟨_, (((l0_4.length : Int) != (l1_4.length : Int))), (by first | rfl | (simp; done) | (simp [*]; done)), H', ⟨by first | omega | exact Nat.le_refl _⟩, ⟨by (with_reducible repeat (first | refine zq6 ?_ _ | refine zq8 ?_ | refine zq7 ?_ _)); exact BK428.out⟩, ⟨by (with_reducible repeat (first | refine zq6 ?_ _ | refine zq8 ?_ | refine zq7 ?_ _)); exact BK429.out⟩, ⟨by repeat (first | (with_reducible first | exact HB.out | apply zq2 | apply zq1 | apply zqd | refine zq3 ?_ GE428.out | refine zq3 ?_ GE429.out) | exact HB.out)⟩⟩
     ·rw [if_neg c11] at H
      have c11b0 : ((l0_3.length : Int) == (l1_3.length : Int)) = false := beq_eq_false_iff_ne.mpr c11
      have c11b1 : ((l0_3.length : Int) != (l1_3.length : Int)) = true := bne_iff_ne.mpr c11
      have c11b2 : (l0_3.length == l1_3.length) = false := by first | simpa using c11 | (simp at c11 ⊢; omega)
      have H' := Az.mk H
      clear H
      have hnb15 := NB428_429.out
      have hnc15 := NB429_428.out
      have hcz16_0 : w5.cell? ⟨gb428, 0, none⟩ = some (.int .i64 a0_0) := (zq4 BK428.out 0).trans rfl
      have hcz16_1 : w5.cell? ⟨gb428, 1, none⟩ = some (.slice A0_1 l0_1.length c0_1) := (zq4 BK428.out 1).trans rfl
      have hcz16_2 : w5.cell? ⟨gb428, 2, none⟩ = some (.slice A0_2 l0_2.length c0_2) := (zq4 BK428.out 2).trans rfl
      have hcz16_3 : w5.cell? ⟨gb428, 3, none⟩ = some (.slice A0_3 l0_3.length c0_3) := (zq4 BK428.out 3).trans rfl
      have hcz16_4 : w5.cell? ⟨gb428, 4, none⟩ = some (.slice A0_4 l0_4.length c0_4) := (zq4 BK428.out 4).trans rfl
      have hfz16_0 := zq5 BK428.out 0
      have hfz16_1 := zq5 BK428.out 1
      have hfz16_2 := zq5 BK428.out 2
      have hfz16_3 := zq5 BK428.out 3
      have hfz16_4 := zq5 BK428.out 4
      have hcz17_0 : w5.cell? ⟨gb429, 0, none⟩ = some (.int .i64 a1_0) := (zq4 BK429.out 0).trans rfl
      have hcz17_1 : w5.cell? ⟨gb429, 1, none⟩ = some (.slice A1_1 l1_1.length c1_1) := (zq4 BK429.out 1).trans rfl
      have hcz17_2 : w5.cell? ⟨gb429, 2, none⟩ = some (.slice A1_2 l1_2.length c1_2) := (zq4 BK429.out 2).trans rfl
      have hcz17_3 : w5.cell? ⟨gb429, 3, none⟩ = some (.slice A1_3 l1_3.length c1_3) := (zq4 BK429.out 3).trans rfl
      have hcz17_4 : w5.cell? ⟨gb429, 4, none⟩ = some (.slice A1_4 l1_4.length c1_4) := (zq4 BK429.out 4).trans rfl
      have hfz17_0 := zq5 BK429.out 0
      have hfz17_1 := zq5 BK429.out 1
      have hfz17_2 := zq5 BK429.out 2
      have hfz17_3 := zq5 BK429.out 3
      have hfz17_4 := zq5 BK429.out 4
      go_wp2_with (first | (go_at_call 40; (with_reducible refine (laws_lpaTexts.calls k _ _ l0_1 _ _ l1_1 true _ ?side1 ?side2 ?side3 ?side4 A7.out).mono ?_); (case side1 => repeat (first | exact (Kd.C_below HR0_1.out HB.out) | (with_reducible refine Kd.C_alloc ?_ _) | (with_reducible refine Kd.C_drewN ?_ _) | (with_reducible refine Kd.C_drew ?_))); (case side2 => exact HC0_1.out); (case side3 => repeat (first | exact (Kd.C_below HR1_1.out HB.out) | (with_reducible refine Kd.C_alloc ?_ _) | (with_reducible refine Kd.C_drewN ?_ _) | (with_reducible refine Kd.C_drew ?_))); (case side4 => exact HC1_1.out); rintro e w' ⟨rfl, ⟨nd, rfl⟩⟩; (try first | exact ⟨rfl, _, World.drewN_drewN _ _ _⟩ | exact ⟨rfl, _, Eq.trans (World.drewN_drewN _ _ _) (congrArg (World.drewN _) (Nat.add_assoc _ _ _))⟩)) | (go_at_call 40; (with_reducible refine (laws_lpaTexts.calls k _ _ l0_2 _ _ l1_2 true _ ?side1 ?side2 ?side3 ?side4 A9.out).mono ?_); (case side1 => repeat (first | exact (Kd.C_below HR0_2.out (by repeat (first | (with_reducible first | exact HB.out | apply zq2 | apply zq1 | apply zqd | refine zq3 ?_ GE428.out | refine zq3 ?_ GE429.out) | exact HB.out))) | (with_reducible refine Kd.C_alloc ?_ _) | (with_reducible refine Kd.C_drewN ?_ _) | (with_reducible refine Kd.C_drew ?_))); (case side2 => exact HC0_2.out); (case side3 => repeat (first | exact (Kd.C_below HR1_2.out (by repeat (first | (with_reducible first | exact HB.out | apply zq2 | apply zq1 | apply zqd | refine zq3 ?_ GE428.out | refine zq3 ?_ GE429.out) | exact HB.out))) | (with_reducible refine Kd.C_alloc ?_ _) | (with_reducible refine Kd.C_drewN ?_ _) | (with_reducible refine Kd.C_drew ?_))); (case side4 => exact HC1_2.out); rintro e w' ⟨rfl, ⟨nd, rfl⟩⟩; (try first | exact ⟨rfl, _, World.drewN_drewN _ _ _⟩ | exact ⟨rfl, _, Eq.trans (World.drewN_drewN _ _ _) (congrArg (World.drewN _) (Nat.add_assoc _ _ _))⟩)))
      repeat (go_quiet (first | (go_at_call 40; (with_reducible refine (laws_lpaTexts.calls k _ _ l0_1 _ _ l1_1 true _ ?side1 ?side2 ?side3 ?side4 A7.out).mono ?_); (case side1 => repeat (first | exact (Kd.C_below HR0_1.out HB.out) | (with_reducible refine Kd.C_alloc ?_ _) | (with_reducible refine Kd.C_drewN ?_ _) | (with_reducible refine Kd.C_drew ?_))); (case side2 => exact HC0_1.out); (case side3 => repeat (first | exact (Kd.C_below HR1_1.out HB.out) | (with_reducible refine Kd.C_alloc ?_ _) | (with_reducible refine Kd.C_drewN ?_ _) | (with_reducible refine Kd.C_drew ?_))); (case side4 => exact HC1_1.out); rintro e w' ⟨rfl, ⟨nd, rfl⟩⟩; (try first | exact ⟨rfl, _, World.drewN_drewN _ _ _⟩ | exact ⟨rfl, _, Eq.trans (World.drewN_drewN _ _ _) (congrArg (World.drewN _) (Nat.add_assoc _ _ _))⟩)) | (go_at_call 40; (with_reducible refine (laws_lpaTexts.calls k _ _ l0_2 _ _ l1_2 true _ ?side1 ?side2 ?side3 ?side4 A9.out).mono ?_); (case side1 => repeat (first | exact (Kd.C_below HR0_2.out (by repeat (first | (with_reducible first | exact HB.out | apply zq2 | apply zq1 | apply zqd | refine zq3 ?_ GE428.out | refine zq3 ?_ GE429.out) | exact HB.out))) | (with_reducible refine Kd.C_alloc ?_ _) | (with_reducible refine Kd.C_drewN ?_ _) | (with_reducible refine Kd.C_drew ?_))); (case side2 => exact HC0_2.out); (case side3 => repeat (first | exact (Kd.C_below HR1_2.out (by repeat (first | (with_reducible first | exact HB.out | apply zq2 | apply zq1 | apply zqd | refine zq3 ?_ GE428.out | refine zq3 ?_ GE429.out) | exact HB.out))) | (with_reducible refine Kd.C_alloc ?_ _) | (with_reducible refine Kd.C_drewN ?_ _) | (with_reducible refine Kd.C_drew ?_))); (case side4 => exact HC1_2.out); rintro e w' ⟨rfl, ⟨nd, rfl⟩⟩; (try first | exact ⟨rfl, _, World.drewN_drewN _ _ _⟩ | exact ⟨rfl, _, Eq.trans (World.drewN_drewN _ _ _) (congrArg (World.drewN _) (Nat.add_assoc _ _ _))⟩))); try go_wp2_with (first | (go_at_call 40; (with_reducible refine (laws_lpaTexts.calls k _ _ l0_1 _ _ l1_1 true _ ?side1 ?side2 ?side3 ?side4 A7.out).mono ?_); (case side1 => repeat (first | exact (Kd.C_below HR0_1.out HB.out) | (with_reducible refine Kd.C_alloc ?_ _) | (with_reducible refine Kd.C_drewN ?_ _) | (with_reducible refine Kd.C_drew ?_))); (case side2 => exact HC0_1.out); (case side3 => repeat (first | exact (Kd.C_below HR1_1.out HB.out) | (with_reducible refine Kd.C_alloc ?_ _) | (with_reducible refine Kd.C_drewN ?_ _) | (with_reducible refine Kd.C_drew ?_))); (case side4 => exact HC1_1.out); rintro e w' ⟨rfl, ⟨nd, rfl⟩⟩; (try first | exact ⟨rfl, _, World.drewN_drewN _ _ _⟩ | exact ⟨rfl, _, Eq.trans (World.drewN_drewN _ _ _) (congrArg (World.drewN _) (Nat.add_assoc _ _ _))⟩)) | (go_at_call 40; (with_reducible refine (laws_lpaTexts.calls k _ _ l0_2 _ _ l1_2 true _ ?side1 ?side2 ?side3 ?side4 A9.out).mono ?_); (case side1 => repeat (first | exact (Kd.C_below HR0_2.out (by repeat (first | (with_reducible first | exact HB.out | apply zq2 | apply zq1 | apply zqd | refine zq3 ?_ GE428.out | refine zq3 ?_ GE429.out) | exact HB.out))) | (with_reducible refine Kd.C_alloc ?_ _) | (with_reducible refine Kd.C_drewN ?_ _) | (with_reducible refine Kd.C_drew ?_))); (case side2 => exact HC0_2.out); (case side3 => repeat (first | exact (Kd.C_below HR1_2.out (by repeat (first | (with_reducible first | exact HB.out | apply zq2 | apply zq1 | apply zqd | refine zq3 ?_ GE428.out | refine zq3 ?_ GE429.out) | exact HB.out))) | (with_reducible refine Kd.C_alloc ?_ _) | (with_reducible refine Kd.C_drewN ?_ _) | (with_reducible refine Kd.C_drew ?_))); (case side4 => exact HC1_2.out); rintro e w' ⟨rfl, ⟨nd, rfl⟩⟩; (try first | exact ⟨rfl, _, World.drewN_drewN _ _ _⟩ | exact ⟨rfl, _, Eq.trans (World.drewN_drewN _ _ _) (congrArg (World.drewN _) (Nat.add_assoc _ _ _))⟩))))
      go_meet
      case rel => exact ⟨_, (true), (by first | rfl | (simp; done) | (simp [*]; done)), H', ⟨by first | omega | exact Nat.le_refl _⟩, ⟨by (with_reducible repeat (first | refine zq6 ?_ _ | refine zq8 ?_ | refine zq7 ?_ _)); exact BK428.out⟩, ⟨by (with_reducible repeat (first | refine zq6 ?_ _ | refine zq8 ?_ | refine zq7 ?_ _)); exact BK429.out⟩, ⟨by repeat (first | (with_reducible first | exact HB.out | apply zq2 | apply zq1 | apply zqd | refine zq3 ?_ GE428.out | refine zq3 ?_ GE429.out) | exact HB.out)⟩⟩
    ·replace c10 := Bool.eq_false_iff.mpr c10
     subst c10
     have H1 : (laws_lpaDisk.j0 k true a0_0 l0_1 l0_2 l0_3 l0_4 a1_0 l1_1 l1_2 l1_3 l1_4) = some r := by rw [if_neg (show ¬ (false = true) by decide)] at H; exact H
     clear H
     have H := H1
     clear H1
     have H' := Az.mk H
     clear H
     have hnb18 := NB428_429.out
     have hnc18 := NB429_428.out
     have hcz19_0 : w5.cell? ⟨gb428, 0, none⟩ = some (.int .i64 a0_0) := (zq4 BK428.out 0).trans rfl
     have hcz19_1 : w5.cell? ⟨gb428, 1, none⟩ = some (.slice A0_1 l0_1.length c0_1) := (zq4 BK428.out 1).trans rfl
     have hcz19_2 : w5.cell? ⟨gb428, 2, none⟩ = some (.slice A0_2 l0_2.length c0_2) := (zq4 BK428.out 2).trans rfl
     have hcz19_3 : w5.cell? ⟨gb428, 3, none⟩ = some (.slice A0_3 l0_3.length c0_3) := (zq4 BK428.out 3).trans rfl
     have hcz19_4 : w5.cell? ⟨gb428, 4, none⟩ = some (.slice A0_4 l0_4.length c0_4) := (zq4 BK428.out 4).trans rfl
     have hfz19_0 := zq5 BK428.out 0
     have hfz19_1 := zq5 BK428.out 1
     have hfz19_2 := zq5 BK428.out 2
     have hfz19_3 := zq5 BK428.out 3
     have hfz19_4 := zq5 BK428.out 4
     have hcz20_0 : w5.cell? ⟨gb429, 0, none⟩ = some (.int .i64 a1_0) := (zq4 BK429.out 0).trans rfl
     have hcz20_1 : w5.cell? ⟨gb429, 1, none⟩ = some (.slice A1_1 l1_1.length c1_1) := (zq4 BK429.out 1).trans rfl
     have hcz20_2 : w5.cell? ⟨gb429, 2, none⟩ = some (.slice A1_2 l1_2.length c1_2) := (zq4 BK429.out 2).trans rfl
     have hcz20_3 : w5.cell? ⟨gb429, 3, none⟩ = some (.slice A1_3 l1_3.length c1_3) := (zq4 BK429.out 3).trans rfl
     have hcz20_4 : w5.cell? ⟨gb429, 4, none⟩ = some (.slice A1_4 l1_4.length c1_4) := (zq4 BK429.out 4).trans rfl
     have hfz20_0 := zq5 BK429.out 0
     have hfz20_1 := zq5 BK429.out 1
     have hfz20_2 := zq5 BK429.out 2
     have hfz20_3 := zq5 BK429.out 3
     have hfz20_4 := zq5 BK429.out 4
     go_wp2_with (first | (go_at_call 40; (with_reducible refine (laws_lpaTexts.calls k _ _ l0_1 _ _ l1_1 true _ ?side1 ?side2 ?side3 ?side4 A7.out).mono ?_); (case side1 => repeat (first | exact (Kd.C_below HR0_1.out HB.out) | (with_reducible refine Kd.C_alloc ?_ _) | (with_reducible refine Kd.C_drewN ?_ _) | (with_reducible refine Kd.C_drew ?_))); (case side2 => exact HC0_1.out); (case side3 => repeat (first | exact (Kd.C_below HR1_1.out HB.out) | (with_reducible refine Kd.C_alloc ?_ _) | (with_reducible refine Kd.C_drewN ?_ _) | (with_reducible refine Kd.C_drew ?_))); (case side4 => exact HC1_1.out); rintro e w' ⟨rfl, ⟨nd, rfl⟩⟩; (try first | exact ⟨rfl, _, World.drewN_drewN _ _ _⟩ | exact ⟨rfl, _, Eq.trans (World.drewN_drewN _ _ _) (congrArg (World.drewN _) (Nat.add_assoc _ _ _))⟩)) | (go_at_call 40; (with_reducible refine (laws_lpaTexts.calls k _ _ l0_2 _ _ l1_2 false _ ?side1 ?side2 ?side3 ?side4 A9.out).mono ?_); (case side1 => repeat (first | exact (Kd.C_below HR0_2.out (by repeat (first | (with_reducible first | exact HB.out | apply zq2 | apply zq1 | apply zqd | refine zq3 ?_ GE428.out | refine zq3 ?_ GE429.out) | exact HB.out))) | (with_reducible refine Kd.C_alloc ?_ _) | (with_reducible refine Kd.C_drewN ?_ _) | (with_reducible refine Kd.C_drew ?_))); (case side2 => exact HC0_2.out); (case side3 => repeat (first | exact (Kd.C_below HR1_2.out (by repeat (first | (with_reducible first | exact HB.out | apply zq2 | apply zq1 | apply zqd | refine zq3 ?_ GE428.out | refine zq3 ?_ GE429.out) | exact HB.out))) | (with_reducible refine Kd.C_alloc ?_ _) | (with_reducible refine Kd.C_drewN ?_ _) | (with_reducible refine Kd.C_drew ?_))); (case side4 => exact HC1_2.out); rintro e w' ⟨rfl, ⟨nd, rfl⟩⟩; (try first | exact ⟨rfl, _, World.drewN_drewN _ _ _⟩ | exact ⟨rfl, _, Eq.trans (World.drewN_drewN _ _ _) (congrArg (World.drewN _) (Nat.add_assoc _ _ _))⟩)))
     repeat (go_quiet (first | (go_at_call 40; (with_reducible refine (laws_lpaTexts.calls k _ _ l0_1 _ _ l1_1 true _ ?side1 ?side2 ?side3 ?side4 A7.out).mono ?_); (case side1 => repeat (first | exact (Kd.C_below HR0_1.out HB.out) | (with_reducible refine Kd.C_alloc ?_ _) | (with_reducible refine Kd.C_drewN ?_ _) | (with_reducible refine Kd.C_drew ?_))); (case side2 => exact HC0_1.out); (case side3 => repeat (first | exact (Kd.C_below HR1_1.out HB.out) | (with_reducible refine Kd.C_alloc ?_ _) | (with_reducible refine Kd.C_drewN ?_ _) | (with_reducible refine Kd.C_drew ?_))); (case side4 => exact HC1_1.out); rintro e w' ⟨rfl, ⟨nd, rfl⟩⟩; (try first | exact ⟨rfl, _, World.drewN_drewN _ _ _⟩ | exact ⟨rfl, _, Eq.trans (World.drewN_drewN _ _ _) (congrArg (World.drewN _) (Nat.add_assoc _ _ _))⟩)) | (go_at_call 40; (with_reducible refine (laws_lpaTexts.calls k _ _ l0_2 _ _ l1_2 false _ ?side1 ?side2 ?side3 ?side4 A9.out).mono ?_); (case side1 => repeat (first | exact (Kd.C_below HR0_2.out (by repeat (first | (with_reducible first | exact HB.out | apply zq2 | apply zq1 | apply zqd | refine zq3 ?_ GE428.out | refine zq3 ?_ GE429.out) | exact HB.out))) | (with_reducible refine Kd.C_alloc ?_ _) | (with_reducible refine Kd.C_drewN ?_ _) | (with_reducible refine Kd.C_drew ?_))); (case side2 => exact HC0_2.out); (case side3 => repeat (first | exact (Kd.C_below HR1_2.out (by repeat (first | (with_reducible first | exact HB.out | apply zq2 | apply zq1 | apply zqd | refine zq3 ?_ GE428.out | refine zq3 ?_ GE429.out) | exact HB.out))) | (with_reducible refine Kd.C_alloc ?_ _) | (with_reducible refine Kd.C_drewN ?_ _) | (with_reducible refine Kd.C_drew ?_))); (case side4 => exact HC1_2.out); rintro e w' ⟨rfl, ⟨nd, rfl⟩⟩; (try first | exact ⟨rfl, _, World.drewN_drewN _ _ _⟩ | exact ⟨rfl, _, Eq.trans (World.drewN_drewN _ _ _) (congrArg (World.drewN _) (Nat.add_assoc _ _ _))⟩))); try go_wp2_with (first | (go_at_call 40; (with_reducible refine (laws_lpaTexts.calls k _ _ l0_1 _ _ l1_1 true _ ?side1 ?side2 ?side3 ?side4 A7.out).mono ?_); (case side1 => repeat (first | exact (Kd.C_below HR0_1.out HB.out) | (with_reducible refine Kd.C_alloc ?_ _) | (with_reducible refine Kd.C_drewN ?_ _) | (with_reducible refine Kd.C_drew ?_))); (case side2 => exact HC0_1.out); (case side3 => repeat (first | exact (Kd.C_below HR1_1.out HB.out) | (with_reducible refine Kd.C_alloc ?_ _) | (with_reducible refine Kd.C_drewN ?_ _) | (with_reducible refine Kd.C_drew ?_))); (case side4 => exact HC1_1.out); rintro e w' ⟨rfl, ⟨nd, rfl⟩⟩; (try first | exact ⟨rfl, _, World.drewN_drewN _ _ _⟩ | exact ⟨rfl, _, Eq.trans (World.drewN_drewN _ _ _) (congrArg (World.drewN _) (Nat.add_assoc _ _ _))⟩)) | (go_at_call 40; (with_reducible refine (laws_lpaTexts.calls k _ _ l0_2 _ _ l1_2 false _ ?side1 ?side2 ?side3 ?side4 A9.out).mono ?_); (case side1 => repeat (first | exact (Kd.C_below HR0_2.out (by repeat (first | (with_reducible first | exact HB.out | apply zq2 | apply zq1 | apply zqd | refine zq3 ?_ GE428.out | refine zq3 ?_ GE429.out) | exact HB.out))) | (with_reducible refine Kd.C_alloc ?_ _) | (with_reducible refine Kd.C_drewN ?_ _) | (with_reducible refine Kd.C_drew ?_))); (case side2 => exact HC0_2.out); (case side3 => repeat (first | exact (Kd.C_below HR1_2.out (by repeat (first | (with_reducible first | exact HB.out | apply zq2 | apply zq1 | apply zqd | refine zq3 ?_ GE428.out | refine zq3 ?_ GE429.out) | exact HB.out))) | (with_reducible refine Kd.C_alloc ?_ _) | (with_reducible refine Kd.C_drewN ?_ _) | (with_reducible refine Kd.C_drew ?_))); (case side4 => exact HC1_2.out); rintro e w' ⟨rfl, ⟨nd, rfl⟩⟩; (try first | exact ⟨rfl, _, World.drewN_drewN _ _ _⟩ | exact ⟨rfl, _, Eq.trans (World.drewN_drewN _ _ _) (congrArg (World.drewN _) (Nat.add_assoc _ _ _))⟩))))
     go_meet
     case rel => exact ⟨_, (true), (by first | rfl | (simp; done) | (simp [*]; done)), H', ⟨by first | omega | exact Nat.le_refl _⟩, ⟨by (with_reducible repeat (first | refine zq6 ?_ _ | refine zq8 ?_ | refine zq7 ?_ _)); exact BK428.out⟩, ⟨by (with_reducible repeat (first | refine zq6 ?_ _ | refine zq8 ?_ | refine zq7 ?_ _)); exact BK429.out⟩, ⟨by repeat (first | (with_reducible first | exact HB.out | apply zq2 | apply zq1 | apply zqd | refine zq3 ?_ GE428.out | refine zq3 ?_ GE429.out) | exact HB.out)⟩⟩
   ·replace c8 := Bool.eq_false_iff.mpr c8
    subst c8
    have H1 : (laws_lpaDisk.j0 k true a0_0 l0_1 l0_2 l0_3 l0_4 a1_0 l1_1 l1_2 l1_3 l1_4) = some r := by rw [if_neg (show ¬ (false = true) by decide)] at H; exact H
    clear H
    have H := H1
    clear H1
    have H' := Az.mk H
    clear H
    have hnb21 := NB428_429.out
    have hnc21 := NB429_428.out
    have hcz22_0 : w5.cell? ⟨gb428, 0, none⟩ = some (.int .i64 a0_0) := (zq4 BK428.out 0).trans rfl
    have hcz22_1 : w5.cell? ⟨gb428, 1, none⟩ = some (.slice A0_1 l0_1.length c0_1) := (zq4 BK428.out 1).trans rfl
    have hcz22_2 : w5.cell? ⟨gb428, 2, none⟩ = some (.slice A0_2 l0_2.length c0_2) := (zq4 BK428.out 2).trans rfl
    have hcz22_3 : w5.cell? ⟨gb428, 3, none⟩ = some (.slice A0_3 l0_3.length c0_3) := (zq4 BK428.out 3).trans rfl
    have hcz22_4 : w5.cell? ⟨gb428, 4, none⟩ = some (.slice A0_4 l0_4.length c0_4) := (zq4 BK428.out 4).trans rfl
    have hfz22_0 := zq5 BK428.out 0
    have hfz22_1 := zq5 BK428.out 1
    have hfz22_2 := zq5 BK428.out 2
    have hfz22_3 := zq5 BK428.out 3
    have hfz22_4 := zq5 BK428.out 4
    have hcz23_0 : w5.cell? ⟨gb429, 0, none⟩ = some (.int .i64 a1_0) := (zq4 BK429.out 0).trans rfl
    have hcz23_1 : w5.cell? ⟨gb429, 1, none⟩ = some (.slice A1_1 l1_1.length c1_1) := (zq4 BK429.out 1).trans rfl
    have hcz23_2 : w5.cell? ⟨gb429, 2, none⟩ = some (.slice A1_2 l1_2.length c1_2) := (zq4 BK429.out 2).trans rfl
    have hcz23_3 : w5.cell? ⟨gb429, 3, none⟩ = some (.slice A1_3 l1_3.length c1_3) := (zq4 BK429.out 3).trans rfl
    have hcz23_4 : w5.cell? ⟨gb429, 4, none⟩ = some (.slice A1_4 l1_4.length c1_4) := (zq4 BK429.out 4).trans rfl
    have hfz23_0 := zq5 BK429.out 0
    have hfz23_1 := zq5 BK429.out 1
    have hfz23_2 := zq5 BK429.out 2
    have hfz23_3 := zq5 BK429.out 3
    have hfz23_4 := zq5 BK429.out 4
    go_wp2_with (first | (go_at_call 40; (with_reducible refine (laws_lpaTexts.calls k _ _ l0_1 _ _ l1_1 false _ ?side1 ?side2 ?side3 ?side4 A7.out).mono ?_); (case side1 => repeat (first | exact (Kd.C_below HR0_1.out HB.out) | (with_reducible refine Kd.C_alloc ?_ _) | (with_reducible refine Kd.C_drewN ?_ _) | (with_reducible refine Kd.C_drew ?_))); (case side2 => exact HC0_1.out); (case side3 => repeat (first | exact (Kd.C_below HR1_1.out HB.out) | (with_reducible refine Kd.C_alloc ?_ _) | (with_reducible refine Kd.C_drewN ?_ _) | (with_reducible refine Kd.C_drew ?_))); (case side4 => exact HC1_1.out); rintro e w' ⟨rfl, ⟨nd, rfl⟩⟩; (try first | exact ⟨rfl, _, World.drewN_drewN _ _ _⟩ | exact ⟨rfl, _, Eq.trans (World.drewN_drewN _ _ _) (congrArg (World.drewN _) (Nat.add_assoc _ _ _))⟩)))
    repeat (go_quiet (first | (go_at_call 40; (with_reducible refine (laws_lpaTexts.calls k _ _ l0_1 _ _ l1_1 false _ ?side1 ?side2 ?side3 ?side4 A7.out).mono ?_); (case side1 => repeat (first | exact (Kd.C_below HR0_1.out HB.out) | (with_reducible refine Kd.C_alloc ?_ _) | (with_reducible refine Kd.C_drewN ?_ _) | (with_reducible refine Kd.C_drew ?_))); (case side2 => exact HC0_1.out); (case side3 => repeat (first | exact (Kd.C_below HR1_1.out HB.out) | (with_reducible refine Kd.C_alloc ?_ _) | (with_reducible refine Kd.C_drewN ?_ _) | (with_reducible refine Kd.C_drew ?_))); (case side4 => exact HC1_1.out); rintro e w' ⟨rfl, ⟨nd, rfl⟩⟩; (try first | exact ⟨rfl, _, World.drewN_drewN _ _ _⟩ | exact ⟨rfl, _, Eq.trans (World.drewN_drewN _ _ _) (congrArg (World.drewN _) (Nat.add_assoc _ _ _))⟩))); try go_wp2_with (first | (go_at_call 40; (with_reducible refine (laws_lpaTexts.calls k _ _ l0_1 _ _ l1_1 false _ ?side1 ?side2 ?side3 ?side4 A7.out).mono ?_); (case side1 => repeat (first | exact (Kd.C_below HR0_1.out HB.out) | (with_reducible refine Kd.C_alloc ?_ _) | (with_reducible refine Kd.C_drewN ?_ _) | (with_reducible refine Kd.C_drew ?_))); (case side2 => exact HC0_1.out); (case side3 => repeat (first | exact (Kd.C_below HR1_1.out HB.out) | (with_reducible refine Kd.C_alloc ?_ _) | (with_reducible refine Kd.C_drewN ?_ _) | (with_reducible refine Kd.C_drew ?_))); (case side4 => exact HC1_1.out); rintro e w' ⟨rfl, ⟨nd, rfl⟩⟩; (try first | exact ⟨rfl, _, World.drewN_drewN _ _ _⟩ | exact ⟨rfl, _, Eq.trans (World.drewN_drewN _ _ _) (congrArg (World.drewN _) (Nat.add_assoc _ _ _))⟩))))
    go_meet
    case rel => exact ⟨_, (true), (by first | rfl | (simp; done) | (simp [*]; done)), H', ⟨by first | omega | exact Nat.le_refl _⟩, ⟨by (with_reducible repeat (first | refine zq6 ?_ _ | refine zq8 ?_ | refine zq7 ?_ _)); exact BK428.out⟩, ⟨by (with_reducible repeat (first | refine zq6 ?_ _ | refine zq8 ?_ | refine zq7 ?_ _)); exact BK429.out⟩, ⟨by repeat (first | (with_reducible first | exact HB.out | apply zq2 | apply zq1 | apply zqd | refine zq3 ?_ GE428.out | refine zq3 ?_ GE429.out) | exact HB.out)⟩⟩
  ·rw [if_neg c6] at H
   have c6b0 : (a0_0 == a1_0) = false := beq_eq_false_iff_ne.mpr c6
   have c6b1 : (a0_0 != a1_0) = true := bne_iff_ne.mpr c6
   (first | rw [c6b0] | (simp only [i64_w, i32_w]; rw [c6b0]) | skip)
   have H' := Az.mk H
   clear H
   have hnb24 := NB428_429.out
   have hnc24 := NB429_428.out
   have hcz25_0 : w5.cell? ⟨gb428, 0, none⟩ = some (.int .i64 a0_0) := (zq4 BK428.out 0).trans rfl
   have hcz25_1 : w5.cell? ⟨gb428, 1, none⟩ = some (.slice A0_1 l0_1.length c0_1) := (zq4 BK428.out 1).trans rfl
   have hcz25_2 : w5.cell? ⟨gb428, 2, none⟩ = some (.slice A0_2 l0_2.length c0_2) := (zq4 BK428.out 2).trans rfl
   have hcz25_3 : w5.cell? ⟨gb428, 3, none⟩ = some (.slice A0_3 l0_3.length c0_3) := (zq4 BK428.out 3).trans rfl
   have hcz25_4 : w5.cell? ⟨gb428, 4, none⟩ = some (.slice A0_4 l0_4.length c0_4) := (zq4 BK428.out 4).trans rfl
   have hfz25_0 := zq5 BK428.out 0
   have hfz25_1 := zq5 BK428.out 1
   have hfz25_2 := zq5 BK428.out 2
   have hfz25_3 := zq5 BK428.out 3
   have hfz25_4 := zq5 BK428.out 4
   have hcz26_0 : w5.cell? ⟨gb429, 0, none⟩ = some (.int .i64 a1_0) := (zq4 BK429.out 0).trans rfl
   have hcz26_1 : w5.cell? ⟨gb429, 1, none⟩ = some (.slice A1_1 l1_1.length c1_1) := (zq4 BK429.out 1).trans rfl
   have hcz26_2 : w5.cell? ⟨gb429, 2, none⟩ = some (.slice A1_2 l1_2.length c1_2) := (zq4 BK429.out 2).trans rfl
   have hcz26_3 : w5.cell? ⟨gb429, 3, none⟩ = some (.slice A1_3 l1_3.length c1_3) := (zq4 BK429.out 3).trans rfl
   have hcz26_4 : w5.cell? ⟨gb429, 4, none⟩ = some (.slice A1_4 l1_4.length c1_4) := (zq4 BK429.out 4).trans rfl
   have hfz26_0 := zq5 BK429.out 0
   have hfz26_1 := zq5 BK429.out 1
   have hfz26_2 := zq5 BK429.out 2
   have hfz26_3 := zq5 BK429.out 3
   have hfz26_4 := zq5 BK429.out 4
   go_wp2
   repeat (go_quiet (fail); try go_wp2)
   go_meet
   case rel => exact ⟨_, (true), (by first | rfl | (simp; done) | (simp [*]; done)), H', ⟨by first | omega | exact Nat.le_refl _⟩, ⟨by (with_reducible repeat (first | refine zq6 ?_ _ | refine zq8 ?_ | refine zq7 ?_ _)); exact BK428.out⟩, ⟨by (with_reducible repeat (first | refine zq6 ?_ _ | refine zq8 ?_ | refine zq7 ?_ _)); exact BK429.out⟩, ⟨by repeat (first | (with_reducible first | exact HB.out | apply zq2 | apply zq1 | apply zqd | refine zq3 ?_ GE428.out | refine zq3 ?_ GE429.out) | exact HB.out)⟩⟩
 case rest =>
  clear HC3
  try clear c1
  try clear c2
  try clear p2
  try clear c6
  try clear c6b0
  try clear c6b1
  try clear c8
  try clear c10
  try clear c11
  try clear c11b0
  try clear c11b1
  try clear c11b2
  try clear c12
  try clear c15
  try clear c18
  try clear c21
  try clear c24
  try clear hcz13_0
  try clear hcz13_1
  try clear hcz13_2
  try clear hcz13_3
  try clear hcz13_4
  try clear hcz14_0
  try clear hcz14_1
  try clear hcz14_2
  try clear hcz14_3
  try clear hcz14_4
  try clear hcz16_0
  try clear hcz16_1
  try clear hcz16_2
  try clear hcz16_3
  try clear hcz16_4
  try clear hcz17_0
  try clear hcz17_1
  try clear hcz17_2
  try clear hcz17_3
  try clear hcz17_4
  try clear hcz19_0
  try clear hcz19_1
  try clear hcz19_2
  try clear hcz19_3
  try clear hcz19_4
  try clear hcz20_0
  try clear hcz20_1
  try clear hcz20_2
  try clear hcz20_3
  try clear hcz20_4
  try clear hcz22_0
  try clear hcz22_1
  try clear hcz22_2
  try clear hcz22_3
  try clear hcz22_4
  try clear hcz23_0
  try clear hcz23_1
  try clear hcz23_2
  try clear hcz23_3
  try clear hcz23_4
  try clear hcz25_0
  try clear hcz25_1
  try clear hcz25_2
  try clear hcz25_3
  try clear hcz25_4
  try clear hcz26_0
  try clear hcz26_1
  try clear hcz26_2
  try clear hcz26_3
  try clear hcz26_4
  try clear hfz13_0
  try clear hfz13_1
  try clear hfz13_2
  try clear hfz13_3
  try clear hfz13_4
  try clear hfz14_0
  try clear hfz14_1
  try clear hfz14_2
  try clear hfz14_3
  try clear hfz14_4
  try clear hfz16_0
  try clear hfz16_1
  try clear hfz16_2
  try clear hfz16_3
  try clear hfz16_4
  try clear hfz17_0
  try clear hfz17_1
  try clear hfz17_2
  try clear hfz17_3
  try clear hfz17_4
  try clear hfz19_0
  try clear hfz19_1
  try clear hfz19_2
  try clear hfz19_3
  try clear hfz19_4
  try clear hfz20_0
  try clear hfz20_1
  try clear hfz20_2
  try clear hfz20_3
  try clear hfz20_4
  try clear hfz22_0
  try clear hfz22_1
  try clear hfz22_2
  try clear hfz22_3
  try clear hfz22_4
  try clear hfz23_0
  try clear hfz23_1
  try clear hfz23_2
  try clear hfz23_3
  try clear hfz23_4
  try clear hfz25_0
  try clear hfz25_1
  try clear hfz25_2
  try clear hfz25_3
  try clear hfz25_4
  try clear hfz26_0
  try clear hfz26_1
  try clear hfz26_2
  try clear hfz26_3
  try clear hfz26_4
  obtain ⟨kq, x45_2, rfl, HA, HJ2, BK428, BK429, HB⟩ := hcut
  cases kq with
  | zero => exact absurd HA.out (by simp [laws_lpaDisk.j0])
  | succ kj2 =>
   have H := HA.out
   clear HA
   simp only [laws_lpaDisk.j0] at H
   by_cases c27 : x45_2 = true
   ·subst c27
    have H1 : (some false) = some r := by rw [if_pos rfl] at H; exact H
    clear H
    have H := H1
    clear H1
    obtain rfl := Option.some.inj H
    go_wp2
    repeat (go_quiet (fail); try go_wp2)
    go_ret
    exact ⟨by first | rfl | (simp [errW_none, errW_some] <;> rfl) | (simp [*, errW_none, errW_some] <;> rfl), by repeat (first | (with_reducible first | exact HB.out | apply zq2 | apply zq1 | apply zqd | refine zq3 ?_ GE428.out | refine zq3 ?_ GE429.out) | exact HB.out)⟩
   ·replace c27 := Bool.eq_false_iff.mpr c27
    subst c27
    have H1 : (laws_lpaDisk.l0 kj2 0 a0_0 l0_1 l0_2 l0_3 l0_4 a1_0 l1_1 l1_2 l1_3 l1_4) = some r := by rw [if_neg (show ¬ (false = true) by decide)] at H; exact H
    clear H
    have H := H1
    clear H1
    have H' := Az.mk H
    clear H
    go_wp2
    repeat (go_quiet (fail); try go_wp2)
    go_loopg [5] kj2 (fun kq v5 w' => ∃ (x5_2 : Int), v5 = .int .i64 x5_2 ∧ Az (laws_lpaDisk.l0 kq x5_2 a0_0 l0_1 l0_2 l0_3 l0_4 a1_0 l1_1 l1_2 l1_3 l1_4 = some r) ∧ Az (kq ≤ kj2) ∧ Az (w'.heap[gb428]? = some (.cells #[.int .i64 a0_0, (.slice A0_1 l0_1.length c0_1), (.slice A0_2 l0_2.length c0_2), (.slice A0_3 l0_3.length c0_3), (.slice A0_4 l0_4.length c0_4)] 28 (0, 0))) ∧ Az (w'.heap[gb429]? = some (.cells #[.int .i64 a1_0, (.slice A1_1 l1_1.length c1_1), (.slice A1_2 l1_2.length c1_2), (.slice A1_3 l1_3.length c1_3), (.slice A1_4 l1_4.length c1_4)] 28 (0, 0))) ∧ Az (Below w.heap.size w w'))
    case atStart => exact ⟨(0), (by first | rfl | (simp; done) | (simp [*]; done)), H', ⟨Nat.le_refl _⟩, ⟨by (with_reducible repeat (first | refine zq6 ?_ _ | refine zq8 ?_ | refine zq7 ?_ _)); exact BK428.out⟩, ⟨by (with_reducible repeat (first | refine zq6 ?_ _ | refine zq8 ?_ | refine zq7 ?_ _)); exact BK429.out⟩, ⟨by repeat (first | (with_reducible first | exact HB.out | apply zq2 | apply zq1 | apply zqd | refine zq3 ?_ GE428.out | refine zq3 ?_ GE429.out) | exact HB.out)⟩⟩
    case round =>
     clear H'
     try clear c1
     try clear c2
     try clear p2
     try clear c6
     try clear c6b0
     try clear c6b1
     try clear c8
     try clear c10
     try clear c11
     try clear c11b0
     try clear c11b1
     try clear c11b2
     try clear c12
     try clear c15
     try clear c18
     try clear c21
     try clear c24
     try clear c27
     try clear hcz13_0
     try clear hcz13_1
     try clear hcz13_2
     try clear hcz13_3
     try clear hcz13_4
     try clear hcz14_0
     try clear hcz14_1
     try clear hcz14_2
     try clear hcz14_3
     try clear hcz14_4
     try clear hcz16_0
     try clear hcz16_1
     try clear hcz16_2
     try clear hcz16_3
     try clear hcz16_4
     try clear hcz17_0
     try clear hcz17_1
     try clear hcz17_2
     try clear hcz17_3
     try clear hcz17_4
     try clear hcz19_0
     try clear hcz19_1
     try clear hcz19_2
     try clear hcz19_3
     try clear hcz19_4
     try clear hcz20_0
     try clear hcz20_1
     try clear hcz20_2
     try clear hcz20_3
     try clear hcz20_4
     try clear hcz22_0
     try clear hcz22_1
     try clear hcz22_2
     try clear hcz22_3
     try clear hcz22_4
     try clear hcz23_0
     try clear hcz23_1
     try clear hcz23_2
     try clear hcz23_3
     try clear hcz23_4
     try clear hcz25_0
     try clear hcz25_1
     try clear hcz25_2
     try clear hcz25_3
     try clear hcz25_4
     try clear hcz26_0
     try clear hcz26_1
     try clear hcz26_2
     try clear hcz26_3
     try clear hcz26_4
     try clear hfz13_0
     try clear hfz13_1
     try clear hfz13_2
     try clear hfz13_3
     try clear hfz13_4
     try clear hfz14_0
     try clear hfz14_1
     try clear hfz14_2
     try clear hfz14_3
     try clear hfz14_4
     try clear hfz16_0
     try clear hfz16_1
     try clear hfz16_2
     try clear hfz16_3
     try clear hfz16_4
     try clear hfz17_0
     try clear hfz17_1
     try clear hfz17_2
     try clear hfz17_3
     try clear hfz17_4
     try clear hfz19_0
     try clear hfz19_1
     try clear hfz19_2
     try clear hfz19_3
     try clear hfz19_4
     try clear hfz20_0
     try clear hfz20_1
     try clear hfz20_2
     try clear hfz20_3
     try clear hfz20_4
     try clear hfz22_0
     try clear hfz22_1
     try clear hfz22_2
     try clear hfz22_3
     try clear hfz22_4
     try clear hfz23_0
     try clear hfz23_1
     try clear hfz23_2
     try clear hfz23_3
     try clear hfz23_4
     try clear hfz25_0
     try clear hfz25_1
     try clear hfz25_2
     try clear hfz25_3
     try clear hfz25_4
     try clear hfz26_0
     try clear hfz26_1
     try clear hfz26_2
     try clear hfz26_3
     try clear hfz26_4
     try clear p2
     obtain ⟨x5_2, rfl, HA, HK2, BK428, BK429, HB⟩ := hrel
     cases gk with
     | zero => exact absurd HA.out (by simp [laws_lpaDisk.l0])
     | succ k2 =>
      have H := HA.out
      clear HA
      simp only [laws_lpaDisk.l0] at H
      by_cases c28 : x5_2 < (l0_3.length : Int)
      ·rw [if_pos c28] at H
       have c28b0 : decide (x5_2 < (l0_3.length : Int)) = true := decide_eq_true c28
       clear c28
       by_cases c29 : 0 ≤ x5_2
       ·rw [if_pos c29] at H
        have c29b0 : decide (0 ≤ x5_2) = true := decide_eq_true c29
        clear c29
        by_cases c30 : x5_2 < (l1_3.length : Int)
        ·rw [if_pos c30] at H
         have c30b0 : decide (x5_2 < (l1_3.length : Int)) = true := decide_eq_true c30
         clear c30
         by_cases c31 : ((rdOf false l0_3 x5_2) != (rdOf false l1_3 x5_2)) = true
         ·rw [if_pos c31] at H
          have c31b0 : ((rdOf false l0_3 x5_2) != (rdOf false l1_3 x5_2)) = true := c31
          (try (have c31b1 : decide ((rdOf false l0_3 x5_2) = (rdOf false l1_3 x5_2)) = false := by simpa using c31))
          (try (have c31b2 : ((rdOf false l0_3 x5_2) == (rdOf false l1_3 x5_2)) = false := by simpa using c31))
          (try (have c31b3 : ¬ ((rdOf false l0_3 x5_2) = (rdOf false l1_3 x5_2)) := by simpa using c31))
          clear c31
          obtain rfl := Option.some.inj H
          have hnb32 := NB428_429.out
          have hnc32 := NB429_428.out
          have hcz33_0 : wr.cell? ⟨gb428, 0, none⟩ = some (.int .i64 a0_0) := (zq4 BK428.out 0).trans rfl
          have hcz33_1 : wr.cell? ⟨gb428, 1, none⟩ = some (.slice A0_1 l0_1.length c0_1) := (zq4 BK428.out 1).trans rfl
          have hcz33_2 : wr.cell? ⟨gb428, 2, none⟩ = some (.slice A0_2 l0_2.length c0_2) := (zq4 BK428.out 2).trans rfl
          have hcz33_3 : wr.cell? ⟨gb428, 3, none⟩ = some (.slice A0_3 l0_3.length c0_3) := (zq4 BK428.out 3).trans rfl
          have hcz33_4 : wr.cell? ⟨gb428, 4, none⟩ = some (.slice A0_4 l0_4.length c0_4) := (zq4 BK428.out 4).trans rfl
          have hfz33_0 := zq5 BK428.out 0
          have hfz33_1 := zq5 BK428.out 1
          have hfz33_2 := zq5 BK428.out 2
          have hfz33_3 := zq5 BK428.out 3
          have hfz33_4 := zq5 BK428.out 4
          have p432 : 0 ≤ (x5_2 : Int) := of_decide_eq_true (by first | (with_reducible assumption) | assumption)
          have q432 : x5_2 < (l0_3.length : Int) := of_decide_eq_true (by first | (with_reducible assumption) | assumption)
          obtain ⟨ad432, e432, hx432_0⟩ := Kd.at_bool HR0_3.out x5_2 p432 q432
          cases e432
          replace hx432_0 := (HB.out.cell (World.block_lt_of_cell? w _ hx432_0)).trans hx432_0
          replace p432 := eq_true p432
          replace q432 := eq_true q432
          have hcz34_0 : wr.cell? ⟨gb429, 0, none⟩ = some (.int .i64 a1_0) := (zq4 BK429.out 0).trans rfl
          have hcz34_1 : wr.cell? ⟨gb429, 1, none⟩ = some (.slice A1_1 l1_1.length c1_1) := (zq4 BK429.out 1).trans rfl
          have hcz34_2 : wr.cell? ⟨gb429, 2, none⟩ = some (.slice A1_2 l1_2.length c1_2) := (zq4 BK429.out 2).trans rfl
          have hcz34_3 : wr.cell? ⟨gb429, 3, none⟩ = some (.slice A1_3 l1_3.length c1_3) := (zq4 BK429.out 3).trans rfl
          have hcz34_4 : wr.cell? ⟨gb429, 4, none⟩ = some (.slice A1_4 l1_4.length c1_4) := (zq4 BK429.out 4).trans rfl
          have hfz34_0 := zq5 BK429.out 0
          have hfz34_1 := zq5 BK429.out 1
          have hfz34_2 := zq5 BK429.out 2
          have hfz34_3 := zq5 BK429.out 3
          have hfz34_4 := zq5 BK429.out 4
          have p433 : 0 ≤ (x5_2 : Int) := of_decide_eq_true (by first | (with_reducible assumption) | assumption)
          have q433 : x5_2 < (l1_3.length : Int) := of_decide_eq_true (by first | (with_reducible assumption) | assumption)
          obtain ⟨ad433, e433, hx433_0⟩ := Kd.at_bool HR1_3.out x5_2 p433 q433
          cases e433
          replace hx433_0 := (HB.out.cell (World.block_lt_of_cell? w _ hx433_0)).trans hx433_0
          replace p433 := eq_true p433
          replace q433 := eq_true q433
          go_wp2
          repeat (go_quiet (fail); try go_wp2)
          go_ret
          exact ⟨by first | rfl | (simp [errW_none, errW_some] <;> rfl) | (simp [*, errW_none, errW_some] <;> rfl), by repeat (first | (with_reducible first | exact HB.out | apply zq2 | apply zq1 | apply zqd | refine zq3 ?_ GE428.out | refine zq3 ?_ GE429.out) | exact HB.out)⟩
         ·rw [if_neg c31] at H
          have c31b0 : ((rdOf false l0_3 x5_2) != (rdOf false l1_3 x5_2)) = false := by simpa using c31
          (try (have c31b1 : decide ((rdOf false l0_3 x5_2) = (rdOf false l1_3 x5_2)) = true := by simpa using c31))
          (try (have c31b2 : ((rdOf false l0_3 x5_2) == (rdOf false l1_3 x5_2)) = true := by simpa using c31))
          clear c31
          have H' := Az.mk H
          clear H
          have hnb35 := NB428_429.out
          have hnc35 := NB429_428.out
          have hcz36_0 : wr.cell? ⟨gb428, 0, none⟩ = some (.int .i64 a0_0) := (zq4 BK428.out 0).trans rfl
          have hcz36_1 : wr.cell? ⟨gb428, 1, none⟩ = some (.slice A0_1 l0_1.length c0_1) := (zq4 BK428.out 1).trans rfl
          have hcz36_2 : wr.cell? ⟨gb428, 2, none⟩ = some (.slice A0_2 l0_2.length c0_2) := (zq4 BK428.out 2).trans rfl
          have hcz36_3 : wr.cell? ⟨gb428, 3, none⟩ = some (.slice A0_3 l0_3.length c0_3) := (zq4 BK428.out 3).trans rfl
          have hcz36_4 : wr.cell? ⟨gb428, 4, none⟩ = some (.slice A0_4 l0_4.length c0_4) := (zq4 BK428.out 4).trans rfl
          have hfz36_0 := zq5 BK428.out 0
          have hfz36_1 := zq5 BK428.out 1
          have hfz36_2 := zq5 BK428.out 2
          have hfz36_3 := zq5 BK428.out 3
          have hfz36_4 := zq5 BK428.out 4
          have p432 : 0 ≤ (x5_2 : Int) := of_decide_eq_true (by first | (with_reducible assumption) | assumption)
          have q432 : x5_2 < (l0_3.length : Int) := of_decide_eq_true (by first | (with_reducible assumption) | assumption)
          obtain ⟨ad432, e432, hx432_0⟩ := Kd.at_bool HR0_3.out x5_2 p432 q432
          cases e432
          replace hx432_0 := (HB.out.cell (World.block_lt_of_cell? w _ hx432_0)).trans hx432_0
          replace p432 := eq_true p432
          replace q432 := eq_true q432
          have hcz37_0 : wr.cell? ⟨gb429, 0, none⟩ = some (.int .i64 a1_0) := (zq4 BK429.out 0).trans rfl
          have hcz37_1 : wr.cell? ⟨gb429, 1, none⟩ = some (.slice A1_1 l1_1.length c1_1) := (zq4 BK429.out 1).trans rfl
          have hcz37_2 : wr.cell? ⟨gb429, 2, none⟩ = some (.slice A1_2 l1_2.length c1_2) := (zq4 BK429.out 2).trans rfl
          have hcz37_3 : wr.cell? ⟨gb429, 3, none⟩ = some (.slice A1_3 l1_3.length c1_3) := (zq4 BK429.out 3).trans rfl
          have hcz37_4 : wr.cell? ⟨gb429, 4, none⟩ = some (.slice A1_4 l1_4.length c1_4) := (zq4 BK429.out 4).trans rfl
          have hfz37_0 := zq5 BK429.out 0
          have hfz37_1 := zq5 BK429.out 1
          have hfz37_2 := zq5 BK429.out 2
          have hfz37_3 := zq5 BK429.out 3
          have hfz37_4 := zq5 BK429.out 4
          have p433 : 0 ≤ (x5_2 : Int) := of_decide_eq_true (by first | (with_reducible assumption) | assumption)
          have q433 : x5_2 < (l1_3.length : Int) := of_decide_eq_true (by first | (with_reducible assumption) | assumption)
          obtain ⟨ad433, e433, hx433_0⟩ := Kd.at_bool HR1_3.out x5_2 p433 q433
          cases e433
          replace hx433_0 := (HB.out.cell (World.block_lt_of_cell? w _ hx433_0)).trans hx433_0
          replace p433 := eq_true p433
          replace q433 := eq_true q433
          go_wp2
          repeat (go_quiet (fail); try go_wp2)
          go_roundg k2
          case measure => have := HJ2.out; have := HK2.out; omega
          case rel => exact ⟨(wrap64 (x5_2 + 1)), (by first | rfl | (simp; done) | (simp [*]; done)), H', ⟨by have := HJ2.out; have := HK2.out; omega⟩, ⟨by (with_reducible repeat (first | refine zq6 ?_ _ | refine zq8 ?_ | refine zq7 ?_ _)); exact BK428.out⟩, ⟨by (with_reducible repeat (first | refine zq6 ?_ _ | refine zq8 ?_ | refine zq7 ?_ _)); exact BK429.out⟩, ⟨by repeat (first | (with_reducible first | exact HB.out | apply zq2 | apply zq1 | apply zqd | refine zq3 ?_ GE428.out | refine zq3 ?_ GE429.out) | exact HB.out)⟩⟩
        ·rw [if_neg c30] at H
         exact absurd H (by simp)
       ·rw [if_neg c29] at H
        exact absurd H (by simp)
      ·rw [if_neg c28] at H
       have c28b0 : decide (x5_2 < (l0_3.length : Int)) = false := decide_eq_false c28
       clear c28
       have H' := Az.mk H
       clear H
       have hnb38 := NB428_429.out
       have hnc38 := NB429_428.out
       have hcz39_0 : wr.cell? ⟨gb428, 0, none⟩ = some (.int .i64 a0_0) := (zq4 BK428.out 0).trans rfl
       have hcz39_1 : wr.cell? ⟨gb428, 1, none⟩ = some (.slice A0_1 l0_1.length c0_1) := (zq4 BK428.out 1).trans rfl
       have hcz39_2 : wr.cell? ⟨gb428, 2, none⟩ = some (.slice A0_2 l0_2.length c0_2) := (zq4 BK428.out 2).trans rfl
       have hcz39_3 : wr.cell? ⟨gb428, 3, none⟩ = some (.slice A0_3 l0_3.length c0_3) := (zq4 BK428.out 3).trans rfl
       have hcz39_4 : wr.cell? ⟨gb428, 4, none⟩ = some (.slice A0_4 l0_4.length c0_4) := (zq4 BK428.out 4).trans rfl
       have hfz39_0 := zq5 BK428.out 0
       have hfz39_1 := zq5 BK428.out 1
       have hfz39_2 := zq5 BK428.out 2
       have hfz39_3 := zq5 BK428.out 3
       have hfz39_4 := zq5 BK428.out 4
       go_wp2
       repeat (go_quiet (fail); try go_wp2)
       go_loopg [6] k2 (fun kq v6 w' => ∃ (x6_3 : Int), v6 = .int .i64 x6_3 ∧ Az (laws_lpaDisk.l1 kq x6_3 a0_0 l0_1 l0_2 l0_3 l0_4 a1_0 l1_1 l1_2 l1_3 l1_4 = some r) ∧ Az (kq ≤ k2) ∧ Az (w'.heap[gb428]? = some (.cells #[.int .i64 a0_0, (.slice A0_1 l0_1.length c0_1), (.slice A0_2 l0_2.length c0_2), (.slice A0_3 l0_3.length c0_3), (.slice A0_4 l0_4.length c0_4)] 28 (0, 0))) ∧ Az (w'.heap[gb429]? = some (.cells #[.int .i64 a1_0, (.slice A1_1 l1_1.length c1_1), (.slice A1_2 l1_2.length c1_2), (.slice A1_3 l1_3.length c1_3), (.slice A1_4 l1_4.length c1_4)] 28 (0, 0))) ∧ Az (Below w.heap.size w w'))
       case atStart => exact ⟨(0), (by first | rfl | (simp; done) | (simp [*]; done)), H', ⟨Nat.le_refl _⟩, ⟨by (with_reducible repeat (first | refine zq6 ?_ _ | refine zq8 ?_ | refine zq7 ?_ _)); exact BK428.out⟩, ⟨by (with_reducible repeat (first | refine zq6 ?_ _ | refine zq8 ?_ | refine zq7 ?_ _)); exact BK429.out⟩, ⟨by repeat (first | (with_reducible first | exact HB.out | apply zq2 | apply zq1 | apply zqd | refine zq3 ?_ GE428.out | refine zq3 ?_ GE429.out) | exact HB.out)⟩⟩
       case round =>
        clear H'
        try clear c1
        try clear c2
        try clear p2
        try clear c3
        try clear p4
        try clear q4
        try clear hx4
        try clear c6
        try clear c6b0
        try clear c6b1
        try clear p6
        try clear c8
        try clear c10
        try clear c11
        try clear c11b0
        try clear c11b1
        try clear c11b2
        try clear c12
        try clear c15
        try clear c18
        try clear c21
        try clear c24
        try clear c27
        try clear c28
        try clear c28b0
        try clear c29
        try clear c29b0
        try clear c30
        try clear c30b0
        try clear c31
        try clear c31b0
        try clear c31b1
        try clear c31b2
        try clear c32
        try clear c35
        try clear c38
        try clear hcz13_0
        try clear hcz13_1
        try clear hcz13_2
        try clear hcz13_3
        try clear hcz13_4
        try clear hcz14_0
        try clear hcz14_1
        try clear hcz14_2
        try clear hcz14_3
        try clear hcz14_4
        try clear hcz16_0
        try clear hcz16_1
        try clear hcz16_2
        try clear hcz16_3
        try clear hcz16_4
        try clear hcz17_0
        try clear hcz17_1
        try clear hcz17_2
        try clear hcz17_3
        try clear hcz17_4
        try clear hcz19_0
        try clear hcz19_1
        try clear hcz19_2
        try clear hcz19_3
        try clear hcz19_4
        try clear hcz20_0
        try clear hcz20_1
        try clear hcz20_2
        try clear hcz20_3
        try clear hcz20_4
        try clear hcz22_0
        try clear hcz22_1
        try clear hcz22_2
        try clear hcz22_3
        try clear hcz22_4
        try clear hcz23_0
        try clear hcz23_1
        try clear hcz23_2
        try clear hcz23_3
        try clear hcz23_4
        try clear hcz25_0
        try clear hcz25_1
        try clear hcz25_2
        try clear hcz25_3
        try clear hcz25_4
        try clear hcz26_0
        try clear hcz26_1
        try clear hcz26_2
        try clear hcz26_3
        try clear hcz26_4
        try clear hcz33_0
        try clear hcz33_1
        try clear hcz33_2
        try clear hcz33_3
        try clear hcz33_4
        try clear hcz34_0
        try clear hcz34_1
        try clear hcz34_2
        try clear hcz34_3
        try clear hcz34_4
        try clear hcz36_0
        try clear hcz36_1
        try clear hcz36_2
        try clear hcz36_3
        try clear hcz36_4
        try clear hcz37_0
        try clear hcz37_1
        try clear hcz37_2
        try clear hcz37_3
        try clear hcz37_4
        try clear hcz39_0
        try clear hcz39_1
        try clear hcz39_2
        try clear hcz39_3
        try clear hcz39_4
        try clear hfz13_0
        try clear hfz13_1
        try clear hfz13_2
        try clear hfz13_3
        try clear hfz13_4
        try clear hfz14_0
        try clear hfz14_1
        try clear hfz14_2
        try clear hfz14_3
        try clear hfz14_4
        try clear hfz16_0
        try clear hfz16_1
        try clear hfz16_2
        try clear hfz16_3
        try clear hfz16_4
        try clear hfz17_0
        try clear hfz17_1
        try clear hfz17_2
        try clear hfz17_3
        try clear hfz17_4
        try clear hfz19_0
        try clear hfz19_1
        try clear hfz19_2
        try clear hfz19_3
        try clear hfz19_4
        try clear hfz20_0
        try clear hfz20_1
        try clear hfz20_2
        try clear hfz20_3
        try clear hfz20_4
        try clear hfz22_0
        try clear hfz22_1
        try clear hfz22_2
        try clear hfz22_3
        try clear hfz22_4
        try clear hfz23_0
        try clear hfz23_1
        try clear hfz23_2
        try clear hfz23_3
        try clear hfz23_4
        try clear hfz25_0
        try clear hfz25_1
        try clear hfz25_2
        try clear hfz25_3
        try clear hfz25_4
        try clear hfz26_0
        try clear hfz26_1
        try clear hfz26_2
        try clear hfz26_3
        try clear hfz26_4
        try clear hfz33_0
        try clear hfz33_1
        try clear hfz33_2
        try clear hfz33_3
        try clear hfz33_4
        try clear hfz34_0
        try clear hfz34_1
        try clear hfz34_2
        try clear hfz34_3
        try clear hfz34_4
        try clear hfz36_0
        try clear hfz36_1
        try clear hfz36_2
        try clear hfz36_3
        try clear hfz36_4
        try clear hfz37_0
        try clear hfz37_1
        try clear hfz37_2
        try clear hfz37_3
        try clear hfz37_4
        try clear hfz39_0
        try clear hfz39_1
        try clear hfz39_2
        try clear hfz39_3
        try clear hfz39_4
        try clear hx432_0
        try clear hx433_0
        try clear p2
        try clear p432
        try clear p433
        try clear q432
        try clear q433
        obtain ⟨x6_3, rfl, HA, HK3, BK428, BK429, HB⟩ := hrel
        cases gk with
        | zero => exact absurd HA.out (by simp [laws_lpaDisk.l1])
        | succ k3 =>
         have H := HA.out
         clear HA
         simp only [laws_lpaDisk.l1] at H
         by_cases c40 : x6_3 < (l0_4.length : Int)
         ·rw [if_pos c40] at H
          have c40b0 : decide (x6_3 < (l0_4.length : Int)) = true := decide_eq_true c40
          clear c40
          by_cases c41 : 0 ≤ x6_3
          ·rw [if_pos c41] at H
           have c41b0 : decide (0 ≤ x6_3) = true := decide_eq_true c41
           clear c41
           by_cases c42 : x6_3 < (l1_4.length : Int)
           ·rw [if_pos c42] at H
            have c42b0 : decide (x6_3 < (l1_4.length : Int)) = true := decide_eq_true c42
            clear c42
            by_cases c43 : (!(((rd_T54 l0_4 x6_3).f0) == ((rd_T54 l1_4 x6_3).f0)) || (!(((rd_T54 l0_4 x6_3).f1) == ((rd_T54 l1_4 x6_3).f1)) || (!((((rd_T54 l0_4 x6_3).f2).toList) == (((rd_T54 l1_4 x6_3).f2).toList))))) = true
            ·rw [if_pos c43] at H
             have c43b0 : (!(((rd_T54 l0_4 x6_3).f0) == ((rd_T54 l1_4 x6_3).f0)) || (!(((rd_T54 l0_4 x6_3).f1) == ((rd_T54 l1_4 x6_3).f1)) || (!((((rd_T54 l0_4 x6_3).f2).toList) == (((rd_T54 l1_4 x6_3).f2).toList))))) = true := c43
             clear c43
             obtain rfl := Option.some.inj H
             have hnb44 := NB428_429.out
             have hnc44 := NB429_428.out
             have hcz45_0 : wr.cell? ⟨gb428, 0, none⟩ = some (.int .i64 a0_0) := (zq4 BK428.out 0).trans rfl
             have hcz45_1 : wr.cell? ⟨gb428, 1, none⟩ = some (.slice A0_1 l0_1.length c0_1) := (zq4 BK428.out 1).trans rfl
             have hcz45_2 : wr.cell? ⟨gb428, 2, none⟩ = some (.slice A0_2 l0_2.length c0_2) := (zq4 BK428.out 2).trans rfl
             have hcz45_3 : wr.cell? ⟨gb428, 3, none⟩ = some (.slice A0_3 l0_3.length c0_3) := (zq4 BK428.out 3).trans rfl
             have hcz45_4 : wr.cell? ⟨gb428, 4, none⟩ = some (.slice A0_4 l0_4.length c0_4) := (zq4 BK428.out 4).trans rfl
             have hfz45_0 := zq5 BK428.out 0
             have hfz45_1 := zq5 BK428.out 1
             have hfz45_2 := zq5 BK428.out 2
             have hfz45_3 := zq5 BK428.out 3
             have hfz45_4 := zq5 BK428.out 4
             have p434 : 0 ≤ (x6_3 : Int) := of_decide_eq_true (by first | (with_reducible assumption) | assumption)
             have q434 : x6_3 < (l0_4.length : Int) := of_decide_eq_true (by first | (with_reducible assumption) | assumption)
             obtain ⟨ad434, e434, hx434_0, hx434_1, hx434_2⟩ := at_T54 HR0_4.out x6_3 p434 q434
             cases e434
             replace hx434_0 := (HB.out.cell (World.block_lt_of_cell? w _ hx434_0)).trans hx434_0
             replace hx434_1 := (HB.out.cell (World.block_lt_of_cell? w _ hx434_1)).trans hx434_1
             replace hx434_2 := (HB.out.cell (World.block_lt_of_cell? w _ hx434_2)).trans hx434_2
             replace p434 := eq_true p434
             replace q434 := eq_true q434
             have hcz46_0 : wr.cell? ⟨gb429, 0, none⟩ = some (.int .i64 a1_0) := (zq4 BK429.out 0).trans rfl
             have hcz46_1 : wr.cell? ⟨gb429, 1, none⟩ = some (.slice A1_1 l1_1.length c1_1) := (zq4 BK429.out 1).trans rfl
             have hcz46_2 : wr.cell? ⟨gb429, 2, none⟩ = some (.slice A1_2 l1_2.length c1_2) := (zq4 BK429.out 2).trans rfl
             have hcz46_3 : wr.cell? ⟨gb429, 3, none⟩ = some (.slice A1_3 l1_3.length c1_3) := (zq4 BK429.out 3).trans rfl
             have hcz46_4 : wr.cell? ⟨gb429, 4, none⟩ = some (.slice A1_4 l1_4.length c1_4) := (zq4 BK429.out 4).trans rfl
             have hfz46_0 := zq5 BK429.out 0
             have hfz46_1 := zq5 BK429.out 1
             have hfz46_2 := zq5 BK429.out 2
             have hfz46_3 := zq5 BK429.out 3
             have hfz46_4 := zq5 BK429.out 4
             have p435 : 0 ≤ (x6_3 : Int) := of_decide_eq_true (by first | (with_reducible assumption) | assumption)
             have q435 : x6_3 < (l1_4.length : Int) := of_decide_eq_true (by first | (with_reducible assumption) | assumption)
             obtain ⟨ad435, e435, hx435_0, hx435_1, hx435_2⟩ := at_T54 HR1_4.out x6_3 p435 q435
             cases e435
             replace hx435_0 := (HB.out.cell (World.block_lt_of_cell? w _ hx435_0)).trans hx435_0
             replace hx435_1 := (HB.out.cell (World.block_lt_of_cell? w _ hx435_1)).trans hx435_1
             replace hx435_2 := (HB.out.cell (World.block_lt_of_cell? w _ hx435_2)).trans hx435_2
             replace p435 := eq_true p435
             replace q435 := eq_true q435
             go_wp2
             repeat (go_quiet (fail); try go_wp2)
             go_ret
             exact ⟨by first | rfl | (simp [errW_none, errW_some] <;> rfl) | (simp [*, errW_none, errW_some] <;> rfl), by repeat (first | (with_reducible first | exact HB.out | apply zq2 | apply zq1 | apply zqd | refine zq3 ?_ GE428.out | refine zq3 ?_ GE429.out) | exact HB.out)⟩
            ·rw [if_neg c43] at H
             have c43b0 : (!(((rd_T54 l0_4 x6_3).f0) == ((rd_T54 l1_4 x6_3).f0)) || (!(((rd_T54 l0_4 x6_3).f1) == ((rd_T54 l1_4 x6_3).f1)) || (!((((rd_T54 l0_4 x6_3).f2).toList) == (((rd_T54 l1_4 x6_3).f2).toList))))) = false := by simpa using c43
             clear c43
             have H' := Az.mk H
             clear H
             have hnb47 := NB428_429.out
             have hnc47 := NB429_428.out
             have hcz48_0 : wr.cell? ⟨gb428, 0, none⟩ = some (.int .i64 a0_0) := (zq4 BK428.out 0).trans rfl
             have hcz48_1 : wr.cell? ⟨gb428, 1, none⟩ = some (.slice A0_1 l0_1.length c0_1) := (zq4 BK428.out 1).trans rfl
             have hcz48_2 : wr.cell? ⟨gb428, 2, none⟩ = some (.slice A0_2 l0_2.length c0_2) := (zq4 BK428.out 2).trans rfl
             have hcz48_3 : wr.cell? ⟨gb428, 3, none⟩ = some (.slice A0_3 l0_3.length c0_3) := (zq4 BK428.out 3).trans rfl
             have hcz48_4 : wr.cell? ⟨gb428, 4, none⟩ = some (.slice A0_4 l0_4.length c0_4) := (zq4 BK428.out 4).trans rfl
             have hfz48_0 := zq5 BK428.out 0
             have hfz48_1 := zq5 BK428.out 1
             have hfz48_2 := zq5 BK428.out 2
             have hfz48_3 := zq5 BK428.out 3
             have hfz48_4 := zq5 BK428.out 4
             have p434 : 0 ≤ (x6_3 : Int) := of_decide_eq_true (by first | (with_reducible assumption) | assumption)
             have q434 : x6_3 < (l0_4.length : Int) := of_decide_eq_true (by first | (with_reducible assumption) | assumption)
             obtain ⟨ad434, e434, hx434_0, hx434_1, hx434_2⟩ := at_T54 HR0_4.out x6_3 p434 q434
             cases e434
             replace hx434_0 := (HB.out.cell (World.block_lt_of_cell? w _ hx434_0)).trans hx434_0
             replace hx434_1 := (HB.out.cell (World.block_lt_of_cell? w _ hx434_1)).trans hx434_1
             replace hx434_2 := (HB.out.cell (World.block_lt_of_cell? w _ hx434_2)).trans hx434_2
             replace p434 := eq_true p434
             replace q434 := eq_true q434
             have hcz49_0 : wr.cell? ⟨gb429, 0, none⟩ = some (.int .i64 a1_0) := (zq4 BK429.out 0).trans rfl
             have hcz49_1 : wr.cell? ⟨gb429, 1, none⟩ = some (.slice A1_1 l1_1.length c1_1) := (zq4 BK429.out 1).trans rfl
             have hcz49_2 : wr.cell? ⟨gb429, 2, none⟩ = some (.slice A1_2 l1_2.length c1_2) := (zq4 BK429.out 2).trans rfl
             have hcz49_3 : wr.cell? ⟨gb429, 3, none⟩ = some (.slice A1_3 l1_3.length c1_3) := (zq4 BK429.out 3).trans rfl
             have hcz49_4 : wr.cell? ⟨gb429, 4, none⟩ = some (.slice A1_4 l1_4.length c1_4) := (zq4 BK429.out 4).trans rfl
             have hfz49_0 := zq5 BK429.out 0
             have hfz49_1 := zq5 BK429.out 1
             have hfz49_2 := zq5 BK429.out 2
             have hfz49_3 := zq5 BK429.out 3
             have hfz49_4 := zq5 BK429.out 4
             have p435 : 0 ≤ (x6_3 : Int) := of_decide_eq_true (by first | (with_reducible assumption) | assumption)
             have q435 : x6_3 < (l1_4.length : Int) := of_decide_eq_true (by first | (with_reducible assumption) | assumption)
             obtain ⟨ad435, e435, hx435_0, hx435_1, hx435_2⟩ := at_T54 HR1_4.out x6_3 p435 q435
             cases e435
             replace hx435_0 := (HB.out.cell (World.block_lt_of_cell? w _ hx435_0)).trans hx435_0
             replace hx435_1 := (HB.out.cell (World.block_lt_of_cell? w _ hx435_1)).trans hx435_1
             replace hx435_2 := (HB.out.cell (World.block_lt_of_cell? w _ hx435_2)).trans hx435_2
             replace p435 := eq_true p435
             replace q435 := eq_true q435
             go_wp2
             repeat (go_quiet (fail); try go_wp2)
             go_roundg k3
             case measure => have := HJ2.out; have := HK2.out; have := HK3.out; omega
             case rel => exact ⟨(wrap64 (x6_3 + 1)), (by first | rfl | (simp; done) | (simp [*]; done)), H', ⟨by have := HJ2.out; have := HK2.out; have := HK3.out; omega⟩, ⟨by (with_reducible repeat (first | refine zq6 ?_ _ | refine zq8 ?_ | refine zq7 ?_ _)); exact BK428.out⟩, ⟨by (with_reducible repeat (first | refine zq6 ?_ _ | refine zq8 ?_ | refine zq7 ?_ _)); exact BK429.out⟩, ⟨by repeat (first | (with_reducible first | exact HB.out | apply zq2 | apply zq1 | apply zqd | refine zq3 ?_ GE428.out | refine zq3 ?_ GE429.out) | exact HB.out)⟩⟩
           ·rw [if_neg c42] at H
            exact absurd H (by simp)
          ·rw [if_neg c41] at H
           exact absurd H (by simp)
         ·rw [if_neg c40] at H
          have c40b0 : decide (x6_3 < (l0_4.length : Int)) = false := decide_eq_false c40
          clear c40
          obtain rfl := Option.some.inj H
          have hnb50 := NB428_429.out
          have hnc50 := NB429_428.out
          have hcz51_0 : wr.cell? ⟨gb428, 0, none⟩ = some (.int .i64 a0_0) := (zq4 BK428.out 0).trans rfl
          have hcz51_1 : wr.cell? ⟨gb428, 1, none⟩ = some (.slice A0_1 l0_1.length c0_1) := (zq4 BK428.out 1).trans rfl
          have hcz51_2 : wr.cell? ⟨gb428, 2, none⟩ = some (.slice A0_2 l0_2.length c0_2) := (zq4 BK428.out 2).trans rfl
          have hcz51_3 : wr.cell? ⟨gb428, 3, none⟩ = some (.slice A0_3 l0_3.length c0_3) := (zq4 BK428.out 3).trans rfl
          have hcz51_4 : wr.cell? ⟨gb428, 4, none⟩ = some (.slice A0_4 l0_4.length c0_4) := (zq4 BK428.out 4).trans rfl
          have hfz51_0 := zq5 BK428.out 0
          have hfz51_1 := zq5 BK428.out 1
          have hfz51_2 := zq5 BK428.out 2
          have hfz51_3 := zq5 BK428.out 3
          have hfz51_4 := zq5 BK428.out 4
          go_wp2
          repeat (go_quiet (fail); try go_wp2)
          go_ret
          exact ⟨by first | rfl | (simp [errW_none, errW_some] <;> rfl) | (simp [*, errW_none, errW_some] <;> rfl), by repeat (first | (with_reducible first | exact HB.out | apply zq2 | apply zq1 | apply zqd | refine zq3 ?_ GE428.out | refine zq3 ?_ GE429.out) | exact HB.out)⟩
end Go.Proofs.Ytkgpnloghmbmlaa.Print
namespace Go.Proofs.Ytkgpnloghmbmlaa.Print
open Go.RowKit Go.Proofs.YtkgpnloghmbmlaaW.PrintWords Go.Proofs.YtkgpnloghmbmlaaW.PrintLast Go.Proofs.YtkgpnloghmbmlaaW.PrintMore
attribute [local go_sem] max2_int min2_int max_two min_two max_three min_three max_four min_four   -- for this text's walks alone
set_option linter.unusedVariables false
set_option linter.unusedSimpArgs false
end Go.Proofs.Ytkgpnloghmbmlaa.Print
namespace Go.Proofs.Ytkgpnloghmbmlaa.Pure
open Go.RowKit Go.Proofs.Ytkgpnloghmbmlaa.Print Go.Proofs.YtkgpnloghmbmlaaW.PrintWords Go.Proofs.YtkgpnloghmbmlaaW.PrintLast
set_option linter.unusedSimpArgs false
theorem lpaTexts_l0 (l : List ByteArray) (hl : l.length ≤ 1048576) (d : Nat) : ∀ i : Nat, i + d = l.length → Ev (fun k => laws_lpaTexts.l0 k l l (i : Int)) true := by
  induction d with
  | zero =>
    intro i hi
    refine Ev.next ?_
    simp only [laws_lpaTexts.l0]
    exact Ev.neg (by omega) (Ev.ret rfl)
  | succ d ih =>
    intro i hi
    have e : wrap64 ((i : Int) + 1) = ((i + 1 : Nat) : Int) := by rw [wrap_ok (by omega)]; omega
    have hih := ih (i + 1) (by omega)
    refine Ev.next ?_
    simp only [laws_lpaTexts.l0, e]
    clear e
    exact Ev.pos (by omega) (Ev.pos (by omega) (Ev.pos (by omega) (Ev.pos trivial hih)))
theorem lpaTexts_ev (l : List ByteArray) (hl : l.length ≤ 1048576) : Ev (fun k => laws_lpaTexts.f k l l) true := by
  unfold laws_lpaTexts.f
  exact Ev.pos rfl (lpaTexts_l0 l hl _ 0 (Nat.zero_add _))
theorem lpaDisk_l1 {st : Int} {l1 l2 : List ByteArray} {l3 : List Bool} {l4 : List S54} (hl : l4.length ≤ 1048576) (d : Nat) : ∀ i : Nat, i + d = l4.length → Ev (fun k => laws_lpaDisk.l1 k (i : Int) st l1 l2 l3 l4 st l1 l2 l3 l4) true := by
  induction d with
  | zero =>
    intro i hi
    refine Ev.next ?_
    simp only [laws_lpaDisk.l1]
    exact Ev.neg (by omega) (Ev.ret rfl)
  | succ d ih =>
    intro i hi
    have e : wrap64 ((i : Int) + 1) = ((i + 1 : Nat) : Int) := by rw [wrap_ok (by omega)]; omega
    have hih := ih (i + 1) (by omega)
    refine Ev.next ?_
    simp only [laws_lpaDisk.l1, e]
    clear e
    exact Ev.pos (by omega) (Ev.pos (by omega) (Ev.pos (by omega) (Ev.neg (by simp) hih)))
theorem lpaDisk_l0 {st : Int} {l1 l2 : List ByteArray} {l3 : List Bool} {l4 : List S54} (h3 : l3.length ≤ 1048576) (hl : l4.length ≤ 1048576) (d : Nat) : ∀ i : Nat, i + d = l3.length → Ev (fun k => laws_lpaDisk.l0 k (i : Int) st l1 l2 l3 l4 st l1 l2 l3 l4) true := by
  induction d with
  | zero =>
    intro i hi
    refine Ev.next ?_
    simp only [laws_lpaDisk.l0]
    exact Ev.neg (by omega) (lpaDisk_l1 hl l4.length 0 (Nat.zero_add _))
  | succ d ih =>
    intro i hi
    have e : wrap64 ((i : Int) + 1) = ((i + 1 : Nat) : Int) := by rw [wrap_ok (by omega)]; omega
    have hih := ih (i + 1) (by omega)
    refine Ev.next ?_
    simp only [laws_lpaDisk.l0, e]
    clear e
    exact Ev.pos (by omega) (Ev.pos (by omega) (Ev.pos (by omega) (Ev.neg (by simp) hih)))
theorem lpaDisk_ev (st : Int) (l1 l2 : List ByteArray) (l3 : List Bool) (l4 : List S54) (h : Fits l1 l2 l3 l4.length) : Ev (fun k => laws_lpaDisk.f k st l1 l2 l3 l4 st l1 l2 l3 l4) true := by
  unfold laws_lpaDisk.f
  refine Ev.pos rfl (Ev.bind (lpaTexts_ev l1 h.h1) (Ev.pos rfl (Ev.bind (lpaTexts_ev l2 h.h2) (Ev.pos rfl (Ev.pos rfl (Ev.next ?_))))))
  simp only [laws_lpaDisk.j0]
  exact Ev.neg (by simp) (lpaDisk_l0 h.h3 h.h4 l3.length 0 (Nat.zero_add _))
abbrev e12 : List ByteArray := List.replicate 12 (⟨#[]⟩ : ByteArray)
abbrev e2 : List ByteArray := List.replicate 2 (⟨#[]⟩ : ByteArray)
abbrev f12 : List Bool := List.replicate 12 false
theorem newGood {st : Int} (h : 0 ≤ st ∧ st ≤ 2) : Print.Good st e12 e2 f12 [] := by
  refine ⟨⟨h, by simp, by simp, by simp, by simp⟩, rfl, fun i hi => ?_, by decide, fun _ => ⟨by decide, by decide, rfl⟩⟩
  have : ∀ i, i < 12 → badSlot (e12.getD i ByteArray.empty) (f12.getD i false) = false := by decide
  exact this i hi
end Go.Proofs.Ytkgpnloghmbmlaa.Pure
namespace Go.Proofs.Ytkgpnloghmbmlaa.Hd
open Go.RowKit Go.Proofs.Ytkgpnloghmbmlaa.Print Go.Proofs.YtkgpnloghmbmlaaW.PrintWords Go.Proofs.YtkgpnloghmbmlaaW.PrintLast Go.Proofs.Ytkgpnloghmbmlaa.Pure
set_option linter.unusedVariables false
structure Mid (sp : List Bool) (sl rg : List ByteArray) : Prop where
  n1 : sl.length = 12
  n2 : rg.length = 2
  n3 : sp.length = 12
  so : ∀ i, i < 12 → badSlot (sl.getD i ByteArray.empty) (sp.getD i false) = false
  ro : ∀ x ∈ rg, x.size ≤ 700
theorem getD_set {α : Type} (l : List α) (i j : Nat) (x z : α) (hi : i < l.length) : (l.set i x).getD j z = if i = j then x else l.getD j z := by
  simp only [List.getD, List.getElem?_set]
  by_cases h : i = j
  · subst h
    simp [hi]
  · simp [h]
theorem mid_come {sp : List Bool} {sl rg : List ByteArray} {p : S54} (h : Mid sp sl rg) (hp : putB p = true) : Mid (comeSp p sp) (comeSl p sl) (comeRg p rg) := by
  unfold putB at hp
  by_cases h0 : p.f0 = true
  · rw [if_pos h0] at hp
    have hp := of_decide_eq_true hp
    simp only [comeSp, comeSl, comeRg, if_pos h0]
    exact ⟨h.n1, by rw [List.length_set]; exact h.n2, h.n3, h.so, fun x hx => by
      rcases List.mem_or_eq_of_mem_set hx with hx | rfl
      · exact h.ro x hx
      · exact hp.2.2⟩
  · rw [if_neg h0] at hp
    have hp := of_decide_eq_true hp
    simp only [comeSp, comeSl, comeRg, if_neg h0]
    refine ⟨by rw [List.length_set]; exact h.n1, h.n2, by rw [List.length_set]; exact h.n3, fun i hi => ?_, h.ro⟩
    rw [getD_set _ _ _ _ _ (by rw [h.n1]; omega), getD_set _ _ _ _ _ (by rw [h.n3]; omega)]
    by_cases hh : p.f1.toNat = i
    · rw [if_pos hh, if_pos hh]
      unfold badSlot
      rw [if_neg (by omega)]
      simp [hp.2.2]
    · rw [if_neg hh, if_neg hh]
      exact h.so i hi
theorem mid_all : ∀ (ps : List S54) (sp : List Bool) (sl rg : List ByteArray), Mid sp sl rg → (∀ p ∈ ps, putB p = true) → Mid (comeAll ps (sp, sl, rg)).1 (comeAll ps (sp, sl, rg)).2.1 (comeAll ps (sp, sl, rg)).2.2
  | [], _, _, _, h, _ => h
  | p :: ps, sp, sl, rg, h, hp => mid_all ps _ _ _ (mid_come h (hp p List.mem_cons_self)) fun q hq => hp q (List.mem_cons_of_mem _ hq)
theorem good_mid {D : Dd} (h : GoodD D) : Mid D.l3 D.l1 D.l2 := ⟨h.sh.2.1, h.sh.2.2.1, h.sh.2.2.2.1, h.so, fun x hx => by
  have := List.any_eq_false.1 h.ro x hx
  have h2 : ¬ ((x.size : Int) > 700) := by simpa using this
  omega⟩
theorem good_of {st : Int} {l1 l2 : List ByteArray} {l3 : List Bool} {l4 : List S54} (h : Mid l3 l1 l2) (hs : 0 ≤ st ∧ st ≤ 2) (h4 : l4.length ≤ 40) (hp : ∀ p ∈ l4, putB p = true) (h1 : st ≠ 1) : GoodD ⟨st, l1, l2, l3, l4⟩ :=
  ⟨⟨hs, h.n1, h.n2, h.n3, h4⟩, List.any_eq_false.2 fun x hx => by simp [hp x hx], h.so, List.any_eq_false.2 fun x hx => by
    have := h.ro x hx
    simp
    omega, fun e => absurd e h1⟩
theorem come_gone {D : Dd} (h : GoodD D) (h1 : D.st = 1) : comeD D = D := by
  have h4 : D.l4 = [] := List.eq_nil_of_length_eq_zero (h.go h1).2.2
  obtain ⟨st, l1, l2, l3, l4⟩ := D
  simp only at h4
  subst h4
  rfl
theorem good_come {D : Dd} (h : GoodD D) : GoodD (comeD D) := by
  by_cases h1 : D.st = 1
  · rw [come_gone h h1]
    exact h
  · exact good_of (mid_all _ _ _ _ (good_mid h) (good_put h)) h.sh.1 (by simp) (fun p hp => by cases hp) h1
theorem good_laid {D : Dd} {p : S54} (h : GoodD D) (hp : putB p = true) : GoodD (laidD D p) := by
  unfold laidD
  by_cases h1 : D.st = 1
  · rw [if_pos h1]
    exact h
  · rw [if_neg h1]
    by_cases h2 : D.l4.length = 40
    · rw [if_pos h2]
      exact good_of (good_mid (good_come h)) h.sh.1 (by simp) (fun q hq => by
        obtain rfl : q = p := by simpa using hq
        exact hp) h1
    · rw [if_neg h2]
      exact good_of (good_mid h) h.sh.1 (by
        have := h.sh.2.2.2.2
        rw [List.length_append, List.length_singleton]
        omega) (fun q hq => by
        rcases List.mem_append.1 hq with hq | hq
        · exact good_put h q hq
        · obtain rfl : q = p := by simpa using hq
          exact hp) h1
theorem size_strOfNums' (l : List Int) : (strOfNums l).size = l.length := by
  unfold strOfNums ByteArray.size
  simp
theorem turned_size (s : ByteArray) (b : Nat) (c : Int) : (turned s b c).size = s.size := by
  unfold turned
  rw [size_strOfNums', List.length_set]
  simp [bytesOf]
theorem good_spoil {D : Dd} {a b : Nat} {c : Int} (h : GoodD D) (ha : a < 12) : GoodD (spoilD D a b c) := by
  unfold spoilD
  by_cases hz : (D.l1.getD a ByteArray.empty).size = 0 ∨ D.l3.getD a false = true
  · rw [if_pos hz]
    exact h
  · rw [if_neg hz]
    have hso := (slot_good h ha).resolve_left fun hh => hz (.inl hh.1)
    have hm := good_mid h
    by_cases h1 : D.st = 1
    · exfalso
      have := (h.go h1).1
      rw [List.all_eq_true] at this
      have h2 := this (D.l1.getD a ByteArray.empty) (by
        have hl : a < D.l1.length := by rw [hm.n1]; exact ha
        simp [List.getD, hl])
      have h2 : (D.l1.getD a ByteArray.empty).size = 0 := by simpa using h2
      omega
    · refine good_of ⟨by rw [List.length_set]; exact hm.n1, hm.n2, by rw [List.length_set]; exact hm.n3, fun i hi => ?_, hm.ro⟩ h.sh.1 h.sh.2.2.2.2 (good_put h) h1
      rw [getD_set _ _ _ _ _ (by rw [hm.n1]; omega), getD_set _ _ _ _ _ (by rw [hm.n3]; omega)]
      by_cases hh : a = i
      · rw [if_pos hh, if_pos hh]
        unfold badSlot
        rw [turned_size, if_neg (by omega), hso]
        rfl
      · rw [if_neg hh, if_neg hh]
        exact hm.so i hi
def newD (st : Int) : Dd := ⟨st, e12, e2, f12, []⟩
theorem good_new {st : Int} (h : 0 ≤ st ∧ st ≤ 2) : GoodD (newD st) := newGood h
end Go.Proofs.Ytkgpnloghmbmlaa.Hd
namespace Go.Proofs.Ytkgpnloghmbmlaa.Print
open Go.RowKit Go.Proofs.YtkgpnloghmbmlaaW.PrintWords Go.Proofs.YtkgpnloghmbmlaaW.PrintLast Go.Proofs.YtkgpnloghmbmlaaW.PrintMore
attribute [local go_sem] max2_int min2_int max_two min_two max_three min_three max_four min_four   -- for this text's walks alone
set_option linter.unusedVariables false
set_option linter.unusedSimpArgs false
def spec_l71Text.l0 : Nat → List Int → Int → List Int → Int → Option (ByteArray × Int)
 | 0, _, _, _, _ => none
 | k + 1, x5, x6, x1000, x1001 => if x6 > 0 then ((some (([97, 98, 122, 0, 255, 128] : List Int) : List Int)).bind fun y831 => ((spec_l6Rd_pick.f k x1000 x1001 6).bind fun bt834 => (if 0 ≤ bt834.1 then (if bt834.1 < (y831.length : Int) then ((spec_l6Rd_pick.f k x1000 bt834.2 3).bind fun bt837 => (if x5.length < 140737488355328 then (spec_l71Text.l0 k (x5 ++ [((rd y831 bt834.1) + ((bt837.1) % 256)) % 256]) (wrap64 (x6 - 1)) x1000 bt837.2) else (none))) else (none)) else (none)))) else (some (strOfNums x5, x1001))
def spec_l71Text.f (k : Nat) (s0_0 : List Int) (s0_1 : Int) (a1 : Int) : Option (ByteArray × Int) := (spec_l6Rd_pick.f k s0_0 s0_1 (wrap64 (a1 + 1))).bind fun bt829 => (spec_l71Text.l0 k (([] : List Int)) bt829.1 s0_0 bt829.2)
def spec_l71Text.T5 : Bool × List (List Nat × List Nat) := (true, [([], []), ([], []), ([], []), ([2], [2]), ([1, 3], [1, 3]), ([4], [4]), ([], []), ([6, 3], [6]), ([7], [7]), ([5, 8], [5, 8]), ([9], [9]), ([0, 10, 7], [0, 10]), ([11, 11, 0, 1, 2, 3, 4, 5, 6, 7, 8, 9, 10, 11], [0, 11])])
def spec_l71Text.B5 : List Nat := [0, 0, 0, 4, 14, 30, 0, 76, 204, 510, 1022, 2047, 4095]
theorem spec_l71Text.tab5 : rtab .any (opsOf Try.f102 5) = spec_l71Text.T5 := by kernel_rfl
theorem spec_l71Text.bits5 : waitsOk spec_l71Text.T5.2 spec_l71Text.B5 = true := by kernel_rfl
set_option maxHeartbeats 8000000 in
set_option maxRecDepth 100000 in
theorem spec_l71Text.calls (k : Nat) (g : Nat) (s0_0 : List Int) (s0_1 : Int) (a1 : Int) (r1 : ByteArray) (r2 : Int) (w0 w : World) (hI : IsS104 w0 w g s0_0 s0_1) (hB : Below w0.heap.size w0 w) (h : spec_l71Text.f k s0_0 s0_1 a1 = some (r1, r2)) :
  Calls Try.prog 102 #[.pointer (some ⟨g, 0, none⟩), .int .i64 a1] w fun e w' => e = .returned (.string r1) ∧ IsS104 w0 w' g s0_0 r2 ∧ Below w0.heap.size w0 w' ∧ KeepBut w w' g none := by
 have HI0 := Az.mk hI
 have HK := Az.mk (KeepBut.refl w g none)
 have HL := Az.mk hB.size
 clear hI
 have HW0 := Az.mk hB.size
 have HB := Az.mk hB
 clear hB
 have H : ((spec_l6Rd_pick.f k s0_0 s0_1 (wrap64 (a1 + 1))).bind fun bt829 => (spec_l71Text.l0 k (([] : List Int)) bt829.1 s0_0 bt829.2)) = some (r1, r2) := h
 clear h
 obtain ⟨y826, hy826⟩ : ∃ y_ : List Int, y_ = (([] : List Int)) := ⟨_, rfl⟩
 replace H : ((spec_l6Rd_pick.f k s0_0 s0_1 (wrap64 (a1 + 1))).bind fun bt829 => (spec_l71Text.l0 k y826 bt829.1 s0_0 bt829.2)) = some (r1, r2) := by first | (rw [hy826]; with_reducible exact H) | (have H2_ := (Option.bind_some _ _).symm.trans H; rw [hy826]; with_reducible exact H2_) | (have H2_ := (Option.bind_some _ _).symm.trans H; with_reducible exact H2_) | with_reducible exact H | (rw [hy826]; exact H) | exact H
 have Ny826 := Az.mk hy826
 clear hy826
 replace H := Option.bind_eq_some_iff.mp H
 obtain ⟨⟨t829, t830⟩, A30, H⟩ := H
 replace H : (spec_l71Text.l0 k y826 t829 s0_0 t830) = some (r1, r2) := H
 have A3 := Az.mk A30
 clear A30
 have H' := Az.mk H
 clear H
 go_enter Try.func102, Try.ntmps102
 go_wp2_with (first | ((with_reducible refine zqg (N := 7) rfl ?_); refine Kd.R_lit (Kd.int .u8) _ 5 ?hg (N := 7) ?hd (xs := ([] : List Int)) (inner := []) (ok := fun _ => True) (okp := fun _ => True) ?hr ?hp (fun _ hk => hk) trivial (Below.refl _ _) (Nat.le_refl _) (by simp) ?_; (case hd => rfl); (case hg => rfl); (case hr => first | (go_simp; done) | (go_simp; rfl)); (case hp => exact (Reps.none _ _)); intro v827 w4 ho5 hb hg_ hnew_; clear hg_ hnew_; (first | rw [← Ny826.out] at ho5 | (simp only [Int.reduceToNat] at ho5; rw [← Ny826.out] at ho5)); have n0_ := Az.mk (Kd.R_lower ho5 (keep_size (w := w) (g := g) (row := none) (by repeat (first | (with_reducible first | exact HK.out | apply KeepBut.set_ | apply keep_drewN | apply keep_drew | apply keep_alloc) | exact HK.out)))); have n1_ := Az.mk (IsS104.below (by repeat (first | (with_reducible first | exact HI0.out | apply IsS104.alloc | apply IsS104.drewN | apply IsS104.drew | apply IsS104.set_1) | exact HI0.out)) hb); have n2_ := Az.mk (KeepBut.trans (by repeat (first | (with_reducible first | exact HK.out | apply KeepBut.set_ | apply keep_drewN | apply keep_drew | apply keep_alloc) | exact HK.out)) (KeepBut.of_below hb g none) (.inl rfl)); have n3_ := Az.mk (below_step (by repeat (first | (with_reducible first | exact HB.out | apply zq2 | apply zq1 | apply zqd | refine zq3 ?_ (IsS104.ge HI0.out)) | exact HB.out)) hb); clear HI0; clear HK; clear HB; have HO828 := n0_; have HI0 := n1_; have HK := n2_; have HB := n3_; clear n0_ n1_ n2_ n3_; clear hb ho5) | ((with_reducible refine gate_callee (f := 48) rfl ?_); refine zq9 (some 11) rfl rfl Try.func48 (by kernel_rfl) rfl #[.pointer (some ⟨g, 0, none⟩), .int .i64 (wrap64 (a1 + 1))] rfl (by (try simp only [List.map_toArray, List.map_cons, List.map_nil]); first | done | rfl | (simp only [List.length_drop, List.length_take]; rfl)) ?_; (with_reducible refine (spec_l6Rd_pick.calls k g s0_0 s0_1 (wrap64 (a1 + 1)) t829 t830 w0 _ ?side1 ?side2 A3.out).mono ?_); (case side1 => repeat (first | (with_reducible first | exact HI0.out | apply IsS104.alloc | apply IsS104.drewN | apply IsS104.drew | apply IsS104.set_1) | exact HI0.out)); (case side2 => repeat (first | (with_reducible first | exact HB.out | apply zq2 | apply zq1 | apply zqd | refine zq3 ?_ (IsS104.ge HI0.out)) | exact HB.out)); rintro e w6 ⟨rfl, hi, hb, hk⟩; refine ⟨_, rfl, ?_⟩; have n0_ := Az.mk (Kd.R_mono (Kd.R_keep (IsS104.apart (show IsS104 w0 _ g s0_0 s0_1 from by repeat (first | (with_reducible first | exact HI0.out | apply IsS104.alloc | apply IsS104.drewN | apply IsS104.drew | apply IsS104.set_1) | exact HI0.out)) (by (with_reducible repeat (first | apply Kd.R_alloc | apply Kd.R_drewN | apply Kd.R_drew)); exact HO828.out) (by decide)) hk (fun _ h => h.2)) (fun _ h => h.1)); have n1_ := Az.mk (KeepBut.trans (by repeat (first | (with_reducible first | exact HK.out | apply KeepBut.set_ | apply keep_drewN | apply keep_drew | apply keep_alloc) | exact HK.out)) hk (.inl rfl)); have n2_ := Az.mk (hb); have n3_ := Az.mk (hi); clear HO828; clear HK; clear HB; clear HI0; have HO828 := n0_; have HK := n1_; have HB := n2_; have HI0 := n3_; clear n0_ n1_ n2_ n3_; (try clear hb); (try clear hb2); (try clear hk); (try clear hi)))
 go_loopg [5, 6] k (fun kq v5 v6 w' => ∃ (x5_1 : List Int) (x6_1 : Int) (x1001_1 : Int), v6 = .int .i64 x6_1 ∧ Az (spec_l71Text.l0 kq x5_1 x6_1 s0_0 x1001_1 = some (r1, r2)) ∧ Az (kq ≤ k) ∧ Az (Kd.R (Kd.int .u8) 5 w' w.heap.size (fun _ => True) v5 x5_1) ∧ Az (IsS104 w0 w' g s0_0 x1001_1) ∧ Az (KeepBut w w' g none) ∧ Az (Below w0.heap.size w0 w'))
 case atStart => exact ⟨(y826), (t829), (t830), (by first | rfl | (simp; done) | (simp [*]; done)), H', ⟨Nat.le_refl _⟩, ⟨by (with_reducible repeat (first | apply Kd.R_alloc | apply Kd.R_drewN | apply Kd.R_drew)); exact HO828.out⟩, ⟨by repeat (first | (with_reducible first | exact HI0.out | apply IsS104.alloc | apply IsS104.drewN | apply IsS104.drew | apply IsS104.set_1) | exact HI0.out)⟩, ⟨by repeat (first | (with_reducible first | exact HK.out | apply KeepBut.set_ | apply keep_drewN | apply keep_drew | apply keep_alloc) | exact HK.out)⟩, ⟨by repeat (first | (with_reducible first | exact HB.out | apply zq2 | apply zq1 | apply zqd | refine zq3 ?_ (IsS104.ge HI0.out)) | exact HB.out)⟩⟩
 case round =>
  clear H'
  try clear c1
  try clear p2
  try clear c4
  try clear p6
  obtain ⟨x5_1, x6_1, x1001_1, rfl, HA, HK1, HO_5, HI0, HK, HB⟩ := hrel
  cases gk with
  | zero => exact absurd HA.out (by simp [spec_l71Text.l0])
  | succ k1 =>
   have H := HA.out
   clear HA
   simp only [spec_l71Text.l0] at H
   by_cases c7 : x6_1 > 0
   ·rw [if_pos c7] at H
    have c7b0 : decide (0 < x6_1) = true := decide_eq_true c7
    clear c7
    obtain ⟨y831, hy831⟩ : ∃ y_ : List Int, y_ = (([97, 98, 122, 0, 255, 128] : List Int)) := ⟨_, rfl⟩
    replace H : ((spec_l6Rd_pick.f k1 s0_0 x1001_1 6).bind fun bt834 => (if 0 ≤ bt834.1 then (if bt834.1 < (y831.length : Int) then ((spec_l6Rd_pick.f k1 s0_0 bt834.2 3).bind fun bt837 => (if x5_1.length < 140737488355328 then (spec_l71Text.l0 k1 (x5_1 ++ [((rd y831 bt834.1) + ((bt837.1) % 256)) % 256]) (wrap64 (x6_1 - 1)) s0_0 bt837.2) else (none))) else (none)) else (none))) = some (r1, r2) := by first | (rw [hy831]; with_reducible exact H) | (have H2_ := (Option.bind_some _ _).symm.trans H; rw [hy831]; with_reducible exact H2_) | (have H2_ := (Option.bind_some _ _).symm.trans H; with_reducible exact H2_) | with_reducible exact H | (rw [hy831]; exact H) | exact H
    have Ny831 := Az.mk hy831
    clear hy831
    replace H := Option.bind_eq_some_iff.mp H
    obtain ⟨⟨t834, t835⟩, A80, H⟩ := H
    replace H : (if 0 ≤ t834 then (if t834 < (y831.length : Int) then ((spec_l6Rd_pick.f k1 s0_0 t835 3).bind fun bt837 => (if x5_1.length < 140737488355328 then (spec_l71Text.l0 k1 (x5_1 ++ [((rd y831 t834) + ((bt837.1) % 256)) % 256]) (wrap64 (x6_1 - 1)) s0_0 bt837.2) else (none))) else (none)) else (none)) = some (r1, r2) := H
    have A8 := Az.mk A80
    clear A80
    by_cases c9 : 0 ≤ t834
    ·rw [if_pos c9] at H
     have c9b0 : decide (0 ≤ t834) = true := decide_eq_true c9
     clear c9
     by_cases c10 : t834 < (y831.length : Int)
     ·rw [if_pos c10] at H
      have c10b0 : decide (t834 < (y831.length : Int)) = true := decide_eq_true c10
      clear c10
      replace H := Option.bind_eq_some_iff.mp H
      obtain ⟨⟨t837, t838⟩, A110, H⟩ := H
      replace H : (if x5_1.length < 140737488355328 then (spec_l71Text.l0 k1 (x5_1 ++ [((rd y831 t834) + ((t837) % 256)) % 256]) (wrap64 (x6_1 - 1)) s0_0 t838) else (none)) = some (r1, r2) := H
      have A11 := Az.mk A110
      clear A110
      by_cases c12 : x5_1.length < 140737488355328
      ·rw [if_pos c12] at H
       have LMc12 := Az.mk c12
       clear c12
       obtain ⟨y839, hy839⟩ : ∃ y_ : List Int, y_ = (x5_1 ++ [((rd y831 t834) + ((t837) % 256)) % 256]) := ⟨_, rfl⟩
       replace H : (spec_l71Text.l0 k1 y839 (wrap64 (x6_1 - 1)) s0_0 t838) = some (r1, r2) := by first | (rw [hy839]; with_reducible exact H) | (have H2_ := (Option.bind_some _ _).symm.trans H; rw [hy839]; with_reducible exact H2_) | (have H2_ := (Option.bind_some _ _).symm.trans H; with_reducible exact H2_) | with_reducible exact H | (rw [hy839]; exact H) | exact H
       have Ny839 := Az.mk hy839
       clear hy839
       have H' := Az.mk H
       clear H
       obtain ⟨Ao13, co13, eo13⟩ := Kd.R_slice HO_5.out
       subst eo13
       try go_wp2
       have pi836 : (0 ≤ (t834 : Int)) = True := eq_true (of_decide_eq_true (by first | (with_reducible assumption) | assumption))
       have qi836 : (t834 < (y831.length : Int)) = True := eq_true (of_decide_eq_true (by first | (with_reducible assumption) | assumption))
       have n0_ := Az.mk (Kd.R_drew HO_5.out)
       have n1_ := Az.mk (IsS104.drew HI0.out)
       have n2_ := Az.mk (keep_drew HK.out)
       have n3_ := Az.mk (zqd HB.out)
       clear HO_5
       clear HI0
       clear HK
       clear HB
       have HO_5 := n0_
       have HI0 := n1_
       have HK := n2_
       have HB := n3_
       clear n0_ n1_ n2_ n3_
       refine start_ (n := 13) (S := fun w' => True) (ds := []) #[false, false, false, false, false, false, false, false, false, false, false, false, false] (by kernel_rfl) rfl rfl trivial (fun hHeld => ?_); refine with_tabW spec_l71Text.tab5 spec_l71Text.bits5 (fun HT_ HW_ => ?_)
       generalize wr.drew = w14 at HO_5 HI0 HK HB hHeld ⊢
       refine zqp (i := 0) (N := some 16) (v := ?_) (a' := ?_) #[true, false, false, false, false, false, false, false, false, false, false, false, false] rfl rfl (any_of HT_.out (by kernel_rfl)) (fun _ _ _ h => h) (Or.inl ⟨by rfl, ?_⟩) ?_ ?_
       rotate_left
       ·intro w'
        go_simp
        with_reducible rfl
       rotate_left
       ·simp only [Act.put, List.setIfInBounds_toArray, List.set_cons_zero, List.set_cons_succ, i64_w, i32_w]
        rfl
       refine zqp (i := 2) (N := some 18) (v := ?_) (a' := ?_) #[true, false, true, false, false, false, false, false, false, false, false, false, false] rfl rfl (any_of HT_.out (by kernel_rfl)) (fun _ _ _ h => h) (Or.inl ⟨by rfl, ?_⟩) ?_ ?_
       rotate_left
       ·intro w'
        go_simp
        with_reducible rfl
       rotate_left
       ·simp only [Act.put, List.setIfInBounds_toArray, List.set_cons_zero, List.set_cons_succ, i64_w, i32_w]
        rfl
       refine zqp (i := 6) (N := some 22) (v := ?_) (a' := ?_) #[true, false, true, false, false, false, true, false, false, false, false, false, false] rfl rfl (any_of HT_.out (by kernel_rfl)) (fun _ _ _ h => h) (Or.inl ⟨by rfl, ?_⟩) ?_ ?_
       rotate_left
       ·intro w'
        go_simp
        with_reducible rfl
       rotate_left
       ·simp only [Act.put, List.setIfInBounds_toArray, List.set_cons_zero, List.set_cons_succ, i64_w, i32_w]
        rfl
       refine join_ (σ := Value × Addr) 4 #[true, true, true, true, true, true, true, true, true, false, false, false, false] (fun s_ => [(17, s_.1), (19, .int .i64 t834), (21, .int .u8 (rd y831 t834)), (23, .int .i64 t837), (20, .pointer (some (s_.2.add (t834).toNat))), (24, .int .u8 ((t837) % 256))]) (fun s_ w' => (Kd.R (Kd.int .u8) 5 w' w.heap.size (fun k_ => some k_ ≠ (.slice Ao13 x5_1.length co13 : Value).ownBlock) s_.1 y831) ∧ (Kd.R (Kd.int .u8) 5 w' w.heap.size (fun k_ => some k_ ≠ (s_.1 : Value).ownBlock) (.slice Ao13 x5_1.length co13) x5_1) ∧ (∃ c_, (s_.1 : Value) = .slice (some s_.2) y831.length c_) ∧ (IsS104 w0 w' g s0_0 t838) ∧ (KeepBut w w' g none) ∧ (Below w0.heap.size w0 w')) ?_ ?_
       rotate_left
       ·intro hJ1_3_5_7
        refine join_ (σ := Value × Addr) 6 #[true, true, true, true, true, true, true, false, false, false, false, false, false] (fun s_ => [(17, s_.1), (19, .int .i64 t834), (21, .int .u8 (rd y831 t834)), (20, .pointer (some (s_.2.add (t834).toNat)))]) (fun s_ w' => (Kd.R (Kd.int .u8) 5 w' w.heap.size (fun k_ => some k_ ≠ (.slice Ao13 x5_1.length co13 : Value).ownBlock) s_.1 y831) ∧ (Kd.R (Kd.int .u8) 5 w' w.heap.size (fun k_ => some k_ ≠ (s_.1 : Value).ownBlock) (.slice Ao13 x5_1.length co13) x5_1) ∧ (∃ c_, (s_.1 : Value) = .slice (some s_.2) y831.length c_) ∧ (IsS104 w0 w' g s0_0 t835) ∧ (KeepBut w w' g none) ∧ (Below w0.heap.size w0 w')) ?_ ?_
        rotate_left
        ·intro hJ1_3_5
         refine join_ (σ := Value × Addr) 5 #[true, true, true, true, true, false, true, true, true, false, false, false, false] (fun s_ => [(17, s_.1), (19, .int .i64 t834), (23, .int .i64 t837), (20, .pointer (some (s_.2.add (t834).toNat))), (24, .int .u8 ((t837) % 256))]) (fun s_ w' => (Kd.R (Kd.int .u8) 5 w' w.heap.size (fun k_ => some k_ ≠ (.slice Ao13 x5_1.length co13 : Value).ownBlock) s_.1 y831) ∧ (Kd.R (Kd.int .u8) 5 w' w.heap.size (fun k_ => some k_ ≠ (s_.1 : Value).ownBlock) (.slice Ao13 x5_1.length co13) x5_1) ∧ (∃ c_, (s_.1 : Value) = .slice (some s_.2) y831.length c_) ∧ (IsS104 w0 w' g s0_0 t838) ∧ (KeepBut w w' g none) ∧ (Below w0.heap.size w0 w')) ?_ ?_
         rotate_left
         ·intro hJ1_3_7
          refine join_ (σ := Value × Addr) 7 #[true, true, true, true, true, false, true, false, false, false, false, false, false] (fun s_ => [(17, s_.1), (19, .int .i64 t834), (20, .pointer (some (s_.2.add (t834).toNat)))]) (fun s_ w' => (Kd.R (Kd.int .u8) 5 w' w.heap.size (fun k_ => some k_ ≠ (.slice Ao13 x5_1.length co13 : Value).ownBlock) s_.1 y831) ∧ (Kd.R (Kd.int .u8) 5 w' w.heap.size (fun k_ => some k_ ≠ (s_.1 : Value).ownBlock) (.slice Ao13 x5_1.length co13) x5_1) ∧ (∃ c_, (s_.1 : Value) = .slice (some s_.2) y831.length c_) ∧ (IsS104 w0 w' g s0_0 t835) ∧ (KeepBut w w' g none) ∧ (Below w0.heap.size w0 w')) ?_ ?_
          rotate_left
          ·intro hJ1_3
           refine join_ (σ := Unit) 7 #[true, false, true, true, false, false, true, true, true, false, false, false, false] (fun s_ => [(19, .int .i64 t834), (23, .int .i64 t837), (24, .int .u8 ((t837) % 256))]) (fun s_ w' => (Kd.R (Kd.int .u8) 5 w' w.heap.size (fun _ => True) (.slice Ao13 x5_1.length co13) x5_1) ∧ (IsS104 w0 w' g s0_0 t838) ∧ (KeepBut w w' g none) ∧ (Below w0.heap.size w0 w')) ?_ ?_
           rotate_left
           ·intro hJ3_7
            refine join_ (σ := Value × Addr) 9 #[true, true, true, false, false, false, true, false, false, false, false, false, false] (fun s_ => [(17, s_.1)]) (fun s_ w' => (Kd.R (Kd.int .u8) 5 w' w.heap.size (fun k_ => some k_ ≠ (.slice Ao13 x5_1.length co13 : Value).ownBlock) s_.1 y831) ∧ (Kd.R (Kd.int .u8) 5 w' w.heap.size (fun k_ => some k_ ≠ (s_.1 : Value).ownBlock) (.slice Ao13 x5_1.length co13) x5_1) ∧ (∃ c_, (s_.1 : Value) = .slice (some s_.2) y831.length c_) ∧ (IsS104 w0 w' g s0_0 x1001_1) ∧ (KeepBut w w' g none) ∧ (Below w0.heap.size w0 w')) ?_ ?_
            rotate_left
            ·intro hJ1
             refine join_ (σ := Unit) 9 #[true, false, true, true, false, false, true, false, false, false, false, false, false] (fun s_ => [(19, .int .i64 t834)]) (fun s_ w' => (Kd.R (Kd.int .u8) 5 w' w.heap.size (fun _ => True) (.slice Ao13 x5_1.length co13) x5_1) ∧ (IsS104 w0 w' g s0_0 t835) ∧ (KeepBut w w' g none) ∧ (Below w0.heap.size w0 w')) ?_ ?_
             rotate_left
             ·intro hJ3
              refine two_ (i := 1) (j := 3) (Ni := some 17) (Nj := some 19) #[true, true, true, false, false, false, true, false, false, false, false, false, false] #[true, false, true, true, false, false, true, false, false, false, false, false, false] rfl rfl rfl rfl (two_of HT_.out (by kernel_rfl)) (by decide) (by decide) (fun K hK => ?_) (fun K hK => ?_)
              ·skip
               refine Kd.R_lit_step (Kd.int .u8) _ 5 ?hg (N := 17) ?hd (xs := ([97, 98, 122, 0, 255, 128] : List Int)) (inner := [.int .u8 97, .int .u8 98, .int .u8 122, .int .u8 0, .int .u8 255, .int .u8 128]) (ok := fun _ => True) (okp := fun _ => True) ?hr ?hp (fun _ hk => hk) trivial (Below.refl _ _) (Nat.le_refl _) (by simp) ?_; (case hd => rfl); (case hg => rfl); (case hr => first | (go_simp; done) | (go_simp; rfl)); (case hp => exact (Reps.one (show Kd.M (Kd.int .u8) _ _ _ 97 [.int .u8 97] from rfl) (Reps.one (show Kd.M (Kd.int .u8) _ _ _ 98 [.int .u8 98] from rfl) (Reps.one (show Kd.M (Kd.int .u8) _ _ _ 122 [.int .u8 122] from rfl) (Reps.one (show Kd.M (Kd.int .u8) _ _ _ 0 [.int .u8 0] from rfl) (Reps.one (show Kd.M (Kd.int .u8) _ _ _ 255 [.int .u8 255] from rfl) (Reps.one (show Kd.M (Kd.int .u8) _ _ _ 128 [.int .u8 128] from rfl) (Reps.none _ _))))))))
               intro v832 w15 ho16 hb hg_ hnew_
               clear hg_ hnew_
               (first | rw [← Ny831.out] at ho16 | (simp only [Int.reduceToNat] at ho16; rw [← Ny831.out] at ho16))
               have n0_ := Az.mk (Kd.R_elder' (by (with_reducible repeat (first | apply Kd.R_alloc | apply Kd.R_drewN | apply Kd.R_drew)); exact HO_5.out) (Kd.R_base ho16) hb)
               have n1_ := Az.mk (Kd.R_lower (Kd.R_new' ho16 (Kd.R_lt (by (with_reducible repeat (first | apply Kd.R_alloc | apply Kd.R_drewN | apply Kd.R_drew)); exact HO_5.out))) (keep_size (w := w) (g := g) (row := none) (by repeat (first | (with_reducible first | exact HK.out | apply KeepBut.set_ | apply keep_drewN | apply keep_drew | apply keep_alloc) | exact HK.out))))
               have n2_ := Az.mk (IsS104.below (by repeat (first | (with_reducible first | exact HI0.out | apply IsS104.alloc | apply IsS104.drewN | apply IsS104.drew | apply IsS104.set_1) | exact HI0.out)) hb)
               have n3_ := Az.mk (KeepBut.trans (by repeat (first | (with_reducible first | exact HK.out | apply KeepBut.set_ | apply keep_drewN | apply keep_drew | apply keep_alloc) | exact HK.out)) (KeepBut.of_below hb g none) (.inl rfl))
               have n4_ := Az.mk (below_step (by repeat (first | (with_reducible first | exact HB.out | apply zq2 | apply zq1 | apply zqd | refine zq3 ?_ (IsS104.ge HI0.out)) | exact HB.out)) hb)
               clear HO_5
               clear HI0
               clear HK
               clear HB
               have HO_5 := n0_
               have HO833 := n1_
               have HI0 := n2_
               have HK := n3_
               have HB := n4_
               clear n0_ n1_ n2_ n3_ n4_
               clear hb ho16
               obtain ⟨Ao17, co17, eo17⟩ := Kd.R_slice HO833.out
               subst eo17
               obtain ⟨ado17, fo17, _⟩ := Kd.at_int (Kd.R_reads' HO833.out).2.2 0 (by decide) (by rw [Ny831.out]; simp)
               cases fo17
               refine hK.out _ _ trivial (fun hHeld => ?_)
               clear hK K
               refine norm_ (a' := ?_) ?_ ?_
               rotate_left
               ·show Act.put _ (some 17) _ = _
                simp only [Act.put, List.setIfInBounds_toArray, List.set_cons_zero, List.set_cons_succ, i64_w, i32_w]
                rfl
               exact norm_ (by first | (simp only [putAll, Act.put, List.setIfInBounds_toArray, List.set_cons_zero, List.set_cons_succ]; done) | (simp only [putAll, Act.put, List.setIfInBounds_toArray, List.set_cons_zero, List.set_cons_succ]; rfl)) (hJ1 (.slice (some ado17) y831.length co17, ado17) _ ⟨(by (with_reducible repeat (first | apply Kd.R_alloc | apply Kd.R_drewN | apply Kd.R_drew)); exact Kd.R_mono HO833.out (fun _ hk => hk.2)), (by (with_reducible repeat (first | apply Kd.R_alloc | apply Kd.R_drewN | apply Kd.R_drew)); exact Kd.R_mono HO_5.out (fun _ hk => hk.2)), ⟨_, rfl⟩, (by repeat (first | (with_reducible first | exact HI0.out | apply IsS104.alloc | apply IsS104.drewN | apply IsS104.drew | apply IsS104.set_1) | exact HI0.out)), (by repeat (first | (with_reducible first | exact HK.out | apply KeepBut.set_ | apply keep_drewN | apply keep_drew | apply keep_alloc) | exact HK.out)), (by repeat (first | (with_reducible first | exact HB.out | apply zq2 | apply zq1 | apply zqd | refine zq3 ?_ (IsS104.ge HI0.out)) | exact HB.out))⟩)
              ·skip
               refine goes_ Try.func48 (by kernel_rfl) rfl #[.pointer (some ⟨g, 0, none⟩), .int .i64 6] (by rfl) rfl rfl (by (try simp only [List.map_toArray, List.map_cons, List.map_nil]); first | done | rfl | (simp only [List.length_drop, List.length_take]; rfl)) ?_
               with_reducible refine (spec_l6Rd_pick.calls k1 g s0_0 x1001_1 6 t834 t835 w0 _ ?side1 ?side2 A8.out).mono ?_
               (case side1 => repeat (first | (with_reducible first | exact HI0.out | apply IsS104.alloc | apply IsS104.drewN | apply IsS104.drew | apply IsS104.set_1) | exact HI0.out))
               (case side2 => repeat (first | (with_reducible first | exact HB.out | apply zq2 | apply zq1 | apply zqd | refine zq3 ?_ (IsS104.ge HI0.out)) | exact HB.out))
               rintro e w15 ⟨rfl, hi, hb, hk⟩
               refine ⟨_, rfl, ?_⟩
               have n0_ := Az.mk (Kd.R_mono (Kd.R_keep (IsS104.apart (show IsS104 w0 _ g s0_0 x1001_1 from by repeat (first | (with_reducible first | exact HI0.out | apply IsS104.alloc | apply IsS104.drewN | apply IsS104.drew | apply IsS104.set_1) | exact HI0.out)) (by (with_reducible repeat (first | apply Kd.R_alloc | apply Kd.R_drewN | apply Kd.R_drew)); exact HO_5.out) (by decide)) hk (fun _ h => h.2)) (fun _ h => h.1))
               have n1_ := Az.mk (KeepBut.trans (by repeat (first | (with_reducible first | exact HK.out | apply KeepBut.set_ | apply keep_drewN | apply keep_drew | apply keep_alloc) | exact HK.out)) hk (.inl rfl))
               have n2_ := Az.mk (hb)
               have n3_ := Az.mk (hi)
               clear HO_5
               clear HK
               clear HB
               clear HI0
               have HO_5 := n0_
               have HK := n1_
               have HB := n2_
               have HI0 := n3_
               clear n0_ n1_ n2_ n3_
               (try clear hb)
               (try clear hb2)
               (try clear hk)
               (try clear hi)
               refine hK.out _ _ trivial (fun hHeld => ?_)
               clear hK K
               refine norm_ (a' := ?_) ?_ ?_
               rotate_left
               ·show Act.put _ (some 19) _ = _
                simp only [Act.put, List.setIfInBounds_toArray, List.set_cons_zero, List.set_cons_succ, i64_w, i32_w]
                rfl
               exact norm_ (by first | (simp only [putAll, Act.put, List.setIfInBounds_toArray, List.set_cons_zero, List.set_cons_succ]; done) | (simp only [putAll, Act.put, List.setIfInBounds_toArray, List.set_cons_zero, List.set_cons_succ]; rfl)) (hJ3 () _ ⟨(by (with_reducible repeat (first | apply Kd.R_alloc | apply Kd.R_drewN | apply Kd.R_drew)); exact HO_5.out), (by repeat (first | (with_reducible first | exact HI0.out | apply IsS104.alloc | apply IsS104.drewN | apply IsS104.drew | apply IsS104.set_1) | exact HI0.out)), (by repeat (first | (with_reducible first | exact HK.out | apply KeepBut.set_ | apply keep_drewN | apply keep_drew | apply keep_alloc) | exact HK.out)), (by repeat (first | (with_reducible first | exact HB.out | apply zq2 | apply zq1 | apply zqd | refine zq3 ?_ (IsS104.ge HI0.out)) | exact HB.out))⟩)
             ·skip
              rintro _ w16 ⟨h0_, h1_, h2_, h3_⟩
              have n0_ : Az (Kd.R (Kd.int .u8) 5 w16 w.heap.size (fun _ => True) (.slice Ao13 x5_1.length co13) x5_1) := ⟨h0_⟩
              have n1_ : Az (IsS104 w0 w16 g s0_0 t835) := ⟨h1_⟩
              have n2_ : Az (KeepBut w w16 g none) := ⟨h2_⟩
              have n3_ : Az (Below w0.heap.size w0 w16) := ⟨h3_⟩
              clear HO_5
              clear HI0
              clear HK
              clear HB
              clear h0_ h1_ h2_ h3_
              have HO_5 := n0_
              have HI0 := n1_
              have HK := n2_
              have HB := n3_
              clear n0_ n1_ n2_ n3_
              have hHeld := trivial
              refine norm_ (a' := ?_) ?_ ?_
              rotate_left
              ·simp only [putAll, Act.put, List.setIfInBounds_toArray, List.set_cons_zero, List.set_cons_succ]
               rfl
              refine two_ (i := 1) (j := 7) (Ni := some 17) (Nj := some 23) #[true, true, true, true, false, false, true, false, false, false, false, false, false] #[true, false, true, true, false, false, true, true, false, false, false, false, false] rfl rfl rfl rfl (two_of HT_.out (by kernel_rfl)) (by decide) (by decide) (fun K hK => ?_) (fun K hK => ?_)
              ·skip
               refine Kd.R_lit_step (Kd.int .u8) _ 5 ?hg (N := 17) ?hd (xs := ([97, 98, 122, 0, 255, 128] : List Int)) (inner := [.int .u8 97, .int .u8 98, .int .u8 122, .int .u8 0, .int .u8 255, .int .u8 128]) (ok := fun _ => True) (okp := fun _ => True) ?hr ?hp (fun _ hk => hk) trivial (Below.refl _ _) (Nat.le_refl _) (by simp) ?_; (case hd => rfl); (case hg => rfl); (case hr => first | (go_simp; done) | (go_simp; rfl)); (case hp => exact (Reps.one (show Kd.M (Kd.int .u8) _ _ _ 97 [.int .u8 97] from rfl) (Reps.one (show Kd.M (Kd.int .u8) _ _ _ 98 [.int .u8 98] from rfl) (Reps.one (show Kd.M (Kd.int .u8) _ _ _ 122 [.int .u8 122] from rfl) (Reps.one (show Kd.M (Kd.int .u8) _ _ _ 0 [.int .u8 0] from rfl) (Reps.one (show Kd.M (Kd.int .u8) _ _ _ 255 [.int .u8 255] from rfl) (Reps.one (show Kd.M (Kd.int .u8) _ _ _ 128 [.int .u8 128] from rfl) (Reps.none _ _))))))))
               intro v832 w17 ho18 hb hg_ hnew_
               clear hg_ hnew_
               (first | rw [← Ny831.out] at ho18 | (simp only [Int.reduceToNat] at ho18; rw [← Ny831.out] at ho18))
               have n0_ := Az.mk (Kd.R_elder' (by (with_reducible repeat (first | apply Kd.R_alloc | apply Kd.R_drewN | apply Kd.R_drew)); exact HO_5.out) (Kd.R_base ho18) hb)
               have n1_ := Az.mk (Kd.R_lower (Kd.R_new' ho18 (Kd.R_lt (by (with_reducible repeat (first | apply Kd.R_alloc | apply Kd.R_drewN | apply Kd.R_drew)); exact HO_5.out))) (keep_size (w := w) (g := g) (row := none) (by repeat (first | (with_reducible first | exact HK.out | apply KeepBut.set_ | apply keep_drewN | apply keep_drew | apply keep_alloc) | exact HK.out))))
               have n2_ := Az.mk (IsS104.below (by repeat (first | (with_reducible first | exact HI0.out | apply IsS104.alloc | apply IsS104.drewN | apply IsS104.drew | apply IsS104.set_1) | exact HI0.out)) hb)
               have n3_ := Az.mk (KeepBut.trans (by repeat (first | (with_reducible first | exact HK.out | apply KeepBut.set_ | apply keep_drewN | apply keep_drew | apply keep_alloc) | exact HK.out)) (KeepBut.of_below hb g none) (.inl rfl))
               have n4_ := Az.mk (below_step (by repeat (first | (with_reducible first | exact HB.out | apply zq2 | apply zq1 | apply zqd | refine zq3 ?_ (IsS104.ge HI0.out)) | exact HB.out)) hb)
               clear HO_5
               clear HI0
               clear HK
               clear HB
               have HO_5 := n0_
               have HO833 := n1_
               have HI0 := n2_
               have HK := n3_
               have HB := n4_
               clear n0_ n1_ n2_ n3_ n4_
               clear hb ho18
               obtain ⟨Ao19, co19, eo19⟩ := Kd.R_slice HO833.out
               subst eo19
               obtain ⟨ado19, fo19, _⟩ := Kd.at_int (Kd.R_reads' HO833.out).2.2 0 (by decide) (by rw [Ny831.out]; simp)
               cases fo19
               refine hK.out _ _ trivial (fun hHeld => ?_)
               clear hK K
               refine norm_ (a' := ?_) ?_ ?_
               rotate_left
               ·show Act.put _ (some 17) _ = _
                simp only [Act.put, List.setIfInBounds_toArray, List.set_cons_zero, List.set_cons_succ, i64_w, i32_w]
                rfl
               refine zqp (i := 4) (N := some 20) (v := ?_) (a' := ?_) #[true, true, true, true, true, false, true, false, false, false, false, false, false] rfl rfl (any_of HT_.out (by kernel_rfl)) (fun _ _ _ h => h) (Or.inl ⟨by rfl, ?_⟩) ?_ ?_
               rotate_left
               ·intro w'
                go_simp
                with_reducible rfl
               rotate_left
               ·simp only [Act.put, List.setIfInBounds_toArray, List.set_cons_zero, List.set_cons_succ, i64_w, i32_w]
                rfl
               exact norm_ (by first | (simp only [putAll, Act.put, List.setIfInBounds_toArray, List.set_cons_zero, List.set_cons_succ]; done) | (simp only [putAll, Act.put, List.setIfInBounds_toArray, List.set_cons_zero, List.set_cons_succ]; rfl)) (hJ1_3 (.slice (some ado19) y831.length co19, ado19) _ ⟨(by (with_reducible repeat (first | apply Kd.R_alloc | apply Kd.R_drewN | apply Kd.R_drew)); exact Kd.R_mono HO833.out (fun _ hk => hk.2)), (by (with_reducible repeat (first | apply Kd.R_alloc | apply Kd.R_drewN | apply Kd.R_drew)); exact Kd.R_mono HO_5.out (fun _ hk => hk.2)), ⟨_, rfl⟩, (by repeat (first | (with_reducible first | exact HI0.out | apply IsS104.alloc | apply IsS104.drewN | apply IsS104.drew | apply IsS104.set_1) | exact HI0.out)), (by repeat (first | (with_reducible first | exact HK.out | apply KeepBut.set_ | apply keep_drewN | apply keep_drew | apply keep_alloc) | exact HK.out)), (by repeat (first | (with_reducible first | exact HB.out | apply zq2 | apply zq1 | apply zqd | refine zq3 ?_ (IsS104.ge HI0.out)) | exact HB.out))⟩)
              ·skip
               refine goes_ Try.func48 (by kernel_rfl) rfl #[.pointer (some ⟨g, 0, none⟩), .int .i64 3] (by rfl) rfl rfl (by (try simp only [List.map_toArray, List.map_cons, List.map_nil]); first | done | rfl | (simp only [List.length_drop, List.length_take]; rfl)) ?_
               with_reducible refine (spec_l6Rd_pick.calls k1 g s0_0 t835 3 t837 t838 w0 _ ?side1 ?side2 A11.out).mono ?_
               (case side1 => repeat (first | (with_reducible first | exact HI0.out | apply IsS104.alloc | apply IsS104.drewN | apply IsS104.drew | apply IsS104.set_1) | exact HI0.out))
               (case side2 => repeat (first | (with_reducible first | exact HB.out | apply zq2 | apply zq1 | apply zqd | refine zq3 ?_ (IsS104.ge HI0.out)) | exact HB.out))
               rintro e w17 ⟨rfl, hi, hb, hk⟩
               refine ⟨_, rfl, ?_⟩
               have n0_ := Az.mk (Kd.R_mono (Kd.R_keep (IsS104.apart (show IsS104 w0 _ g s0_0 t835 from by repeat (first | (with_reducible first | exact HI0.out | apply IsS104.alloc | apply IsS104.drewN | apply IsS104.drew | apply IsS104.set_1) | exact HI0.out)) (by (with_reducible repeat (first | apply Kd.R_alloc | apply Kd.R_drewN | apply Kd.R_drew)); exact HO_5.out) (by decide)) hk (fun _ h => h.2)) (fun _ h => h.1))
               have n1_ := Az.mk (KeepBut.trans (by repeat (first | (with_reducible first | exact HK.out | apply KeepBut.set_ | apply keep_drewN | apply keep_drew | apply keep_alloc) | exact HK.out)) hk (.inl rfl))
               have n2_ := Az.mk (hb)
               have n3_ := Az.mk (hi)
               clear HO_5
               clear HK
               clear HB
               clear HI0
               have HO_5 := n0_
               have HK := n1_
               have HB := n2_
               have HI0 := n3_
               clear n0_ n1_ n2_ n3_
               (try clear hb)
               (try clear hb2)
               (try clear hk)
               (try clear hi)
               refine hK.out _ _ trivial (fun hHeld => ?_)
               clear hK K
               refine norm_ (a' := ?_) ?_ ?_
               rotate_left
               ·show Act.put _ (some 23) _ = _
                simp only [Act.put, List.setIfInBounds_toArray, List.set_cons_zero, List.set_cons_succ, i64_w, i32_w]
                rfl
               refine zqp (i := 8) (N := some 24) (v := ?_) (a' := ?_) #[true, false, true, true, false, false, true, true, true, false, false, false, false] rfl rfl (any_of HT_.out (by kernel_rfl)) (fun _ _ _ h => h) (Or.inl ⟨by rfl, ?_⟩) ?_ ?_
               rotate_left
               ·intro w'
                go_simp
                with_reducible rfl
               rotate_left
               ·simp only [Act.put, List.setIfInBounds_toArray, List.set_cons_zero, List.set_cons_succ, i64_w, i32_w]
                rfl
               exact norm_ (by first | (simp only [putAll, Act.put, List.setIfInBounds_toArray, List.set_cons_zero, List.set_cons_succ]; done) | (simp only [putAll, Act.put, List.setIfInBounds_toArray, List.set_cons_zero, List.set_cons_succ]; rfl)) (hJ3_7 () _ ⟨(by (with_reducible repeat (first | apply Kd.R_alloc | apply Kd.R_drewN | apply Kd.R_drew)); exact HO_5.out), (by repeat (first | (with_reducible first | exact HI0.out | apply IsS104.alloc | apply IsS104.drewN | apply IsS104.drew | apply IsS104.set_1) | exact HI0.out)), (by repeat (first | (with_reducible first | exact HK.out | apply KeepBut.set_ | apply keep_drewN | apply keep_drew | apply keep_alloc) | exact HK.out)), (by repeat (first | (with_reducible first | exact HB.out | apply zq2 | apply zq1 | apply zqd | refine zq3 ?_ (IsS104.ge HI0.out)) | exact HB.out))⟩)
            ·skip
             rintro ⟨v832, adz_v832⟩ w18 ⟨h0_, h1_, h2_, h3_, h4_, h5_⟩
             have n0_ : Az (Kd.R (Kd.int .u8) 5 w18 w.heap.size (fun k_ => some k_ ≠ (.slice Ao13 x5_1.length co13 : Value).ownBlock) v832 y831) := ⟨h0_⟩
             have n1_ : Az (Kd.R (Kd.int .u8) 5 w18 w.heap.size (fun k_ => some k_ ≠ (v832 : Value).ownBlock) (.slice Ao13 x5_1.length co13) x5_1) := ⟨h1_⟩
             have n2_ : Az (∃ c_, (v832 : Value) = .slice (some adz_v832) y831.length c_) := ⟨h2_⟩
             have n3_ : Az (IsS104 w0 w18 g s0_0 x1001_1) := ⟨h3_⟩
             have n4_ : Az (KeepBut w w18 g none) := ⟨h4_⟩
             have n5_ : Az (Below w0.heap.size w0 w18) := ⟨h5_⟩
             clear HO_5
             clear HI0
             clear HK
             clear HB
             clear h0_ h1_ h2_ h3_ h4_ h5_
             have HO833 := n0_
             have HO_5 := n1_
             have HA_HO833 := n2_
             have HI0 := n3_
             have HK := n4_
             have HB := n5_
             clear n0_ n1_ n2_ n3_ n4_ n5_
             have hHeld := trivial
             obtain ⟨co19, eo19⟩ := HA_HO833.out
             clear HA_HO833
             subst eo19
             refine norm_ (a' := ?_) ?_ ?_
             rotate_left
             ·simp only [putAll, Act.put, List.setIfInBounds_toArray, List.set_cons_zero, List.set_cons_succ]
              rfl
             refine one_ (i := 3) (N := some 19) #[true, true, true, true, false, false, true, false, false, false, false, false, false] rfl rfl (one_of HT_.out (by kernel_rfl)) (by decide) (fun K hK => ?_)
             refine goes_ Try.func48 (by kernel_rfl) rfl #[.pointer (some ⟨g, 0, none⟩), .int .i64 6] (by rfl) rfl rfl (by (try simp only [List.map_toArray, List.map_cons, List.map_nil]); first | done | rfl | (simp only [List.length_drop, List.length_take]; rfl)) ?_
             with_reducible refine (spec_l6Rd_pick.calls k1 g s0_0 x1001_1 6 t834 t835 w0 _ ?side1 ?side2 A8.out).mono ?_
             (case side1 => repeat (first | (with_reducible first | exact HI0.out | apply IsS104.alloc | apply IsS104.drewN | apply IsS104.drew | apply IsS104.set_1) | exact HI0.out))
             (case side2 => repeat (first | (with_reducible first | exact HB.out | apply zq2 | apply zq1 | apply zqd | refine zq3 ?_ (IsS104.ge HI0.out)) | exact HB.out))
             rintro e w20 ⟨rfl, hi, hb, hk⟩
             refine ⟨_, rfl, ?_⟩
             have n0_ := Az.mk (Kd.R_mono (Kd.R_keep (IsS104.apart (show IsS104 w0 _ g s0_0 x1001_1 from by repeat (first | (with_reducible first | exact HI0.out | apply IsS104.alloc | apply IsS104.drewN | apply IsS104.drew | apply IsS104.set_1) | exact HI0.out)) (by (with_reducible repeat (first | apply Kd.R_alloc | apply Kd.R_drewN | apply Kd.R_drew)); exact HO_5.out) (by decide)) hk (fun _ h => h.2)) (fun _ h => h.1))
             have n1_ := Az.mk (Kd.R_mono (Kd.R_keep (IsS104.apart (show IsS104 w0 _ g s0_0 x1001_1 from by repeat (first | (with_reducible first | exact HI0.out | apply IsS104.alloc | apply IsS104.drewN | apply IsS104.drew | apply IsS104.set_1) | exact HI0.out)) (by (with_reducible repeat (first | apply Kd.R_alloc | apply Kd.R_drewN | apply Kd.R_drew)); exact HO833.out) (by decide)) hk (fun _ h => h.2)) (fun _ h => h.1))
             have n2_ := Az.mk (KeepBut.trans (by repeat (first | (with_reducible first | exact HK.out | apply KeepBut.set_ | apply keep_drewN | apply keep_drew | apply keep_alloc) | exact HK.out)) hk (.inl rfl))
             have n3_ := Az.mk (hb)
             have n4_ := Az.mk (hi)
             clear HO_5
             clear HO833
             clear HK
             clear HB
             clear HI0
             have HO_5 := n0_
             have HO833 := n1_
             have HK := n2_
             have HB := n3_
             have HI0 := n4_
             clear n0_ n1_ n2_ n3_ n4_
             (try clear hb)
             (try clear hb2)
             (try clear hk)
             (try clear hi)
             refine hK.out _ _ trivial (fun hHeld => ?_)
             clear hK K
             refine norm_ (a' := ?_) ?_ ?_
             rotate_left
             ·show Act.put _ (some 19) _ = _
              simp only [Act.put, List.setIfInBounds_toArray, List.set_cons_zero, List.set_cons_succ, i64_w, i32_w]
              rfl
             refine zqp (i := 4) (N := some 20) (v := ?_) (a' := ?_) #[true, true, true, true, true, false, true, false, false, false, false, false, false] rfl rfl (any_of HT_.out (by kernel_rfl)) (fun _ _ _ h => h) (Or.inl ⟨by rfl, ?_⟩) ?_ ?_
             rotate_left
             ·intro w'
              go_simp
              with_reducible rfl
             rotate_left
             ·simp only [Act.put, List.setIfInBounds_toArray, List.set_cons_zero, List.set_cons_succ, i64_w, i32_w]
              rfl
             exact norm_ (by first | (simp only [putAll, Act.put, List.setIfInBounds_toArray, List.set_cons_zero, List.set_cons_succ]; done) | (simp only [putAll, Act.put, List.setIfInBounds_toArray, List.set_cons_zero, List.set_cons_succ]; rfl)) (hJ1_3 (.slice (some adz_v832) y831.length co19, adz_v832) _ ⟨(by (with_reducible repeat (first | apply Kd.R_alloc | apply Kd.R_drewN | apply Kd.R_drew)); exact HO833.out), (by (with_reducible repeat (first | apply Kd.R_alloc | apply Kd.R_drewN | apply Kd.R_drew)); exact HO_5.out), ⟨_, rfl⟩, (by repeat (first | (with_reducible first | exact HI0.out | apply IsS104.alloc | apply IsS104.drewN | apply IsS104.drew | apply IsS104.set_1) | exact HI0.out)), (by repeat (first | (with_reducible first | exact HK.out | apply KeepBut.set_ | apply keep_drewN | apply keep_drew | apply keep_alloc) | exact HK.out)), (by repeat (first | (with_reducible first | exact HB.out | apply zq2 | apply zq1 | apply zqd | refine zq3 ?_ (IsS104.ge HI0.out)) | exact HB.out))⟩)
           ·skip
            rintro _ w17 ⟨h0_, h1_, h2_, h3_⟩
            have n0_ : Az (Kd.R (Kd.int .u8) 5 w17 w.heap.size (fun _ => True) (.slice Ao13 x5_1.length co13) x5_1) := ⟨h0_⟩
            have n1_ : Az (IsS104 w0 w17 g s0_0 t838) := ⟨h1_⟩
            have n2_ : Az (KeepBut w w17 g none) := ⟨h2_⟩
            have n3_ : Az (Below w0.heap.size w0 w17) := ⟨h3_⟩
            clear HO_5
            clear HI0
            clear HK
            clear HB
            clear h0_ h1_ h2_ h3_
            have HO_5 := n0_
            have HI0 := n1_
            have HK := n2_
            have HB := n3_
            clear n0_ n1_ n2_ n3_
            have hHeld := trivial
            refine norm_ (a' := ?_) ?_ ?_
            rotate_left
            ·simp only [putAll, Act.put, List.setIfInBounds_toArray, List.set_cons_zero, List.set_cons_succ]
             rfl
            refine one_ (i := 1) (N := some 17) #[true, true, true, true, false, false, true, true, true, false, false, false, false] rfl rfl (one_of HT_.out (by kernel_rfl)) (by decide) (fun K hK => ?_)
            refine Kd.R_lit_step (Kd.int .u8) _ 5 ?hg (N := 17) ?hd (xs := ([97, 98, 122, 0, 255, 128] : List Int)) (inner := [.int .u8 97, .int .u8 98, .int .u8 122, .int .u8 0, .int .u8 255, .int .u8 128]) (ok := fun _ => True) (okp := fun _ => True) ?hr ?hp (fun _ hk => hk) trivial (Below.refl _ _) (Nat.le_refl _) (by simp) ?_; (case hd => rfl); (case hg => rfl); (case hr => first | (go_simp; done) | (go_simp; rfl)); (case hp => exact (Reps.one (show Kd.M (Kd.int .u8) _ _ _ 97 [.int .u8 97] from rfl) (Reps.one (show Kd.M (Kd.int .u8) _ _ _ 98 [.int .u8 98] from rfl) (Reps.one (show Kd.M (Kd.int .u8) _ _ _ 122 [.int .u8 122] from rfl) (Reps.one (show Kd.M (Kd.int .u8) _ _ _ 0 [.int .u8 0] from rfl) (Reps.one (show Kd.M (Kd.int .u8) _ _ _ 255 [.int .u8 255] from rfl) (Reps.one (show Kd.M (Kd.int .u8) _ _ _ 128 [.int .u8 128] from rfl) (Reps.none _ _))))))))
            intro v832 w18 ho19 hb hg_ hnew_
            clear hg_ hnew_
            (first | rw [← Ny831.out] at ho19 | (simp only [Int.reduceToNat] at ho19; rw [← Ny831.out] at ho19))
            have n0_ := Az.mk (Kd.R_elder' (by (with_reducible repeat (first | apply Kd.R_alloc | apply Kd.R_drewN | apply Kd.R_drew)); exact HO_5.out) (Kd.R_base ho19) hb)
            have n1_ := Az.mk (Kd.R_lower (Kd.R_new' ho19 (Kd.R_lt (by (with_reducible repeat (first | apply Kd.R_alloc | apply Kd.R_drewN | apply Kd.R_drew)); exact HO_5.out))) (keep_size (w := w) (g := g) (row := none) (by repeat (first | (with_reducible first | exact HK.out | apply KeepBut.set_ | apply keep_drewN | apply keep_drew | apply keep_alloc) | exact HK.out))))
            have n2_ := Az.mk (IsS104.below (by repeat (first | (with_reducible first | exact HI0.out | apply IsS104.alloc | apply IsS104.drewN | apply IsS104.drew | apply IsS104.set_1) | exact HI0.out)) hb)
            have n3_ := Az.mk (KeepBut.trans (by repeat (first | (with_reducible first | exact HK.out | apply KeepBut.set_ | apply keep_drewN | apply keep_drew | apply keep_alloc) | exact HK.out)) (KeepBut.of_below hb g none) (.inl rfl))
            have n4_ := Az.mk (below_step (by repeat (first | (with_reducible first | exact HB.out | apply zq2 | apply zq1 | apply zqd | refine zq3 ?_ (IsS104.ge HI0.out)) | exact HB.out)) hb)
            clear HO_5
            clear HI0
            clear HK
            clear HB
            have HO_5 := n0_
            have HO833 := n1_
            have HI0 := n2_
            have HK := n3_
            have HB := n4_
            clear n0_ n1_ n2_ n3_ n4_
            clear hb ho19
            obtain ⟨Ao20, co20, eo20⟩ := Kd.R_slice HO833.out
            subst eo20
            obtain ⟨ado20, fo20, _⟩ := Kd.at_int (Kd.R_reads' HO833.out).2.2 0 (by decide) (by rw [Ny831.out]; simp)
            cases fo20
            refine hK.out _ _ trivial (fun hHeld => ?_)
            clear hK K
            refine norm_ (a' := ?_) ?_ ?_
            rotate_left
            ·show Act.put _ (some 17) _ = _
             simp only [Act.put, List.setIfInBounds_toArray, List.set_cons_zero, List.set_cons_succ, i64_w, i32_w]
             rfl
            refine zqp (i := 4) (N := some 20) (v := ?_) (a' := ?_) #[true, true, true, true, true, false, true, true, true, false, false, false, false] rfl rfl (any_of HT_.out (by kernel_rfl)) (fun _ _ _ h => h) (Or.inl ⟨by rfl, ?_⟩) ?_ ?_
            rotate_left
            ·intro w'
             go_simp
             with_reducible rfl
            rotate_left
            ·simp only [Act.put, List.setIfInBounds_toArray, List.set_cons_zero, List.set_cons_succ, i64_w, i32_w]
             rfl
            exact norm_ (by first | (simp only [putAll, Act.put, List.setIfInBounds_toArray, List.set_cons_zero, List.set_cons_succ]; done) | (simp only [putAll, Act.put, List.setIfInBounds_toArray, List.set_cons_zero, List.set_cons_succ]; rfl)) (hJ1_3_7 (.slice (some ado20) y831.length co20, ado20) _ ⟨(by (with_reducible repeat (first | apply Kd.R_alloc | apply Kd.R_drewN | apply Kd.R_drew)); exact Kd.R_mono HO833.out (fun _ hk => hk.2)), (by (with_reducible repeat (first | apply Kd.R_alloc | apply Kd.R_drewN | apply Kd.R_drew)); exact Kd.R_mono HO_5.out (fun _ hk => hk.2)), ⟨_, rfl⟩, (by repeat (first | (with_reducible first | exact HI0.out | apply IsS104.alloc | apply IsS104.drewN | apply IsS104.drew | apply IsS104.set_1) | exact HI0.out)), (by repeat (first | (with_reducible first | exact HK.out | apply KeepBut.set_ | apply keep_drewN | apply keep_drew | apply keep_alloc) | exact HK.out)), (by repeat (first | (with_reducible first | exact HB.out | apply zq2 | apply zq1 | apply zqd | refine zq3 ?_ (IsS104.ge HI0.out)) | exact HB.out))⟩)
          ·skip
           rintro ⟨v832, adz_v832⟩ w19 ⟨h0_, h1_, h2_, h3_, h4_, h5_⟩
           have n0_ : Az (Kd.R (Kd.int .u8) 5 w19 w.heap.size (fun k_ => some k_ ≠ (.slice Ao13 x5_1.length co13 : Value).ownBlock) v832 y831) := ⟨h0_⟩
           have n1_ : Az (Kd.R (Kd.int .u8) 5 w19 w.heap.size (fun k_ => some k_ ≠ (v832 : Value).ownBlock) (.slice Ao13 x5_1.length co13) x5_1) := ⟨h1_⟩
           have n2_ : Az (∃ c_, (v832 : Value) = .slice (some adz_v832) y831.length c_) := ⟨h2_⟩
           have n3_ : Az (IsS104 w0 w19 g s0_0 t835) := ⟨h3_⟩
           have n4_ : Az (KeepBut w w19 g none) := ⟨h4_⟩
           have n5_ : Az (Below w0.heap.size w0 w19) := ⟨h5_⟩
           clear HO_5
           clear HI0
           clear HK
           clear HB
           clear h0_ h1_ h2_ h3_ h4_ h5_
           have HO833 := n0_
           have HO_5 := n1_
           have HA_HO833 := n2_
           have HI0 := n3_
           have HK := n4_
           have HB := n5_
           clear n0_ n1_ n2_ n3_ n4_ n5_
           have hHeld := trivial
           obtain ⟨co20, eo20⟩ := HA_HO833.out
           clear HA_HO833
           subst eo20
           refine norm_ (a' := ?_) ?_ ?_
           rotate_left
           ·simp only [putAll, Act.put, List.setIfInBounds_toArray, List.set_cons_zero, List.set_cons_succ]
            rfl
           refine two_ (i := 5) (j := 7) (Ni := some 21) (Nj := some 23) #[true, true, true, true, true, true, true, false, false, false, false, false, false] #[true, true, true, true, true, false, true, true, false, false, false, false, false] rfl rfl rfl rfl (two_of HT_.out (by kernel_rfl)) (by decide) (by decide) (fun K hK => ?_) (fun K hK => ?_)
           ·skip
            (have p836 : 0 ≤ (t834 : Int) := of_decide_eq_true (by first | (with_reducible assumption) | assumption); have q836 : t834 < (y831.length : Int) := of_decide_eq_true (by first | (with_reducible assumption) | assumption); obtain ⟨ad836, e836, hx836_0⟩ := Kd.at_int (Kd.R_reads' HO833.out).2.2 t834 p836 q836; obtain rfl : adz_v832 = ad836 := (by injection e836))
            refine value_ (w1 := ?_) (v := ?_) (by rfl) rfl ?_ ?_
            rotate_left 2
            ·go_simp
             constructor
             ·rfl
             ·rfl
            clear hx836_0
            refine hK.out _ _ trivial (fun hHeld => ?_)
            clear hK K
            refine norm_ (a' := ?_) ?_ ?_
            rotate_left
            ·show Act.put _ (some 21) _ = _
             simp only [Act.put, List.setIfInBounds_toArray, List.set_cons_zero, List.set_cons_succ, i64_w, i32_w]
             rfl
            exact norm_ (by first | (simp only [putAll, Act.put, List.setIfInBounds_toArray, List.set_cons_zero, List.set_cons_succ]; done) | (simp only [putAll, Act.put, List.setIfInBounds_toArray, List.set_cons_zero, List.set_cons_succ]; rfl)) (hJ1_3_5 (.slice (some adz_v832) y831.length co20, adz_v832) _ ⟨(by (with_reducible repeat (first | apply Kd.R_alloc | apply Kd.R_drewN | apply Kd.R_drew)); exact HO833.out), (by (with_reducible repeat (first | apply Kd.R_alloc | apply Kd.R_drewN | apply Kd.R_drew)); exact HO_5.out), ⟨_, rfl⟩, (by repeat (first | (with_reducible first | exact HI0.out | apply IsS104.alloc | apply IsS104.drewN | apply IsS104.drew | apply IsS104.set_1) | exact HI0.out)), (by repeat (first | (with_reducible first | exact HK.out | apply KeepBut.set_ | apply keep_drewN | apply keep_drew | apply keep_alloc) | exact HK.out)), (by repeat (first | (with_reducible first | exact HB.out | apply zq2 | apply zq1 | apply zqd | refine zq3 ?_ (IsS104.ge HI0.out)) | exact HB.out))⟩)
           ·skip
            refine goes_ Try.func48 (by kernel_rfl) rfl #[.pointer (some ⟨g, 0, none⟩), .int .i64 3] (by rfl) rfl rfl (by (try simp only [List.map_toArray, List.map_cons, List.map_nil]); first | done | rfl | (simp only [List.length_drop, List.length_take]; rfl)) ?_
            with_reducible refine (spec_l6Rd_pick.calls k1 g s0_0 t835 3 t837 t838 w0 _ ?side1 ?side2 A11.out).mono ?_
            (case side1 => repeat (first | (with_reducible first | exact HI0.out | apply IsS104.alloc | apply IsS104.drewN | apply IsS104.drew | apply IsS104.set_1) | exact HI0.out))
            (case side2 => repeat (first | (with_reducible first | exact HB.out | apply zq2 | apply zq1 | apply zqd | refine zq3 ?_ (IsS104.ge HI0.out)) | exact HB.out))
            rintro e w21 ⟨rfl, hi, hb, hk⟩
            refine ⟨_, rfl, ?_⟩
            have n0_ := Az.mk (Kd.R_mono (Kd.R_keep (IsS104.apart (show IsS104 w0 _ g s0_0 t835 from by repeat (first | (with_reducible first | exact HI0.out | apply IsS104.alloc | apply IsS104.drewN | apply IsS104.drew | apply IsS104.set_1) | exact HI0.out)) (by (with_reducible repeat (first | apply Kd.R_alloc | apply Kd.R_drewN | apply Kd.R_drew)); exact HO_5.out) (by decide)) hk (fun _ h => h.2)) (fun _ h => h.1))
            have n1_ := Az.mk (Kd.R_mono (Kd.R_keep (IsS104.apart (show IsS104 w0 _ g s0_0 t835 from by repeat (first | (with_reducible first | exact HI0.out | apply IsS104.alloc | apply IsS104.drewN | apply IsS104.drew | apply IsS104.set_1) | exact HI0.out)) (by (with_reducible repeat (first | apply Kd.R_alloc | apply Kd.R_drewN | apply Kd.R_drew)); exact HO833.out) (by decide)) hk (fun _ h => h.2)) (fun _ h => h.1))
            have n2_ := Az.mk (KeepBut.trans (by repeat (first | (with_reducible first | exact HK.out | apply KeepBut.set_ | apply keep_drewN | apply keep_drew | apply keep_alloc) | exact HK.out)) hk (.inl rfl))
            have n3_ := Az.mk (hb)
            have n4_ := Az.mk (hi)
            clear HO_5
            clear HO833
            clear HK
            clear HB
            clear HI0
            have HO_5 := n0_
            have HO833 := n1_
            have HK := n2_
            have HB := n3_
            have HI0 := n4_
            clear n0_ n1_ n2_ n3_ n4_
            (try clear hb)
            (try clear hb2)
            (try clear hk)
            (try clear hi)
            refine hK.out _ _ trivial (fun hHeld => ?_)
            clear hK K
            refine norm_ (a' := ?_) ?_ ?_
            rotate_left
            ·show Act.put _ (some 23) _ = _
             simp only [Act.put, List.setIfInBounds_toArray, List.set_cons_zero, List.set_cons_succ, i64_w, i32_w]
             rfl
            refine zqp (i := 8) (N := some 24) (v := ?_) (a' := ?_) #[true, true, true, true, true, false, true, true, true, false, false, false, false] rfl rfl (any_of HT_.out (by kernel_rfl)) (fun _ _ _ h => h) (Or.inl ⟨by rfl, ?_⟩) ?_ ?_
            rotate_left
            ·intro w'
             go_simp
             with_reducible rfl
            rotate_left
            ·simp only [Act.put, List.setIfInBounds_toArray, List.set_cons_zero, List.set_cons_succ, i64_w, i32_w]
             rfl
            exact norm_ (by first | (simp only [putAll, Act.put, List.setIfInBounds_toArray, List.set_cons_zero, List.set_cons_succ]; done) | (simp only [putAll, Act.put, List.setIfInBounds_toArray, List.set_cons_zero, List.set_cons_succ]; rfl)) (hJ1_3_7 (.slice (some adz_v832) y831.length co20, adz_v832) _ ⟨(by (with_reducible repeat (first | apply Kd.R_alloc | apply Kd.R_drewN | apply Kd.R_drew)); exact HO833.out), (by (with_reducible repeat (first | apply Kd.R_alloc | apply Kd.R_drewN | apply Kd.R_drew)); exact HO_5.out), ⟨_, rfl⟩, (by repeat (first | (with_reducible first | exact HI0.out | apply IsS104.alloc | apply IsS104.drewN | apply IsS104.drew | apply IsS104.set_1) | exact HI0.out)), (by repeat (first | (with_reducible first | exact HK.out | apply KeepBut.set_ | apply keep_drewN | apply keep_drew | apply keep_alloc) | exact HK.out)), (by repeat (first | (with_reducible first | exact HB.out | apply zq2 | apply zq1 | apply zqd | refine zq3 ?_ (IsS104.ge HI0.out)) | exact HB.out))⟩)
         ·skip
          rintro ⟨v832, adz_v832⟩ w20 ⟨h0_, h1_, h2_, h3_, h4_, h5_⟩
          have n0_ : Az (Kd.R (Kd.int .u8) 5 w20 w.heap.size (fun k_ => some k_ ≠ (.slice Ao13 x5_1.length co13 : Value).ownBlock) v832 y831) := ⟨h0_⟩
          have n1_ : Az (Kd.R (Kd.int .u8) 5 w20 w.heap.size (fun k_ => some k_ ≠ (v832 : Value).ownBlock) (.slice Ao13 x5_1.length co13) x5_1) := ⟨h1_⟩
          have n2_ : Az (∃ c_, (v832 : Value) = .slice (some adz_v832) y831.length c_) := ⟨h2_⟩
          have n3_ : Az (IsS104 w0 w20 g s0_0 t838) := ⟨h3_⟩
          have n4_ : Az (KeepBut w w20 g none) := ⟨h4_⟩
          have n5_ : Az (Below w0.heap.size w0 w20) := ⟨h5_⟩
          clear HO_5
          clear HI0
          clear HK
          clear HB
          clear h0_ h1_ h2_ h3_ h4_ h5_
          have HO833 := n0_
          have HO_5 := n1_
          have HA_HO833 := n2_
          have HI0 := n3_
          have HK := n4_
          have HB := n5_
          clear n0_ n1_ n2_ n3_ n4_ n5_
          have hHeld := trivial
          obtain ⟨co21, eo21⟩ := HA_HO833.out
          clear HA_HO833
          subst eo21
          refine norm_ (a' := ?_) ?_ ?_
          rotate_left
          ·simp only [putAll, Act.put, List.setIfInBounds_toArray, List.set_cons_zero, List.set_cons_succ]
           rfl
          refine one_ (i := 5) (N := some 21) #[true, true, true, true, true, true, true, true, true, false, false, false, false] rfl rfl (one_of HT_.out (by kernel_rfl)) (by decide) (fun K hK => ?_)
          (have p836 : 0 ≤ (t834 : Int) := of_decide_eq_true (by first | (with_reducible assumption) | assumption); have q836 : t834 < (y831.length : Int) := of_decide_eq_true (by first | (with_reducible assumption) | assumption); obtain ⟨ad836, e836, hx836_0⟩ := Kd.at_int (Kd.R_reads' HO833.out).2.2 t834 p836 q836; obtain rfl : adz_v832 = ad836 := (by injection e836))
          refine value_ (w1 := ?_) (v := ?_) (by rfl) rfl ?_ ?_
          rotate_left 2
          ·go_simp
           constructor
           ·rfl
           ·rfl
          clear hx836_0
          refine hK.out _ _ trivial (fun hHeld => ?_)
          clear hK K
          refine norm_ (a' := ?_) ?_ ?_
          rotate_left
          ·show Act.put _ (some 21) _ = _
           simp only [Act.put, List.setIfInBounds_toArray, List.set_cons_zero, List.set_cons_succ, i64_w, i32_w]
           rfl
          exact norm_ (by first | (simp only [putAll, Act.put, List.setIfInBounds_toArray, List.set_cons_zero, List.set_cons_succ]; done) | (simp only [putAll, Act.put, List.setIfInBounds_toArray, List.set_cons_zero, List.set_cons_succ]; rfl)) (hJ1_3_5_7 (.slice (some adz_v832) y831.length co21, adz_v832) _ ⟨(by (with_reducible repeat (first | apply Kd.R_alloc | apply Kd.R_drewN | apply Kd.R_drew)); exact HO833.out), (by (with_reducible repeat (first | apply Kd.R_alloc | apply Kd.R_drewN | apply Kd.R_drew)); exact HO_5.out), ⟨_, rfl⟩, (by repeat (first | (with_reducible first | exact HI0.out | apply IsS104.alloc | apply IsS104.drewN | apply IsS104.drew | apply IsS104.set_1) | exact HI0.out)), (by repeat (first | (with_reducible first | exact HK.out | apply KeepBut.set_ | apply keep_drewN | apply keep_drew | apply keep_alloc) | exact HK.out)), (by repeat (first | (with_reducible first | exact HB.out | apply zq2 | apply zq1 | apply zqd | refine zq3 ?_ (IsS104.ge HI0.out)) | exact HB.out))⟩)
        ·skip
         rintro ⟨v832, adz_v832⟩ w19 ⟨h0_, h1_, h2_, h3_, h4_, h5_⟩
         have n0_ : Az (Kd.R (Kd.int .u8) 5 w19 w.heap.size (fun k_ => some k_ ≠ (.slice Ao13 x5_1.length co13 : Value).ownBlock) v832 y831) := ⟨h0_⟩
         have n1_ : Az (Kd.R (Kd.int .u8) 5 w19 w.heap.size (fun k_ => some k_ ≠ (v832 : Value).ownBlock) (.slice Ao13 x5_1.length co13) x5_1) := ⟨h1_⟩
         have n2_ : Az (∃ c_, (v832 : Value) = .slice (some adz_v832) y831.length c_) := ⟨h2_⟩
         have n3_ : Az (IsS104 w0 w19 g s0_0 t835) := ⟨h3_⟩
         have n4_ : Az (KeepBut w w19 g none) := ⟨h4_⟩
         have n5_ : Az (Below w0.heap.size w0 w19) := ⟨h5_⟩
         clear HO_5
         clear HI0
         clear HK
         clear HB
         clear h0_ h1_ h2_ h3_ h4_ h5_
         have HO833 := n0_
         have HO_5 := n1_
         have HA_HO833 := n2_
         have HI0 := n3_
         have HK := n4_
         have HB := n5_
         clear n0_ n1_ n2_ n3_ n4_ n5_
         have hHeld := trivial
         obtain ⟨co20, eo20⟩ := HA_HO833.out
         clear HA_HO833
         subst eo20
         refine norm_ (a' := ?_) ?_ ?_
         rotate_left
         ·simp only [putAll, Act.put, List.setIfInBounds_toArray, List.set_cons_zero, List.set_cons_succ]
          rfl
         refine one_ (i := 7) (N := some 23) #[true, true, true, true, true, true, true, true, false, false, false, false, false] rfl rfl (one_of HT_.out (by kernel_rfl)) (by decide) (fun K hK => ?_)
         refine goes_ Try.func48 (by kernel_rfl) rfl #[.pointer (some ⟨g, 0, none⟩), .int .i64 3] (by rfl) rfl rfl (by (try simp only [List.map_toArray, List.map_cons, List.map_nil]); first | done | rfl | (simp only [List.length_drop, List.length_take]; rfl)) ?_
         with_reducible refine (spec_l6Rd_pick.calls k1 g s0_0 t835 3 t837 t838 w0 _ ?side1 ?side2 A11.out).mono ?_
         (case side1 => repeat (first | (with_reducible first | exact HI0.out | apply IsS104.alloc | apply IsS104.drewN | apply IsS104.drew | apply IsS104.set_1) | exact HI0.out))
         (case side2 => repeat (first | (with_reducible first | exact HB.out | apply zq2 | apply zq1 | apply zqd | refine zq3 ?_ (IsS104.ge HI0.out)) | exact HB.out))
         rintro e w21 ⟨rfl, hi, hb, hk⟩
         refine ⟨_, rfl, ?_⟩
         have n0_ := Az.mk (Kd.R_mono (Kd.R_keep (IsS104.apart (show IsS104 w0 _ g s0_0 t835 from by repeat (first | (with_reducible first | exact HI0.out | apply IsS104.alloc | apply IsS104.drewN | apply IsS104.drew | apply IsS104.set_1) | exact HI0.out)) (by (with_reducible repeat (first | apply Kd.R_alloc | apply Kd.R_drewN | apply Kd.R_drew)); exact HO_5.out) (by decide)) hk (fun _ h => h.2)) (fun _ h => h.1))
         have n1_ := Az.mk (Kd.R_mono (Kd.R_keep (IsS104.apart (show IsS104 w0 _ g s0_0 t835 from by repeat (first | (with_reducible first | exact HI0.out | apply IsS104.alloc | apply IsS104.drewN | apply IsS104.drew | apply IsS104.set_1) | exact HI0.out)) (by (with_reducible repeat (first | apply Kd.R_alloc | apply Kd.R_drewN | apply Kd.R_drew)); exact HO833.out) (by decide)) hk (fun _ h => h.2)) (fun _ h => h.1))
         have n2_ := Az.mk (KeepBut.trans (by repeat (first | (with_reducible first | exact HK.out | apply KeepBut.set_ | apply keep_drewN | apply keep_drew | apply keep_alloc) | exact HK.out)) hk (.inl rfl))
         have n3_ := Az.mk (hb)
         have n4_ := Az.mk (hi)
         clear HO_5
         clear HO833
         clear HK
         clear HB
         clear HI0
         have HO_5 := n0_
         have HO833 := n1_
         have HK := n2_
         have HB := n3_
         have HI0 := n4_
         clear n0_ n1_ n2_ n3_ n4_
         (try clear hb)
         (try clear hb2)
         (try clear hk)
         (try clear hi)
         refine hK.out _ _ trivial (fun hHeld => ?_)
         clear hK K
         refine norm_ (a' := ?_) ?_ ?_
         rotate_left
         ·show Act.put _ (some 23) _ = _
          simp only [Act.put, List.setIfInBounds_toArray, List.set_cons_zero, List.set_cons_succ, i64_w, i32_w]
          rfl
         refine zqp (i := 8) (N := some 24) (v := ?_) (a' := ?_) #[true, true, true, true, true, true, true, true, true, false, false, false, false] rfl rfl (any_of HT_.out (by kernel_rfl)) (fun _ _ _ h => h) (Or.inl ⟨by rfl, ?_⟩) ?_ ?_
         rotate_left
         ·intro w'
          go_simp
          with_reducible rfl
         rotate_left
         ·simp only [Act.put, List.setIfInBounds_toArray, List.set_cons_zero, List.set_cons_succ, i64_w, i32_w]
          rfl
         exact norm_ (by first | (simp only [putAll, Act.put, List.setIfInBounds_toArray, List.set_cons_zero, List.set_cons_succ]; done) | (simp only [putAll, Act.put, List.setIfInBounds_toArray, List.set_cons_zero, List.set_cons_succ]; rfl)) (hJ1_3_5_7 (.slice (some adz_v832) y831.length co20, adz_v832) _ ⟨(by (with_reducible repeat (first | apply Kd.R_alloc | apply Kd.R_drewN | apply Kd.R_drew)); exact HO833.out), (by (with_reducible repeat (first | apply Kd.R_alloc | apply Kd.R_drewN | apply Kd.R_drew)); exact HO_5.out), ⟨_, rfl⟩, (by repeat (first | (with_reducible first | exact HI0.out | apply IsS104.alloc | apply IsS104.drewN | apply IsS104.drew | apply IsS104.set_1) | exact HI0.out)), (by repeat (first | (with_reducible first | exact HK.out | apply KeepBut.set_ | apply keep_drewN | apply keep_drew | apply keep_alloc) | exact HK.out)), (by repeat (first | (with_reducible first | exact HB.out | apply zq2 | apply zq1 | apply zqd | refine zq3 ?_ (IsS104.ge HI0.out)) | exact HB.out))⟩)
       rintro ⟨v832, adz_v832⟩ w20 ⟨h0_, h1_, h2_, h3_, h4_, h5_⟩
       have n0_ : Az (Kd.R (Kd.int .u8) 5 w20 w.heap.size (fun k_ => some k_ ≠ (.slice Ao13 x5_1.length co13 : Value).ownBlock) v832 y831) := ⟨h0_⟩
       have n1_ : Az (Kd.R (Kd.int .u8) 5 w20 w.heap.size (fun k_ => some k_ ≠ (v832 : Value).ownBlock) (.slice Ao13 x5_1.length co13) x5_1) := ⟨h1_⟩
       have n2_ : Az (∃ c_, (v832 : Value) = .slice (some adz_v832) y831.length c_) := ⟨h2_⟩
       have n3_ : Az (IsS104 w0 w20 g s0_0 t838) := ⟨h3_⟩
       have n4_ : Az (KeepBut w w20 g none) := ⟨h4_⟩
       have n5_ : Az (Below w0.heap.size w0 w20) := ⟨h5_⟩
       clear HO_5
       clear HI0
       clear HK
       clear HB
       clear h0_ h1_ h2_ h3_ h4_ h5_
       have HO833 := n0_
       have HO_5 := n1_
       have HA_HO833 := n2_
       have HI0 := n3_
       have HK := n4_
       have HB := n5_
       clear n0_ n1_ n2_ n3_ n4_ n5_
       have hHeld := trivial
       obtain ⟨co21, eo21⟩ := HA_HO833.out
       clear HA_HO833
       subst eo21
       refine norm_ (a' := ?_) ?_ ?_
       rotate_left
       ·simp only [putAll, Act.put, List.setIfInBounds_toArray, List.set_cons_zero, List.set_cons_succ]
        rfl
       refine zqp (i := 9) (N := some 25) (v := ?_) (a' := ?_) #[true, true, true, true, true, true, true, true, true, true, false, false, false] rfl rfl (any_of HT_.out (by kernel_rfl)) (fun _ _ _ h => h) (Or.inl ⟨by rfl, ?_⟩) ?_ ?_
       rotate_left
       ·intro w'
        go_simp
        with_reducible rfl
       rotate_left
       ·simp only [Act.put, List.setIfInBounds_toArray, List.set_cons_zero, List.set_cons_succ, i64_w, i32_w]
        rfl
       refine one_ (i := 10) (N := some 26) #[true, true, true, true, true, true, true, true, true, true, true, false, false] rfl rfl (one_of HT_.out (by kernel_rfl)) (by decide) (fun K hK => ?_)
       refine value_ (w1 := ?_) (v := ?_) (by rfl) rfl ?_ ?_
       rotate_left 2
       ·go_simp
        constructor
        ·rfl
        ·rfl
       refine hK.out _ _ trivial (fun hHeld => ?_)
       clear hK K
       refine norm_ (a' := ?_) ?_ ?_
       rotate_left
       ·show Act.put _ (some 26) _ = _
        simp only [Act.put, List.setIfInBounds_toArray, List.set_cons_zero, List.set_cons_succ, i64_w, i32_w]
        rfl
       refine one_ (i := 11) (N := some 27) #[true, true, true, true, true, true, true, true, true, true, true, true, false] rfl rfl (one_of HT_.out (by kernel_rfl)) (by decide) (fun K hK => ?_)
       refine Kd.R_append_step (Kd.int .u8) w.heap.size (by rfl) (.tmp 16) (.tmp 26) 22 5 (.int .u8 0) 1 rfl Try.underlying22 info5 rfl (by decide) (by omega) (.slice Ao13 x5_1.length co13) x5_1 (((rd y831 t834) + ((t837) % 256)) % 256) [.int .u8 (((rd y831 t834) + ((t837) % 256)) % 256)] (fun k_ => some k_ ≠ (.slice (some adz_v832) y831.length co21 : Value).ownBlock) (fun _ => False) rfl rfl ?aP (fun _ hk => hk.elim) ?aF ?aO (Below.refl _ _) ?aS ?aL ?_
       (case aP => exact rfl)
       (case aF => exact (fun k_ hk => Kd.fresh' (Kd.R_lt (by (with_reducible repeat (first | apply Kd.R_alloc | apply Kd.R_drewN | apply Kd.R_drew)); exact HO833.out)) k_ hk))
       (case aO => exact (by (with_reducible repeat (first | apply Kd.R_alloc | apply Kd.R_drewN | apply Kd.R_drew)); exact HO_5.out))
       (case aS => exact (keep_size (w := w) (g := g) (row := none) (by repeat (first | (with_reducible first | exact HK.out | apply KeepBut.set_ | apply keep_drewN | apply keep_drew | apply keep_alloc) | exact HK.out))))
       (case aL => have := LMc12.out; omega)
       intro v840 w22 ho hb hg hat
       rw [← Ny839.out] at ho
       have n0_ := Az.mk (IsS104.grown (by repeat (first | (with_reducible first | exact HI0.out | apply IsS104.alloc | apply IsS104.drewN | apply IsS104.drew | apply IsS104.set_1) | exact HI0.out)) hg (IsS104.own_ne HI0.out HO_5.out (by decide)))
       have n1_ := Az.mk (Kd.R_after (ok := (fun _ => True)) (by (with_reducible repeat (first | apply Kd.R_alloc | apply Kd.R_drewN | apply Kd.R_drew)); exact Kd.R_mono HO833.out (fun _ hk => ⟨trivial, hk⟩)) hg hat)
       have n2_ := Az.mk (below_weaken (by repeat (first | (with_reducible first | exact HB.out | apply zq2 | apply zq1 | apply zqd | refine zq3 ?_ (IsS104.ge HI0.out)) | exact HB.out)) HL.out hb)
       have n3_ := Az.mk (KeepBut.trans (by repeat (first | (with_reducible first | exact HK.out | apply KeepBut.set_ | apply keep_drewN | apply keep_drew | apply keep_alloc) | exact HK.out)) (KeepBut.of_grown hg g) (Kd.R_base2 HO_5.out))
       have n4_ := Az.mk (ho)
       clear HI0
       clear HO833
       clear HB
       clear HK
       clear HO_5
       have HI0 := n0_
       have HO833 := n1_
       have HB := n2_
       have HK := n3_
       have HO841 := n4_
       clear n0_ n1_ n2_ n3_ n4_
       clear ho hb hg hat
       refine hK.out _ _ trivial (fun hHeld => ?_)
       clear hK K
       refine norm_ (a' := ?_) ?_ ?_
       rotate_left
       ·show Act.put _ (some 27) _ = _
        simp only [Act.put, List.setIfInBounds_toArray, List.set_cons_zero, List.set_cons_succ, i64_w, i32_w]
        rfl
       refine zqp (i := 12) (N := some 5) (v := ?_) (a' := ?_) #[true, true, true, true, true, true, true, true, true, true, true, true, true] rfl rfl (any_of HT_.out (by kernel_rfl)) (fun _ _ _ h => h) (Or.inl ⟨by rfl, ?_⟩) ?_ ?_
       rotate_left
       ·intro w'
        go_simp
        with_reducible rfl
       rotate_left
       ·simp only [Act.put, List.setIfInBounds_toArray, List.set_cons_zero, List.set_cons_succ, i64_w, i32_w]
        rfl
       refine done_ (done_of HT_.out (by kernel_rfl)) ?_
       try go_wp2
       go_roundg k1
       case measure => have := HK1.out; omega
       case rel => exact ⟨(y839), (wrap64 (x6_1 - 1)), (t838), (by first | rfl | (simp; done) | (simp [*]; done)), H', ⟨by have := HK1.out; omega⟩, ⟨by (with_reducible repeat (first | apply Kd.R_alloc | apply Kd.R_drewN | apply Kd.R_drew)); exact Kd.R_mono HO841.out (fun _ hk => trivial)⟩, ⟨by repeat (first | (with_reducible first | exact HI0.out | apply IsS104.alloc | apply IsS104.drewN | apply IsS104.drew | apply IsS104.set_1) | exact HI0.out)⟩, ⟨by repeat (first | (with_reducible first | exact HK.out | apply KeepBut.set_ | apply keep_drewN | apply keep_drew | apply keep_alloc) | exact HK.out)⟩, ⟨by repeat (first | (with_reducible first | exact HB.out | apply zq2 | apply zq1 | apply zqd | refine zq3 ?_ (IsS104.ge HI0.out)) | exact HB.out)⟩⟩
      ·rw [if_neg c12] at H
       exact absurd H (by simp)
     ·rw [if_neg c10] at H
      exact absurd H (by simp)
    ·rw [if_neg c9] at H
     exact absurd H (by simp)
   ·rw [if_neg c7] at H
    have c7b0 : decide (0 < x6_1) = false := decide_eq_false c7
    clear c7
    simp only [Option.some.injEq, Prod.mk.injEq] at H
    obtain ⟨rfl, rfl⟩ := H
    have hcv23 := own_string (P := Try.prog) Try.underlying22 Try.underlying5 Try.underlying9 (Kd.own_of_R HO_5.out)
    go_wp2
    go_ret
    exact ⟨by first | rfl | (simp [errW_none, errW_some] <;> rfl) | (simp [*, errW_none, errW_some] <;> rfl), by repeat (first | (with_reducible first | exact HI0.out | apply IsS104.alloc | apply IsS104.drewN | apply IsS104.drew | apply IsS104.set_1) | exact HI0.out), by repeat (first | (with_reducible first | exact HB.out | apply zq2 | apply zq1 | apply zqd | refine zq3 ?_ (IsS104.ge HI0.out)) | exact HB.out), by repeat (first | (with_reducible first | exact HK.out | apply KeepBut.set_ | apply keep_drewN | apply keep_drew | apply keep_alloc) | exact HK.out)⟩
end Go.Proofs.Ytkgpnloghmbmlaa.Print
namespace Go.Proofs.Ytkgpnloghmbmlaa.Print
open Go.RowKit Go.Proofs.YtkgpnloghmbmlaaW.PrintWords Go.Proofs.YtkgpnloghmbmlaaW.PrintLast Go.Proofs.YtkgpnloghmbmlaaW.PrintMore
attribute [local go_sem] max2_int min2_int max_two min_two max_three min_three max_four min_four   -- for this text's walks alone
set_option linter.unusedVariables false
set_option linter.unusedSimpArgs false
def spec_l1Sec.l0 : Nat → ByteArray → Option (ByteArray)
 | 0, _ => none
 | k + 1, x0 => if (x0.size : Int) < 3 then (if x0.size + 1 ≤ 9223372036854775807 then (spec_l1Sec.l0 k (x0 ++ (⟨#[0]⟩ : ByteArray))) else (none)) else (if 0 ≤ 3 then (if 3 ≤ (x0.size : Int) then (some (x0.extract 0 3)) else (none)) else (none))
def spec_l1Sec.f (k : Nat) (a0 : ByteArray) : Option (ByteArray) := spec_l1Sec.l0 k a0
set_option maxHeartbeats 8000000 in
set_option maxRecDepth 100000 in
theorem spec_l1Sec.calls (k : Nat) (a0 : ByteArray) (r : ByteArray) (w : World) (h : spec_l1Sec.f k a0 = some r) :
  Calls Try.prog 103 #[.string a0] w fun e w' => e = .returned (.string r) ∧ Drawn0 w w' := by
 have H : (spec_l1Sec.l0 k a0) = some r := h
 clear h
 have H' := Az.mk H
 clear H
 go_enter Try.func103, Try.ntmps103
 go_wp2
 go_loopg [0] k (fun kq v0 w' => ∃ (x0_1 : ByteArray), v0 = .string x0_1 ∧ Az (spec_l1Sec.l0 kq x0_1 = some r) ∧ Az (kq ≤ k) ∧ Drawn0 w w')
 case atStart => exact ⟨(a0), (by first | rfl | (simp; done) | (simp [*]; done)), H', ⟨Nat.le_refl _⟩, by repeat (first | exact Drawn0.refl _ | apply Drawn0.step)⟩
 case round =>
  clear H'
  try clear c1
  obtain ⟨x0_1, rfl, HA, HK1, ⟨m1, rfl⟩⟩ := hrel
  cases gk with
  | zero => exact absurd HA.out (by simp [spec_l1Sec.l0])
  | succ k1 =>
   have H := HA.out
   clear HA
   simp only [spec_l1Sec.l0] at H
   by_cases c2 : (x0_1.size : Int) < 3
   ·rw [if_pos c2] at H
    have c2b0 : decide ((x0_1.size : Int) < 3) = true := decide_eq_true c2
    have c2b1 : decide (x0_1.size < 3) = true := decide_eq_true (by omega)
    clear c2
    by_cases c3 : x0_1.size + 1 ≤ 9223372036854775807
    ·rw [if_pos c3] at H
     have c3b0 := eq_true c3
     have c3b1 : decide (x0_1.size + 1 ≤ 9223372036854775807) = true := decide_eq_true c3
     try have c3b2 : (9223372036854775807 < x0_1.size + 1) = False := eq_false (Nat.not_lt.2 c3)
     have H' := Az.mk H
     clear H
     go_wp2
     go_roundg k1
     case measure => have := HK1.out; omega
     case rel => exact ⟨(x0_1 ++ (⟨#[0]⟩ : ByteArray)), (by first | rfl | (simp; done) | (simp [*]; done)), H', ⟨by have := HK1.out; omega⟩, by repeat (first | exact Drawn0.refl _ | apply Drawn0.step)⟩
    ·rw [if_neg c3] at H
     exact absurd H (by simp)
   ·rw [if_neg c2] at H
    have c2b0 : decide ((x0_1.size : Int) < 3) = false := decide_eq_false c2
    have c2b1 : decide (x0_1.size < 3) = false := decide_eq_false (by omega)
    clear c2
    by_cases c4 : 0 ≤ 3
    ·rw [if_pos c4] at H
     have c4b0 := eq_true c4
     have c4b1 : decide (0 ≤ 3) = true := decide_eq_true c4
     clear c4
     by_cases c5 : 3 ≤ (x0_1.size : Int)
     ·rw [if_pos c5] at H
      have c5b0 := eq_true c5
      have c5b1 : decide (3 ≤ (x0_1.size : Int)) = true := decide_eq_true c5
      clear c5
      obtain rfl := Option.some.inj H
      go_wp2
      go_ret
      exact ⟨by first | rfl | (simp; done) | (simp [*]; done), by repeat (first | exact Drawn0.refl _ | apply Drawn0.step)⟩
     ·rw [if_neg c5] at H
      exact absurd H (by simp)
    ·rw [if_neg c4] at H
     exact absurd H (by simp)
def spec_l71Put.f (k : Nat) (s0_0 : List Int) (s0_1 : Int) : Option (Bool × Int × ByteArray × Int) := (spec_l6Rd_pick.f k s0_0 s0_1 4).bind fun bt843 => (if bt843.1 = 0 then ((spec_l6Rd_pick.f k s0_0 bt843.2 2).bind fun bt845 => ((spec_l71Text.f k s0_0 bt845.2 6).bind fun bt847 => (some (true, bt845.1, bt847.1, bt847.2)))) else ((spec_l6Rd_pick.f k s0_0 bt843.2 12).bind fun bt849 => ((spec_l71Text.f k s0_0 bt849.2 3).bind fun bt851 => ((spec_l1Sec.f k bt851.1).bind fun t853 => (some (false, bt849.1, t853, bt851.2))))))
set_option maxHeartbeats 8000000 in
set_option maxRecDepth 100000 in
theorem spec_l71Put.calls (k : Nat) (g : Nat) (s0_0 : List Int) (s0_1 : Int) (r1 : Bool) (r2 : Int) (r3 : ByteArray) (r4 : Int) (w0 w : World) (hI : IsS104 w0 w g s0_0 s0_1) (hB : Below w0.heap.size w0 w) (h : spec_l71Put.f k s0_0 s0_1 = some (r1, r2, r3, r4)) :
  Calls Try.prog 81 #[.pointer (some ⟨g, 0, none⟩)] w fun e w' => e = .returned (.agg #[.bool r1, .int .i64 r2, .string r3]) ∧ IsS104 w0 w' g s0_0 r4 ∧ Below w0.heap.size w0 w' ∧ KeepBut w w' g none := by
 have hu54 := Try.underlying54
 have HI0 := Az.mk hI
 have HK := Az.mk (KeepBut.refl w g none)
 have HL := Az.mk hB.size
 clear hI
 have HW0 := Az.mk hB.size
 have HB := Az.mk hB
 clear hB
 have H : ((spec_l6Rd_pick.f k s0_0 s0_1 4).bind fun bt843 => (if bt843.1 = 0 then ((spec_l6Rd_pick.f k s0_0 bt843.2 2).bind fun bt845 => ((spec_l71Text.f k s0_0 bt845.2 6).bind fun bt847 => (some (true, bt845.1, bt847.1, bt847.2)))) else ((spec_l6Rd_pick.f k s0_0 bt843.2 12).bind fun bt849 => ((spec_l71Text.f k s0_0 bt849.2 3).bind fun bt851 => ((spec_l1Sec.f k bt851.1).bind fun t853 => (some (false, bt849.1, t853, bt851.2))))))) = some (r1, r2, r3, r4) := h
 clear h
 replace H := Option.bind_eq_some_iff.mp H
 obtain ⟨⟨t843, t844⟩, A20, H⟩ := H
 replace H : (if t843 = 0 then ((spec_l6Rd_pick.f k s0_0 t844 2).bind fun bt845 => ((spec_l71Text.f k s0_0 bt845.2 6).bind fun bt847 => (some (true, bt845.1, bt847.1, bt847.2)))) else ((spec_l6Rd_pick.f k s0_0 t844 12).bind fun bt849 => ((spec_l71Text.f k s0_0 bt849.2 3).bind fun bt851 => ((spec_l1Sec.f k bt851.1).bind fun t853 => (some (false, bt849.1, t853, bt851.2)))))) = some (r1, r2, r3, r4) := H
 have A2 := Az.mk A20
 clear A20
 by_cases c3 : t843 = 0
 ·rw [if_pos c3] at H
  have c3b0 : (t843 == 0) = true := beq_iff_eq.mpr c3
  have c3b1 : (t843 != 0) = false := bne_eq_false_iff_eq.mpr c3
  clear c3
  replace H := Option.bind_eq_some_iff.mp H
  obtain ⟨⟨t845, t846⟩, A40, H⟩ := H
  replace H : ((spec_l71Text.f k s0_0 t846 6).bind fun bt847 => (some (true, t845, bt847.1, bt847.2))) = some (r1, r2, r3, r4) := H
  have A4 := Az.mk A40
  clear A40
  replace H := Option.bind_eq_some_iff.mp H
  obtain ⟨⟨t847, t848⟩, A50, H⟩ := H
  replace H : (some (true, t845, t847, t848)) = some (r1, r2, r3, r4) := H
  have A5 := Az.mk A50
  clear A50
  simp only [Option.some.injEq, Prod.mk.injEq] at H
  obtain ⟨rfl, rfl, rfl, rfl⟩ := H
  go_enter Try.func81, Try.ntmps81
  go_wp2_with (first | ((with_reducible refine zqg (N := 2) rfl ?_); refine zqb ?hg (N := 2) ?hd (cs := #[.bool false, .int .i64 0, .string (⟨#[]⟩ : ByteArray)]) (t := 54) ?hr ?_; (case hd => rfl); (case hg => rfl); (case hr => first | (go_simp; done) | (go_simp; rfl)); intro gb842 hg w6 hbox hb; have n0_ := Az.mk (IsS104.below (by repeat (first | (with_reducible first | exact HI0.out | apply IsS104.alloc | apply IsS104.drewN | apply IsS104.drew | apply IsS104.set_1) | exact HI0.out)) hb); have n1_ := Az.mk (KeepBut.trans (by repeat (first | (with_reducible first | exact HK.out | apply KeepBut.set_ | apply keep_drewN | apply keep_drew | apply keep_alloc) | exact HK.out)) (KeepBut.of_below hb g none) (.inl rfl)); have n2_ := Az.mk (below_step (by repeat (first | (with_reducible first | exact HB.out | apply zq2 | apply zq1 | apply zqd | refine zq3 ?_ (IsS104.ge HI0.out)) | exact HB.out)) hb); have n3_ := Az.mk (hbox); have n4_ := Az.mk ((by rw [hg]; exact (keep_size (w := w) (g := g) (row := none) (by repeat (first | (with_reducible first | exact HK.out | apply KeepBut.set_ | apply keep_drewN | apply keep_drew | apply keep_alloc) | exact HK.out))) : w.heap.size ≤ gb842)); have n5_ := Az.mk ((Nat.le_trans HW0.out (by rw [hg]; exact (keep_size (w := w) (g := g) (row := none) (by repeat (first | (with_reducible first | exact HK.out | apply KeepBut.set_ | apply keep_drewN | apply keep_drew | apply keep_alloc) | exact HK.out))) : w.heap.size ≤ gb842) : w0.heap.size ≤ gb842)); have n6_ := Az.mk ((by rw [hg]; exact Nat.ne_of_lt (IsS104.lt (show IsS104 w0 _ g s0_0 s0_1 from by repeat (first | (with_reducible first | exact HI0.out | apply IsS104.alloc | apply IsS104.drewN | apply IsS104.drew | apply IsS104.set_1) | exact HI0.out))) : g ≠ gb842)); have n7_ := Az.mk ((by rw [hg]; exact Nat.ne_of_gt (IsS104.lt (show IsS104 w0 _ g s0_0 s0_1 from by repeat (first | (with_reducible first | exact HI0.out | apply IsS104.alloc | apply IsS104.drewN | apply IsS104.drew | apply IsS104.set_1) | exact HI0.out))) : gb842 ≠ g)); clear HI0; clear HK; clear HB; have HI0 := n0_; have HK := n1_; have HB := n2_; have BK842 := n3_; have GW842 := n4_; have GE842 := n5_; have NB0_842 := n6_; have NB842_0 := n7_; clear n0_ n1_ n2_ n3_ n4_ n5_ n6_ n7_; clear hb hbox hg) | ((with_reducible refine gate_callee (f := 48) rfl ?_); refine zq9 (some 4) rfl rfl Try.func48 (by kernel_rfl) rfl #[.pointer (some ⟨g, 0, none⟩), .int .i64 4] rfl (by (try simp only [List.map_toArray, List.map_cons, List.map_nil]); first | done | rfl | (simp only [List.length_drop, List.length_take]; rfl)) ?_; (with_reducible refine (spec_l6Rd_pick.calls k g s0_0 s0_1 4 t843 t844 w0 _ ?side1 ?side2 A2.out).mono ?_); (case side1 => repeat (first | (with_reducible first | exact HI0.out | apply IsS104.alloc | apply IsS104.drewN | apply IsS104.drew | apply IsS104.set_1 | refine IsS104.far ?_ NB0_842.out _) | exact HI0.out)); (case side2 => repeat (first | (with_reducible first | exact HB.out | apply zq2 | apply zq1 | apply zqd | refine zq3 ?_ (IsS104.ge HI0.out) | refine zq3 ?_ GE842.out) | exact HB.out)); rintro e w7 ⟨rfl, hi, hb, hk⟩; refine ⟨_, rfl, ?_⟩; have n0_ := Az.mk (KeepBut.blk hk (g' := gb842) (o := .cells #[.bool false, .int .i64 0, .string (⟨#[]⟩ : ByteArray)] 54 (0, 0)) (by (with_reducible repeat (first | refine zq6 ?_ _ | refine zq8 ?_ | refine zq7 ?_ _)); exact BK842.out) NB842_0.out (by simp)); have n1_ := Az.mk (KeepBut.trans (by repeat (first | (with_reducible first | exact HK.out | apply KeepBut.set_ | apply keep_drewN | apply keep_drew | apply keep_alloc | refine keep_far ?_ GW842.out _) | exact HK.out)) hk (.inl rfl)); have n2_ := Az.mk (hb); have n3_ := Az.mk (hi); clear BK842; clear HK; clear HB; clear HI0; have BK842 := n0_; have HK := n1_; have HB := n2_; have HI0 := n3_; clear n0_ n1_ n2_ n3_; (try clear hb); (try clear hb2); (try clear hk); (try clear hi)) | ((with_reducible refine gate_callee (f := 48) rfl ?_); refine zq9 (some 7) rfl rfl Try.func48 (by kernel_rfl) rfl #[.pointer (some ⟨g, 0, none⟩), .int .i64 2] rfl (by (try simp only [List.map_toArray, List.map_cons, List.map_nil]); first | done | rfl | (simp only [List.length_drop, List.length_take]; rfl)) ?_; (with_reducible refine (spec_l6Rd_pick.calls k g s0_0 t844 2 t845 t846 w0 _ ?side1 ?side2 A4.out).mono ?_); (case side1 => repeat (first | (with_reducible first | exact HI0.out | apply IsS104.alloc | apply IsS104.drewN | apply IsS104.drew | apply IsS104.set_1 | refine IsS104.far ?_ NB0_842.out _) | exact HI0.out)); (case side2 => repeat (first | (with_reducible first | exact HB.out | apply zq2 | apply zq1 | apply zqd | refine zq3 ?_ (IsS104.ge HI0.out) | refine zq3 ?_ GE842.out) | exact HB.out)); rintro e w8 ⟨rfl, hi, hb, hk⟩; refine ⟨_, rfl, ?_⟩; have n0_ := Az.mk (KeepBut.blk hk (g' := gb842) (o := .cells #[.bool false, .int .i64 0, .string (⟨#[]⟩ : ByteArray)] 54 (0, 0)) (by (with_reducible repeat (first | refine zq6 ?_ _ | refine zq8 ?_ | refine zq7 ?_ _)); exact BK842.out) NB842_0.out (by simp)); have n1_ := Az.mk (KeepBut.trans (by repeat (first | (with_reducible first | exact HK.out | apply KeepBut.set_ | apply keep_drewN | apply keep_drew | apply keep_alloc | refine keep_far ?_ GW842.out _) | exact HK.out)) hk (.inl rfl)); have n2_ := Az.mk (hb); have n3_ := Az.mk (hi); clear BK842; clear HK; clear HB; clear HI0; have BK842 := n0_; have HK := n1_; have HB := n2_; have HI0 := n3_; clear n0_ n1_ n2_ n3_; (try clear hb); (try clear hb2); (try clear hk); (try clear hi)) | ((with_reducible refine gate_callee (f := 102) rfl ?_); refine zq9 (some 9) rfl rfl Try.func102 (by kernel_rfl) rfl #[.pointer (some ⟨g, 0, none⟩), .int .i64 6] rfl (by (try simp only [List.map_toArray, List.map_cons, List.map_nil]); first | done | rfl | (simp only [List.length_drop, List.length_take]; rfl)) ?_; (with_reducible refine (spec_l71Text.calls k g s0_0 t846 6 t847 t848 w0 _ ?side1 ?side2 A5.out).mono ?_); (case side1 => repeat (first | (with_reducible first | exact HI0.out | apply IsS104.alloc | apply IsS104.drewN | apply IsS104.drew | apply IsS104.set_1 | refine IsS104.far ?_ NB0_842.out _) | exact HI0.out)); (case side2 => repeat (first | (with_reducible first | exact HB.out | apply zq2 | apply zq1 | apply zqd | refine zq3 ?_ (IsS104.ge HI0.out) | refine zq3 ?_ GE842.out) | exact HB.out)); rintro e w9 ⟨rfl, hi, hb, hk⟩; refine ⟨_, rfl, ?_⟩; have n0_ := Az.mk (KeepBut.blk hk (g' := gb842) (o := .cells #[.bool false, .int .i64 0, .string (⟨#[]⟩ : ByteArray)] 54 (0, 0)) (by (with_reducible repeat (first | refine zq6 ?_ _ | refine zq8 ?_ | refine zq7 ?_ _)); exact BK842.out) NB842_0.out (by simp)); have n1_ := Az.mk (KeepBut.trans (by repeat (first | (with_reducible first | exact HK.out | apply KeepBut.set_ | apply keep_drewN | apply keep_drew | apply keep_alloc | refine keep_far ?_ GW842.out _) | exact HK.out)) hk (.inl rfl)); have n2_ := Az.mk (hb); have n3_ := Az.mk (hi); clear BK842; clear HK; clear HB; clear HI0; have BK842 := n0_; have HK := n1_; have HB := n2_; have HI0 := n3_; clear n0_ n1_ n2_ n3_; (try clear hb); (try clear hb2); (try clear hk); (try clear hi); have hnb10 := NB842_0.out; have hnc10 := NB0_842.out; have hcz11_0 : w9.cell? ⟨gb842, 0, none⟩ = some (.bool false) := (zq4 BK842.out 0).trans rfl; have hcz11_1 : w9.cell? ⟨gb842, 1, none⟩ = some (.int .i64 0) := (zq4 BK842.out 1).trans rfl; have hcz11_2 : w9.cell? ⟨gb842, 2, none⟩ = some (.string (⟨#[]⟩ : ByteArray)) := (zq4 BK842.out 2).trans rfl; have hfz11_0 := zq5 BK842.out 0; have hfz11_1 := zq5 BK842.out 1; have hfz11_2 := zq5 BK842.out 2))
  refine bodyPost_ret (results_cell_row rfl _ _ gb842 54 #[.bool true, .int .i64 t845, .string t847] (0, 0) _ rfl (by (with_reducible repeat (first | refine zq6 ?_ _ | refine zq8 ?_ | refine zq7 ?_ _)); refine blk_put (cs := #[.bool true, .int .i64 t845, .string (⟨#[]⟩ : ByteArray)]) ?_ 2 _ rfl; (with_reducible repeat (first | refine zq6 ?_ _ | refine zq8 ?_ | refine zq7 ?_ _)); refine blk_put (cs := #[.bool true, .int .i64 0, .string (⟨#[]⟩ : ByteArray)]) ?_ 1 _ rfl; (with_reducible repeat (first | refine zq6 ?_ _ | refine zq8 ?_ | refine zq7 ?_ _)); refine blk_put (cs := #[.bool false, .int .i64 0, .string (⟨#[]⟩ : ByteArray)]) ?_ 0 _ rfl; (with_reducible repeat (first | refine zq6 ?_ _ | refine zq8 ?_ | refine zq7 ?_ _)); exact BK842.out) Try.underlying54 rfl (by kernel_rfl)) rfl ?_
  exact ⟨by first | rfl | (simp [errW_none, errW_some] <;> rfl) | (simp [*, errW_none, errW_some] <;> rfl), by repeat (first | (with_reducible first | exact HI0.out | apply IsS104.alloc | apply IsS104.drewN | apply IsS104.drew | apply IsS104.set_1 | refine IsS104.far ?_ NB0_842.out _) | exact HI0.out), by repeat (first | (with_reducible first | exact HB.out | apply zq2 | apply zq1 | apply zqd | refine zq3 ?_ (IsS104.ge HI0.out) | refine zq3 ?_ GE842.out) | exact HB.out), by repeat (first | (with_reducible first | exact HK.out | apply KeepBut.set_ | apply keep_drewN | apply keep_drew | apply keep_alloc | refine keep_far ?_ GW842.out _) | exact HK.out)⟩
 ·rw [if_neg c3] at H
  have c3b0 : (t843 == 0) = false := beq_eq_false_iff_ne.mpr c3
  have c3b1 : (t843 != 0) = true := bne_iff_ne.mpr c3
  replace H := Option.bind_eq_some_iff.mp H
  obtain ⟨⟨t849, t850⟩, A120, H⟩ := H
  replace H : ((spec_l71Text.f k s0_0 t850 3).bind fun bt851 => ((spec_l1Sec.f k bt851.1).bind fun t853 => (some (false, t849, t853, bt851.2)))) = some (r1, r2, r3, r4) := H
  have A12 := Az.mk A120
  clear A120
  replace H := Option.bind_eq_some_iff.mp H
  obtain ⟨⟨t851, t852⟩, A130, H⟩ := H
  replace H : ((spec_l1Sec.f k t851).bind fun t853 => (some (false, t849, t853, t852))) = some (r1, r2, r3, r4) := H
  have A13 := Az.mk A130
  clear A130
  replace H := Option.bind_eq_some_iff.mp H
  obtain ⟨t853, A140, H⟩ := H
  replace H : (some (false, t849, t853, t852)) = some (r1, r2, r3, r4) := H
  have A14 := Az.mk A140
  clear A140
  simp only [Option.some.injEq, Prod.mk.injEq] at H
  obtain ⟨rfl, rfl, rfl, rfl⟩ := H
  go_enter Try.func81, Try.ntmps81
  go_wp2_with (first | ((with_reducible refine zqg (N := 2) rfl ?_); refine zqb ?hg (N := 2) ?hd (cs := #[.bool false, .int .i64 0, .string (⟨#[]⟩ : ByteArray)]) (t := 54) ?hr ?_; (case hd => rfl); (case hg => rfl); (case hr => first | (go_simp; done) | (go_simp; rfl)); intro gb842 hg w15 hbox hb; have n0_ := Az.mk (IsS104.below (by repeat (first | (with_reducible first | exact HI0.out | apply IsS104.alloc | apply IsS104.drewN | apply IsS104.drew | apply IsS104.set_1) | exact HI0.out)) hb); have n1_ := Az.mk (KeepBut.trans (by repeat (first | (with_reducible first | exact HK.out | apply KeepBut.set_ | apply keep_drewN | apply keep_drew | apply keep_alloc) | exact HK.out)) (KeepBut.of_below hb g none) (.inl rfl)); have n2_ := Az.mk (below_step (by repeat (first | (with_reducible first | exact HB.out | apply zq2 | apply zq1 | apply zqd | refine zq3 ?_ (IsS104.ge HI0.out)) | exact HB.out)) hb); have n3_ := Az.mk (hbox); have n4_ := Az.mk ((by rw [hg]; exact (keep_size (w := w) (g := g) (row := none) (by repeat (first | (with_reducible first | exact HK.out | apply KeepBut.set_ | apply keep_drewN | apply keep_drew | apply keep_alloc) | exact HK.out))) : w.heap.size ≤ gb842)); have n5_ := Az.mk ((Nat.le_trans HW0.out (by rw [hg]; exact (keep_size (w := w) (g := g) (row := none) (by repeat (first | (with_reducible first | exact HK.out | apply KeepBut.set_ | apply keep_drewN | apply keep_drew | apply keep_alloc) | exact HK.out))) : w.heap.size ≤ gb842) : w0.heap.size ≤ gb842)); have n6_ := Az.mk ((by rw [hg]; exact Nat.ne_of_lt (IsS104.lt (show IsS104 w0 _ g s0_0 s0_1 from by repeat (first | (with_reducible first | exact HI0.out | apply IsS104.alloc | apply IsS104.drewN | apply IsS104.drew | apply IsS104.set_1) | exact HI0.out))) : g ≠ gb842)); have n7_ := Az.mk ((by rw [hg]; exact Nat.ne_of_gt (IsS104.lt (show IsS104 w0 _ g s0_0 s0_1 from by repeat (first | (with_reducible first | exact HI0.out | apply IsS104.alloc | apply IsS104.drewN | apply IsS104.drew | apply IsS104.set_1) | exact HI0.out))) : gb842 ≠ g)); clear HI0; clear HK; clear HB; have HI0 := n0_; have HK := n1_; have HB := n2_; have BK842 := n3_; have GW842 := n4_; have GE842 := n5_; have NB0_842 := n6_; have NB842_0 := n7_; clear n0_ n1_ n2_ n3_ n4_ n5_ n6_ n7_; clear hb hbox hg) | ((with_reducible refine gate_callee (f := 48) rfl ?_); refine zq9 (some 4) rfl rfl Try.func48 (by kernel_rfl) rfl #[.pointer (some ⟨g, 0, none⟩), .int .i64 4] rfl (by (try simp only [List.map_toArray, List.map_cons, List.map_nil]); first | done | rfl | (simp only [List.length_drop, List.length_take]; rfl)) ?_; (with_reducible refine (spec_l6Rd_pick.calls k g s0_0 s0_1 4 t843 t844 w0 _ ?side1 ?side2 A2.out).mono ?_); (case side1 => repeat (first | (with_reducible first | exact HI0.out | apply IsS104.alloc | apply IsS104.drewN | apply IsS104.drew | apply IsS104.set_1 | refine IsS104.far ?_ NB0_842.out _) | exact HI0.out)); (case side2 => repeat (first | (with_reducible first | exact HB.out | apply zq2 | apply zq1 | apply zqd | refine zq3 ?_ (IsS104.ge HI0.out) | refine zq3 ?_ GE842.out) | exact HB.out)); rintro e w16 ⟨rfl, hi, hb, hk⟩; refine ⟨_, rfl, ?_⟩; have n0_ := Az.mk (KeepBut.blk hk (g' := gb842) (o := .cells #[.bool false, .int .i64 0, .string (⟨#[]⟩ : ByteArray)] 54 (0, 0)) (by (with_reducible repeat (first | refine zq6 ?_ _ | refine zq8 ?_ | refine zq7 ?_ _)); exact BK842.out) NB842_0.out (by simp)); have n1_ := Az.mk (KeepBut.trans (by repeat (first | (with_reducible first | exact HK.out | apply KeepBut.set_ | apply keep_drewN | apply keep_drew | apply keep_alloc | refine keep_far ?_ GW842.out _) | exact HK.out)) hk (.inl rfl)); have n2_ := Az.mk (hb); have n3_ := Az.mk (hi); clear BK842; clear HK; clear HB; clear HI0; have BK842 := n0_; have HK := n1_; have HB := n2_; have HI0 := n3_; clear n0_ n1_ n2_ n3_; (try clear hb); (try clear hb2); (try clear hk); (try clear hi)) | ((with_reducible refine gate_callee (f := 48) rfl ?_); refine zq9 (some 12) rfl rfl Try.func48 (by kernel_rfl) rfl #[.pointer (some ⟨g, 0, none⟩), .int .i64 12] rfl (by (try simp only [List.map_toArray, List.map_cons, List.map_nil]); first | done | rfl | (simp only [List.length_drop, List.length_take]; rfl)) ?_; (with_reducible refine (spec_l6Rd_pick.calls k g s0_0 t844 12 t849 t850 w0 _ ?side1 ?side2 A12.out).mono ?_); (case side1 => repeat (first | (with_reducible first | exact HI0.out | apply IsS104.alloc | apply IsS104.drewN | apply IsS104.drew | apply IsS104.set_1 | refine IsS104.far ?_ NB0_842.out _) | exact HI0.out)); (case side2 => repeat (first | (with_reducible first | exact HB.out | apply zq2 | apply zq1 | apply zqd | refine zq3 ?_ (IsS104.ge HI0.out) | refine zq3 ?_ GE842.out) | exact HB.out)); rintro e w17 ⟨rfl, hi, hb, hk⟩; refine ⟨_, rfl, ?_⟩; have n0_ := Az.mk (KeepBut.blk hk (g' := gb842) (o := .cells #[.bool false, .int .i64 0, .string (⟨#[]⟩ : ByteArray)] 54 (0, 0)) (by (with_reducible repeat (first | refine zq6 ?_ _ | refine zq8 ?_ | refine zq7 ?_ _)); exact BK842.out) NB842_0.out (by simp)); have n1_ := Az.mk (KeepBut.trans (by repeat (first | (with_reducible first | exact HK.out | apply KeepBut.set_ | apply keep_drewN | apply keep_drew | apply keep_alloc | refine keep_far ?_ GW842.out _) | exact HK.out)) hk (.inl rfl)); have n2_ := Az.mk (hb); have n3_ := Az.mk (hi); clear BK842; clear HK; clear HB; clear HI0; have BK842 := n0_; have HK := n1_; have HB := n2_; have HI0 := n3_; clear n0_ n1_ n2_ n3_; (try clear hb); (try clear hb2); (try clear hk); (try clear hi)) | ((with_reducible refine gate_callee (f := 102) rfl ?_); refine zq9 (some 14) rfl rfl Try.func102 (by kernel_rfl) rfl #[.pointer (some ⟨g, 0, none⟩), .int .i64 3] rfl (by (try simp only [List.map_toArray, List.map_cons, List.map_nil]); first | done | rfl | (simp only [List.length_drop, List.length_take]; rfl)) ?_; (with_reducible refine (spec_l71Text.calls k g s0_0 t850 3 t851 t852 w0 _ ?side1 ?side2 A13.out).mono ?_); (case side1 => repeat (first | (with_reducible first | exact HI0.out | apply IsS104.alloc | apply IsS104.drewN | apply IsS104.drew | apply IsS104.set_1 | refine IsS104.far ?_ NB0_842.out _) | exact HI0.out)); (case side2 => repeat (first | (with_reducible first | exact HB.out | apply zq2 | apply zq1 | apply zqd | refine zq3 ?_ (IsS104.ge HI0.out) | refine zq3 ?_ GE842.out) | exact HB.out)); rintro e w18 ⟨rfl, hi, hb, hk⟩; refine ⟨_, rfl, ?_⟩; have n0_ := Az.mk (KeepBut.blk hk (g' := gb842) (o := .cells #[.bool false, .int .i64 0, .string (⟨#[]⟩ : ByteArray)] 54 (0, 0)) (by (with_reducible repeat (first | refine zq6 ?_ _ | refine zq8 ?_ | refine zq7 ?_ _)); exact BK842.out) NB842_0.out (by simp)); have n1_ := Az.mk (KeepBut.trans (by repeat (first | (with_reducible first | exact HK.out | apply KeepBut.set_ | apply keep_drewN | apply keep_drew | apply keep_alloc | refine keep_far ?_ GW842.out _) | exact HK.out)) hk (.inl rfl)); have n2_ := Az.mk (hb); have n3_ := Az.mk (hi); clear BK842; clear HK; clear HB; clear HI0; have BK842 := n0_; have HK := n1_; have HB := n2_; have HI0 := n3_; clear n0_ n1_ n2_ n3_; (try clear hb); (try clear hb2); (try clear hk); (try clear hi)) | ((with_reducible refine gate_callee (f := 103) rfl ?_); refine zq9 (some 15) rfl rfl Try.func103 (by kernel_rfl) rfl #[.string t851] rfl (by (try simp only [List.map_toArray, List.map_cons, List.map_nil]); first | done | rfl | (simp only [List.length_drop, List.length_take]; rfl)) ?_; (with_reducible refine (spec_l1Sec.calls k t851 t853 _ A14.out).mono ?_); rintro e w' ⟨rfl, ⟨nd, rfl⟩⟩; refine ⟨_, rfl, ?_⟩; (try (rw [drewN_self w18]; generalize hq_ : World.drewN w18 _ = w18; have n0_ : Az (w18.heap[gb842]? = some (.cells #[.bool false, .int .i64 0, .string (⟨#[]⟩ : ByteArray)] 54 (0, 0))) := ⟨by rw [← hq_]; exact (by (with_reducible repeat (first | refine zq6 ?_ _ | refine zq8 ?_ | refine zq7 ?_ _)); exact BK842.out)⟩; have n1_ : Az (IsS104 w0 w18 g s0_0 t852) := ⟨by rw [← hq_]; exact (by repeat (first | (with_reducible first | exact HI0.out | apply IsS104.alloc | apply IsS104.drewN | apply IsS104.drew | apply IsS104.set_1 | refine IsS104.far ?_ NB0_842.out _) | exact HI0.out))⟩; have n2_ : Az (KeepBut w w18 g none) := ⟨by rw [← hq_]; exact (by repeat (first | (with_reducible first | exact HK.out | apply KeepBut.set_ | apply keep_drewN | apply keep_drew | apply keep_alloc | refine keep_far ?_ GW842.out _) | exact HK.out))⟩; have n3_ : Az (Below w0.heap.size w0 w18) := ⟨by rw [← hq_]; exact (by repeat (first | (with_reducible first | exact HB.out | apply zq2 | apply zq1 | apply zqd | refine zq3 ?_ (IsS104.ge HI0.out) | refine zq3 ?_ GE842.out) | exact HB.out))⟩; clear BK842 HI0 HK HB hq_; have BK842 := n0_; have HI0 := n1_; have HK := n2_; have HB := n3_; clear n0_ n1_ n2_ n3_)); have hnb19 := NB842_0.out; have hnc19 := NB0_842.out; have hcz20_0 : w18.cell? ⟨gb842, 0, none⟩ = some (.bool false) := (zq4 BK842.out 0).trans rfl; have hcz20_1 : w18.cell? ⟨gb842, 1, none⟩ = some (.int .i64 0) := (zq4 BK842.out 1).trans rfl; have hcz20_2 : w18.cell? ⟨gb842, 2, none⟩ = some (.string (⟨#[]⟩ : ByteArray)) := (zq4 BK842.out 2).trans rfl; have hfz20_0 := zq5 BK842.out 0; have hfz20_1 := zq5 BK842.out 1; have hfz20_2 := zq5 BK842.out 2))
  refine bodyPost_ret (results_cell_row rfl _ _ gb842 54 #[.bool false, .int .i64 t849, .string t853] (0, 0) _ rfl (by (with_reducible repeat (first | refine zq6 ?_ _ | refine zq8 ?_ | refine zq7 ?_ _)); refine blk_put (cs := #[.bool false, .int .i64 t849, .string (⟨#[]⟩ : ByteArray)]) ?_ 2 _ rfl; (with_reducible repeat (first | refine zq6 ?_ _ | refine zq8 ?_ | refine zq7 ?_ _)); refine blk_put (cs := #[.bool false, .int .i64 0, .string (⟨#[]⟩ : ByteArray)]) ?_ 1 _ rfl; (with_reducible repeat (first | refine zq6 ?_ _ | refine zq8 ?_ | refine zq7 ?_ _)); refine blk_put (cs := #[.bool false, .int .i64 0, .string (⟨#[]⟩ : ByteArray)]) ?_ 0 _ rfl; (with_reducible repeat (first | refine zq6 ?_ _ | refine zq8 ?_ | refine zq7 ?_ _)); exact BK842.out) Try.underlying54 rfl (by kernel_rfl)) rfl ?_
  exact ⟨by first | rfl | (simp [errW_none, errW_some] <;> rfl) | (simp [*, errW_none, errW_some] <;> rfl), by repeat (first | (with_reducible first | exact HI0.out | apply IsS104.alloc | apply IsS104.drewN | apply IsS104.drew | apply IsS104.set_1 | refine IsS104.far ?_ NB0_842.out _) | exact HI0.out), by repeat (first | (with_reducible first | exact HB.out | apply zq2 | apply zq1 | apply zqd | refine zq3 ?_ (IsS104.ge HI0.out) | refine zq3 ?_ GE842.out) | exact HB.out), by repeat (first | (with_reducible first | exact HK.out | apply KeepBut.set_ | apply keep_drewN | apply keep_drew | apply keep_alloc | refine keep_far ?_ GW842.out _) | exact HK.out)⟩
end Go.Proofs.Ytkgpnloghmbmlaa.Print
namespace Go.Proofs.Ytkgpnloghmbmlaa.Hq
open Go.RowKit Go.Proofs.Ytkgpnloghmbmlaa.Print Go.Proofs.YtkgpnloghmbmlaaW.PrintWords Go.Proofs.YtkgpnloghmbmlaaW.PrintLast Go.Proofs.Ytkgpnloghmbmlaa.Pure Go.Proofs.Ytkgpnloghmbmlaa.Hd
set_option linter.unusedVariables false
theorem text_l0 {b : List Int} (hb : Pure.Code b) (n : Nat) : ∀ (p : Int) (x : List Int), 0 ≤ p → n ≤ 1000 → x.length + n ≤ 1000000 → p + 2 * (n : Int) ≤ 10000000 →
    ∃ s q, Ev (fun k => spec_l71Text.l0 k x (n : Int) b p) (s, q) ∧ s.size ≤ x.length + n ∧ p ≤ q ∧ q ≤ p + 2 * (n : Int) := by
  induction n with
  | zero =>
    intro p x h0 hn hx hp
    refine ⟨strOfNums x, p, Ev.next ?_, by rw [size_strOfNums']; omega, by omega, by omega⟩
    simp only [spec_l71Text.l0]
    exact Ev.neg (by omega) (Ev.ret rfl)
  | succ n ih =>
    intro p x h0 hn hx hp
    obtain ⟨r1, e1, a1, a2, _⟩ := pick_ev hb p 6 (by omega) (by omega)
    obtain ⟨r2, e2, _, _, _⟩ := pick_ev hb (p + 1) 3 (by omega) (by omega)
    have a2 := a2 (by omega)
    obtain ⟨s, q, e3, l1, l2, l3⟩ := ih (p + 1 + 1) (x ++ [((rd ([97, 98, 122, 0, 255, 128] : List Int) r1) + (r2 % 256)) % 256]) (by omega) (by omega) (by rw [List.length_append, List.length_singleton]; omega) (by omega)
    have e : wrap64 (((n + 1 : Nat) : Int) - 1) = (n : Int) := by rw [wrap_ok (by omega)]; omega
    rw [List.length_append, List.length_singleton] at l1
    refine ⟨s, q, Ev.next ?_, by omega, by omega, by omega⟩
    simp only [spec_l71Text.l0, e]
    clear e
    exact Ev.pos (by omega) (Ev.take rfl (Ev.bind e1 (Ev.pos a1 (Ev.pos (by dsimp only [List.length]; omega) (Ev.bind e2 (Ev.pos (by omega) e3))))))
theorem text_ev {b : List Int} (hb : Pure.Code b) (p : Int) (m : Nat) (h0 : 0 ≤ p) (hm : m ≤ 100) (hp : p ≤ 1000000) : ∃ s q, Ev (fun k => spec_l71Text.f k b p (m : Int)) (s, q) ∧ s.size ≤ m ∧ p ≤ q ∧ q ≤ p + 1 + 2 * (m : Int) := by
  have e : wrap64 ((m : Int) + 1) = (m : Int) + 1 := wrap_ok (by omega)
  obtain ⟨r, e1, a1, a2, _⟩ := pick_ev hb p ((m : Int) + 1) (by omega) (by omega)
  have a2 := a2 (by omega)
  obtain ⟨n, rfl⟩ := Int.eq_ofNat_of_zero_le a1
  obtain ⟨s, q, e2, l1, l2, l3⟩ := text_l0 hb n (p + 1) [] (by omega) (by omega) (by simp; omega) (by omega)
  refine ⟨s, q, ?_, by simp at l1; omega, by omega, by omega⟩
  unfold spec_l71Text.f
  rw [e]
  exact Ev.bind e1 e2
theorem sec_ev (n : Nat) : ∀ s : ByteArray, s.size + n = 3 ∨ (n = 0 ∧ 3 ≤ s.size) → ∃ r, Ev (fun k => spec_l1Sec.f k s) r ∧ r.size = 3 := by
  induction n with
  | zero =>
    intro s hs
    refine ⟨s.extract 0 3, Ev.next ?_, by simp [ByteArray.size_extract]; omega⟩
    simp only [spec_l1Sec.f, spec_l1Sec.l0]
    exact Ev.neg (by omega) (Ev.pos (by omega) (Ev.pos (by omega) (Ev.ret rfl)))
  | succ n ih =>
    intro s hs
    have h1 : (s ++ (⟨#[0]⟩ : ByteArray)).size = s.size + 1 := by rw [ByteArray.size_append]; rfl
    obtain ⟨r, e, hr⟩ := ih (s ++ (⟨#[0]⟩ : ByteArray)) (by omega)
    refine ⟨r, Ev.next ?_, hr⟩
    simp only [spec_l1Sec.f, spec_l1Sec.l0]
    exact Ev.pos (by omega) (Ev.pos (by omega) e)
theorem put_ev {b : List Int} (hb : Pure.Code b) (p : Int) (h0 : 0 ≤ p) (hp : p ≤ 900000) : ∃ (x : S54) (q : Int), Ev (fun k => spec_l71Put.f k b p) (x.f0, x.f1, x.f2, q) ∧ putB x = true ∧ p ≤ q ∧ q ≤ p + 30 := by
  obtain ⟨r, e1, a1, a2, _⟩ := pick_ev hb p 4 (by omega) (by omega)
  unfold spec_l71Put.f
  by_cases hr : r = 0
  · obtain ⟨r2, e2, c1, c2, _⟩ := pick_ev hb (p + 1) 2 (by omega) (by omega)
    have c2 := c2 (by omega)
    obtain ⟨s, q, e3, l1, l2, l3⟩ := text_ev hb (p + 1 + 1) 6 (by omega) (by omega) (by omega)
    refine ⟨⟨true, r2, s⟩, q, Ev.bind e1 (Ev.pos hr (Ev.bind e2 (Ev.bind e3 (Ev.ret rfl)))), ?_, by omega, by omega⟩
    unfold putB
    rw [if_pos rfl]
    exact decide_eq_true ⟨c1, c2, by show s.size ≤ 700; omega⟩
  · obtain ⟨r2, e2, c1, c2, _⟩ := pick_ev hb (p + 1) 12 (by omega) (by omega)
    have c2 := c2 (by omega)
    obtain ⟨s, q, e3, l1, l2, l3⟩ := text_ev hb (p + 1 + 1) 3 (by omega) (by omega) (by omega)
    obtain ⟨t, e4, ht⟩ := sec_ev (3 - s.size) s (by omega)
    refine ⟨⟨false, r2, t⟩, q, Ev.bind e1 (Ev.neg hr (Ev.bind e2 (Ev.bind e3 (Ev.bind e4 (Ev.ret rfl))))), ?_, by omega, by omega⟩
    unfold putB
    rw [if_neg (by simp)]
    exact decide_eq_true ⟨c1, c2, ht⟩
structure Rdr (w0 : World) (b : List Int) (m : Nat) (cs : Array Value) : Prop where
  ok : ∃ A c p, cs = #[.slice A b.length c, .int .i64 p] ∧ Kd.C (Kd.int .u8) w0 A b.length b ∧ 0 ≤ p ∧ p + m ≤ 500000
  code : Pure.Code b
theorem Rdr.less {w0 : World} {b : List Int} {m m' : Nat} {cs : Array Value} (h : Rdr w0 b m cs) (hm : m' ≤ m) : Rdr w0 b m' cs := by
  obtain ⟨A, c, p, h1, h2, h3, h4⟩ := h.ok
  exact ⟨⟨A, c, p, h1, h2, h3, by omega⟩, h.code⟩
section
variable {w0 ws w : World} {L : List Part} {b : List Int} {g : Nat} {cs : Array Value}
theorem is_of (H : Hq w0.heap.size ws w L) (i : Nat) (e : L[i]? = some (.box g cs 104)) {A : Option Addr} {c : Nat} {p : Int} (hcs : cs = #[.slice A b.length c, .int .i64 p]) (hC : Kd.C (Kd.int .u8) w0 A b.length b) : IsS104 w0 w g b p :=
  ⟨A, c, by rw [← hcs]; exact H.box i e, H.box_ge i e, hC⟩
theorem rd_of {w' : World} (hB : Below w0.heap.size w0 ws) (H : Hq w0.heap.size ws w L) (i : Nat) (e : L[i]? = some (.box g cs 104)) (hc : Pure.Code b) {q : Int} {m : Nat} (hq : 0 ≤ q ∧ q + m ≤ 500000) (hI : IsS104 w0 w' g b q) (hb : Below w0.heap.size w0 w') (hk : KeepBut w w' g none) :
    ∃ cs', Rdr w0 b m cs' ∧ Hq w0.heap.size ws w' (L.set i (.box g cs' 104)) := by
  obtain ⟨A, c, h1, h2, h3⟩ := hI
  have hbel := hB.trans H.bel
  exact ⟨_, ⟨⟨A, c, q, rfl, h3, hq.1, hq.2⟩, hc⟩, H.put_box i e h1 ⟨hb.os.trans hbel.os.symm, hb.tape.trans hbel.tape.symm, hb.output.trans hbel.output.symm, hk.1, fun k h1 => (hb.block k h1).trans (hbel.block k h1).symm⟩ fun k h1 h2 => hk.2 k h1 h2 (by simp)⟩
theorem pick_callq {m : Nat} (hB : Below w0.heap.size w0 ws) (H : Hq w0.heap.size ws w L) (i : Nat) (e : L[i]? = some (.box g cs 104)) (hr : Rdr w0 b (m + 1) cs) (n : Int) (hn : 1 ≤ n ∧ n ≤ 100000) :
    Calls Try.prog 48 #[.pointer (some ⟨g, 0, none⟩), .int .i64 n] w fun e w' => ∃ (r : Nat) (cs' : Array Value), e = .returned (.int .i64 (r : Int)) ∧ (r : Int) < n ∧ Rdr w0 b m cs' ∧ Hq w0.heap.size ws w' (L.set i (.box g cs' 104)) := by
  obtain ⟨A, c, p, h1, h2, h3, h4⟩ := hr.ok
  obtain ⟨r, e1, a1, a2, _⟩ := pick_ev hr.code p n (by omega) (by omega)
  obtain ⟨K, hK⟩ := e1
  obtain ⟨r, rfl⟩ := Int.eq_ofNat_of_zero_le a1
  refine (spec_l6Rd_pick.calls K g b p n r (p + 1) w0 w (is_of H i e h1 h2) (hB.trans H.bel) (hK K (Nat.le_refl _))).mono fun e' w' hh => ?_
  obtain ⟨he, hI, hb, hk⟩ := hh
  obtain ⟨cs', q1, q2⟩ := rd_of hB H i e hr.code (m := m) (by omega) hI hb hk
  exact ⟨r, cs', he, a2 (by omega), q1, q2⟩
theorem put_callq {m : Nat} (hB : Below w0.heap.size w0 ws) (H : Hq w0.heap.size ws w L) (i : Nat) (e : L[i]? = some (.box g cs 104)) (hr : Rdr w0 b (m + 30) cs) :
    Calls Try.prog 81 #[.pointer (some ⟨g, 0, none⟩)] w fun e w' => ∃ (x : S54) (cs' : Array Value), e = .returned (.agg (cP x)) ∧ putB x = true ∧ Rdr w0 b m cs' ∧ Hq w0.heap.size ws w' (L.set i (.box g cs' 104)) := by
  obtain ⟨A, c, p, h1, h2, h3, h4⟩ := hr.ok
  obtain ⟨x, q, e1, a1, a2, a3⟩ := put_ev hr.code p (by omega) (by omega)
  obtain ⟨K, hK⟩ := e1
  refine (spec_l71Put.calls K g b p x.f0 x.f1 x.f2 q w0 w (is_of H i e h1 h2) (hB.trans H.bel) (hK K (Nat.le_refl _))).mono fun e' w' hh => ?_
  obtain ⟨he, hI, hb, hk⟩ := hh
  obtain ⟨cs', q1, q2⟩ := rd_of hB H i e hr.code (m := m) (by omega) hI hb hk
  exact ⟨x, cs', he, a1, q1, q2⟩
end
end Go.Proofs.Ytkgpnloghmbmlaa.Hq
namespace Go.Proofs.Ytkgpnloghmbmlaa.Hq
open Go.RowKit Go.Proofs.Ytkgpnloghmbmlaa.Print Go.Proofs.YtkgpnloghmbmlaaW.PrintWords Go.Proofs.YtkgpnloghmbmlaaW.PrintLast Go.Proofs.YtkgpnloghmbmlaaW.PrintMore Go.Proofs.Ytkgpnloghmbmlaa.Pure Go.Proofs.Ytkgpnloghmbmlaa.Hd
set_option linter.unusedVariables false
theorem blk_frz0 {w : World} {g : Nat} {cs : Array Value} {t : TypeId} (h : w.heap[g]? = some (.cells cs t (0, 0))) (j : Nat) : w.frozen? ⟨g, j, none⟩ = false := by simp [World.frozen?, h]
section
variable {P : Program} {ops : Array Oper} {Q : Exit → Act → World → Prop} {rest : List Oper} {o : Oper} {a : Act} {base : Nat} {w0 w : World} {L : List Part} {Kc : Act → World → Prop}
theorem Hq.lit (h : Hq base w0 w L) (hgd : o.guard = none) (cs : Array Value) (t : TypeId) (n : Nat)
    (hrun : (execOp a.eval o).run P w = .ok (.value (.slice (some ⟨w.heap.size, 0, none⟩) n n)) (w.alloc (.cells cs t (0, 0))))
    (k : ∀ g w1, Az (Hq base w0 w1 (.box g cs t :: L)) → wpList P ops Q rest (a.put o.dst (.slice (some ⟨g, 0, none⟩) n n)) w1) : wpList P ops Q (o :: rest) a w :=
  Kd.event_run hgd hrun (k _ _ ⟨h.boxed rfl (blk_new w _) (zq2 (Below.refl _ _) _)⟩)
theorem Hq.run_stb (h : Hq base w0 w L) (i : Nat) {g : Nat} {cs : Array Value} {t : TypeId} (e : L[i]? = some (.box g cs t)) (j : Nat) {u v : Value} (hj : cs[j]? = some u) {ty : TypeId} {x y : Operand} (hi : (P.info? ty).map (·.size) = some 1) (ho : o.op = .store ty x y) (hx : a.eval x = .pointer (some ⟨g, j, none⟩)) (hy : a.eval y = v) (h1 : v.oneCell' = true) :
    (execOp a.eval o).run P w = .ok .skip (w.setCell ⟨g, j, none⟩ v) :=
  run_sc hi ((zq4 (h.box i e) j).trans hj) (blk_frz0 (h.box i e) j) ho hx hy h1
theorem Hq.stb (h : Hq base w0 w L) (i : Nat) {g : Nat} {cs : Array Value} {t : TypeId} (e : L[i]? = some (.box g cs t)) (j : Nat) {u : Value} (v : Value) (hj : cs[j]? = some u) (hgd : o.guard = none) {ty : TypeId} {x y : Operand} (hi : (P.info? ty).map (·.size) = some 1) (ho : o.op = .store ty x y) (hN : o.dst = none) (hx : a.eval x = .pointer (some ⟨g, j, none⟩)) (hy : a.eval y = v) (h1 : v.oneCell' = true)
    (k : ∀ w1, Az (Hq base w0 w1 (L.set i (.box g (cs.setIfInBounds j v) t))) → wpList P ops Q rest a w1) : wpList P ops Q (o :: rest) a w :=
  h.st_cell i e j v hgd hN (h.run_stb i e j hj hi ho hx hy h1) k
theorem last_st {w1 : World} (hw : Region.wanted o (yielded ops a.tmps) = true) (hN : o.dst = none) (hrun : (execOp a.eval o).run P w = .ok .skip w1) (k : Kc a w1) : if Region.wanted o (yielded ops a.tmps) = true then Oper.wp P o a w Kc Q else Kc (a.put none undef) w := by
  rw [if_pos hw]
  unfold Oper.wp
  rw [hrun]
  show Kc (a.put o.dst undef) _
  rw [hN]
  exact k
theorem Hq.last_row (h : Hq base w0 w L) (i : Nat) {g : Nat} {cs : Array Value} {t : TypeId} (e : L[i]? = some (.box g cs t)) (hw : Region.wanted o (yielded ops a.tmps) = true) {ty : TypeId} {x y : Operand} (ho : o.op = .store ty x y) (hN : o.dst = none) (hx : a.eval x = .pointer (some ⟨g, 0, none⟩)) (cs' : Array Value) (hy : a.eval y = .agg cs')
    (hi : (P.info? ty).map (·.size) = some cs'.size) (hs : cs.size = cs'.size) (h1 : cs'.all (·.oneCell') = true) (k : ∀ w1, Az (Hq base w0 w1 (L.set i (.box g cs' t))) → Kc a w1) : if Region.wanted o (yielded ops a.tmps) = true then Oper.wp P o a w Kc Q else Kc (a.put none undef) w :=
  last_st hw hN (h.run_st i e ho hx cs' hy hi hs h1) (k _ ⟨h.set_row i e cs'⟩)
theorem Hq.last_cell (h : Hq base w0 w L) (i : Nat) {g : Nat} {cs : Array Value} {t : TypeId} (e : L[i]? = some (.box g cs t)) (j : Nat) {u : Value} (v : Value) (hj : cs[j]? = some u) (hw : Region.wanted o (yielded ops a.tmps) = true) {ty : TypeId} {x y : Operand} (hi : (P.info? ty).map (·.size) = some 1) (ho : o.op = .store ty x y) (hN : o.dst = none) (hx : a.eval x = .pointer (some ⟨g, j, none⟩)) (hy : a.eval y = v) (h1 : v.oneCell' = true)
    (k : ∀ w1, Az (Hq base w0 w1 (L.set i (.box g (cs.setIfInBounds j v) t))) → Kc a w1) : if Region.wanted o (yielded ops a.tmps) = true then Oper.wp P o a w Kc Q else Kc (a.put none undef) w :=
  last_st hw hN (h.run_stb i e j hj hi ho hx hy h1) (k _ ⟨h.set_box i e j v⟩)
end
def moreD (D : Dd) (p : S54) : Dd := { D with l4 := D.l4 ++ [p] }
def newS (S : Nat → Prop) (w w' : World) : Nat → Prop := fun k => (S k ∨ w.heap.size ≤ k) ∧ k < w'.heap.size
section
variable {b : Nat} {ws W w1 : World} {L : List Part} {S : Nat → Prop} {wo : World} {M : Mm} {D : Dd}
theorem app_of (H : Hq b ws W L) (i : Nat) (e : L[i]? = some (.set S wo)) (O : OwS wo b S M D) {p : S54} {v1 : Value} (hr : Kd.R k54 54 w1 b (fun k => S k ∨ W.heap.size ≤ k) v1 (D.l4 ++ [p])) (hb : Below b ws w1) (hg : W.grownBy w1 (M.s4 D).ownBlock) :
    ∃ A c, v1 = .slice A (D.l4 ++ [p]).length c ∧ Hq b ws w1 (L.set i (.set (newS S W w1) w1)) ∧ OwS w1 b (newS S W w1) ⟨M.A1, M.c1, M.A2, M.c2, M.A3, M.c3, A, c⟩ (moreD D p) := by
  obtain ⟨A, c, rfl⟩ := Kd.R_slice hr
  have O' := H.ows i e O
  have g4 := own_ge O'.o4
  have hbel := H.bel
  refine ⟨A, c, rfl, H.wrote i e ⟨hb.os.trans hbel.os.symm, hb.tape.trans hbel.tape.symm, hb.output.trans hbel.output.symm, hg.size, fun k h1 => (hb.block k h1).trans (hbel.block k h1).symm⟩ (fun k h1 h2 => hg.block k h1 fun e => h2 (g4 k e.symm).2), ?_⟩
  have up : ∀ k, (S k ∨ W.heap.size ≤ k) → k < w1.heap.size → newS S W w1 k := fun k h1 h2 => ⟨h1, h2⟩
  exact ⟨Kd.R_mono (Kd.R_bound (R_far_types O'.o1 O'.o4 (by decide) hg ownerless_string)) fun k hk => ⟨up k (.inl hk.1.1) hk.2.2.1, hk.1.2⟩, Kd.R_mono (Kd.R_bound (R_far_types O'.o2 O'.o4 (by decide) hg ownerless_string)) fun k hk => ⟨up k (.inl hk.1.1) hk.2.2.1, hk.1.2⟩,
    Kd.R_mono (Kd.R_bound (R_far_types O'.o3 O'.o4 (by decide) hg ownerless_bool)) fun k hk => up k (.inl hk.1) hk.2.2.1, Kd.R_mono (Kd.R_bound hr) fun k hk => up k hk.1 hk.2.2.1⟩
end
section
variable {ops : Array Oper} {Q : Exit → Act → World → Prop} {rest : List Oper} {o : Oper} {a : Act} {b : Nat} {ws W w1 : World} {L : List Part} {S : Nat → Prop} {wo : World} {M : Mm} {D : Dd} {Kc : Act → World → Prop}
theorem Hq.app (H : Hq b ws W L) (i : Nat) (e : L[i]? = some (.set S wo)) (O : OwS wo b S M D) (hl : D.l4.length ≤ 1000) (p : S54) (hgd : o.guard = none) (s x : Operand) (ho : o.op = .call { callee := .builtin .append, args := #[s, x], argTypes := #[26, 26] }) (hs : a.eval s = .slice M.A4 D.l4.length M.c4) (hx : a.eval x = .slice (some ⟨W.heap.size, 0, none⟩) 1 1)
    (k : ∀ A c w1 (q : List S54), Az (q = D.l4 ++ [p]) → Az (Hq b ws w1 (L.set i (.set (newS S W w1) w1))) → Az (OwS w1 b (newS S W w1) ⟨M.A1, M.c1, M.A2, M.c2, M.A3, M.c3, A, c⟩ { D with l4 := q }) → wpList Try.prog ops Q rest (a.put o.dst (.slice A q.length c)) w1) :
    wpList Try.prog ops Q (o :: rest) a (W.alloc (.cells #[.bool p.f0, .int .i64 p.f1, .string p.f2] 54)) := by
  have O' := H.ows i e O
  refine Kd.R_append k54 (w0 := ws) b hgd s x 26 54 (.agg #[(.bool false), (.int .i64 0), (.string ⟨#[]⟩)]) 32 ho Try.underlying26 info54 rfl (by decide) (by omega) (M.s4 D) D.l4 p [.bool p.f0, .int .i64 p.f1, .string p.f2] (fun k => S k ∨ W.heap.size ≤ k) (fun _ => False) hs hx (k54_mkM _ _ _ p) (fun _ hk => hk.elim) (fun k hk => .inr hk) (Kd.R_mono O'.o4 fun _ hk => .inl hk) H.bel H.ge (by omega) ?_
  intro v1 w1 hr hb hg _
  obtain ⟨A, c, rfl, h1, h2⟩ := app_of H i e O hr hb hg
  exact k A c w1 _ ⟨rfl⟩ ⟨h1⟩ ⟨h2⟩
theorem Hq.app_ (H : Hq b ws W L) (i : Nat) (e : L[i]? = some (.set S wo)) (O : OwS wo b S M D) (hl : D.l4.length ≤ 1000) (p : S54) (hw : Region.wanted o (yielded ops a.tmps) = true) (s x : Operand) (ho : o.op = .call { callee := .builtin .append, args := #[s, x], argTypes := #[26, 26] }) (hs : a.eval s = .slice M.A4 D.l4.length M.c4) (hx : a.eval x = .slice (some ⟨W.heap.size, 0, none⟩) 1 1)
    (k : ∀ A c w1 (q : List S54), Az (q = D.l4 ++ [p]) → Az (Hq b ws w1 (L.set i (.set (newS S W w1) w1))) → Az (OwS w1 b (newS S W w1) ⟨M.A1, M.c1, M.A2, M.c2, M.A3, M.c3, A, c⟩ { D with l4 := q }) → Kc (a.put o.dst (.slice A q.length c)) w1) :
    if Region.wanted o (yielded ops a.tmps) = true then Oper.wp Try.prog o a (W.alloc (.cells #[.bool p.f0, .int .i64 p.f1, .string p.f2] 54)) Kc Q else Kc (a.put o.dst undef) (W.alloc (.cells #[.bool p.f0, .int .i64 p.f1, .string p.f2] 54)) := by
  have O' := H.ows i e O
  refine Kd.R_append_step k54 (w0 := ws) b hw s x 26 54 (.agg #[(.bool false), (.int .i64 0), (.string ⟨#[]⟩)]) 32 ho Try.underlying26 info54 rfl (by decide) (by omega) (M.s4 D) D.l4 p [.bool p.f0, .int .i64 p.f1, .string p.f2] (fun k => S k ∨ W.heap.size ≤ k) (fun _ => False) hs hx (k54_mkM _ _ _ p) (fun _ hk => hk.elim) (fun k hk => .inr hk) (Kd.R_mono O'.o4 fun _ hk => .inl hk) H.bel H.ge (by omega) ?_
  intro v1 w1 hr hb hg _
  obtain ⟨A, c, rfl, h1, h2⟩ := app_of H i e O hr hb hg
  exact k A c w1 _ ⟨rfl⟩ ⟨h1⟩ ⟨h2⟩
end
def LiesS (w : World) (S : Nat → Prop) (M : Mm) (D : Dd) : Prop := ∀ w', (∀ k, S k → w'.heap[k]? = w.heap[k]?) → Rd w' M D
theorem OwS.lies {w : World} {b : Nat} {S : Nat → Prop} {M : Mm} {D : Dd} (h : OwS w b S M D) : LiesS w S M D := fun w' hk => (h.move hk).rd
theorem OwS.lies_drop {w : World} {b : Nat} {S : Nat → Prop} {A1 A3 A4 : Option Addr} {g2 c1 c2 c3 c4 : Nat} {D : Dd} (h : OwS w b S ⟨A1, c1, some ⟨g2, 0, none⟩, c2, A3, c3, A4, c4⟩ D) (h2 : D.l2.length = 2) : LiesS w S ⟨A1, c1, some ⟨g2, 1, none⟩, c2 - 1, A3, c3, A4, c4⟩ { D with l2 := D.l2.drop 1 } := fun w' hk => by
  have r := (h.move hk).rd
  have hc : 2 ≤ c2 := by have := r.h2; simp only at this; omega
  have q := Kd.C_drop (m := 1) r.r2 (by omega) r.h2
  rw [if_neg (by simp only; omega)] at q
  have hz : (⟨g2, 0, none⟩ : Addr).add (1 * Kd.string.sz) = ⟨g2, 1, none⟩ := add0 g2 1
  rw [Option.map_some, hz] at q
  exact ⟨r.r1, r.h1, q, by show (D.l2.drop 1).length ≤ c2 - 1; rw [List.length_drop]; omega, r.r3, r.h3, r.r4, r.h4⟩
theorem Hq.apart {b : Nat} {ws w : World} {L : List Part} (H : Hq b ws w L) (i j : Nat) {p q : Part} (hij : i ≠ j) (e : L[i]? = some p) (e' : L[j]? = some q) : p.Off q := by
  obtain ⟨hi1, hi2⟩ := List.getElem?_eq_some_iff.1 e
  obtain ⟨hj1, hj3⟩ := List.getElem?_eq_some_iff.1 e'
  rw [← hi2, ← hj3]
  rcases Nat.lt_or_gt_of_ne hij with hl | hl
  · exact List.pairwise_iff_getElem.1 H.dis i j hi1 hj1 hl
  · exact (List.pairwise_iff_getElem.1 H.dis j i hj1 hi1 hl).symm
def DrawsDisk (w0 : World) (b : List Int) (g m : Nat) (w : World) (e : Ending) (w' : World) : Prop := ∃ (M : Mm) (D : Dd) (cs' : Array Value), e = .returned (.agg (cD M D)) ∧ FitsD D ∧ (∀ w'', (∀ k, w.heap.size ≤ k → k < w'.heap.size → w''.heap[k]? = w'.heap[k]?) → Rd w'' M D) ∧ Rdr w0 b m cs' ∧ w'.heap[g]? = some (.cells cs' 104 (0, 0)) ∧ Below w0.heap.size w w' ∧ ∀ k, k < w.heap.size → k ≠ g → w'.heap[k]? = w.heap[k]?
theorem draws_of {w0 w w' wo : World} {b : List Int} {g m : Nat} {L : List Part} {cs' : Array Value} {S : Nat → Prop} {M : Mm} {D : Dd} (hwg : g < w.heap.size) (H : Hq w0.heap.size w w' L) (ig ir io : Nat) (eg : L[ig]? = some (.box g cs' 104)) (er : L[ir]? = some (.set (fun k => k ≠ g ∧ w0.heap.size ≤ k ∧ k < w.heap.size) w)) (eo : L[io]? = some (.set S wo)) (n1 : io ≠ ig) (n2 : io ≠ ir) (hr : Rdr w0 b m cs') (hl : LiesS wo S M D) (hf : FitsD D) : DrawsDisk w0 b g m w (.returned (.agg (cD M D))) w' := by
  refine ⟨M, D, cs', rfl, hf, fun w'' hk => hl w'' fun k hS => ?_, hr, H.box ig eg, H.bel, fun k h1 h2 => ?_⟩
  · have hin := H.set_in io eo k hS
    rw [← H.same io eo k hS]
    refine hk k ?_ hin.2
    refine Nat.le_of_not_lt fun hlt => ?_
    by_cases hg : k = g
    · exact H.apart io ig n1 eo eg k hS hg
    · exact H.apart io ir n2 eo er k hS ⟨hg, hin.1, hlt⟩
  · by_cases hb : w0.heap.size ≤ k
    · exact H.same ir er k ⟨h2, hb, h1⟩
    · exact H.bel.block k (by omega)
end Go.Proofs.Ytkgpnloghmbmlaa.Hq
namespace Go.Proofs.Ytkgpnloghmbmlaa.Hq
open Go.RowKit Go.Proofs.Ytkgpnloghmbmlaa.Print Go.Proofs.YtkgpnloghmbmlaaW.PrintWords Go.Proofs.YtkgpnloghmbmlaaW.PrintLast Go.Proofs.YtkgpnloghmbmlaaW.PrintMore Go.Proofs.Ytkgpnloghmbmlaa.Pure Go.Proofs.Ytkgpnloghmbmlaa.Hd
set_option linter.unusedVariables false
set_option linter.unusedSimpArgs false
theorem cell4' {M : Mm} {D : Dd} {n : Nat} (h : D.l4.length = n) : (cD M D)[4]? = some (.slice M.A4 n M.c4) := by rw [← h]; rfl
theorem OwS.up {w w' : World} {b : Nat} {S S' : Nat → Prop} {M : Mm} {D : Dd} (h : OwS w b S M D) (hi : ∀ k, S k → S' k) : OwS w b S' M D := ⟨Kd.R_mono h.o1 fun k hk => ⟨hi k hk.1, hk.2⟩, Kd.R_mono h.o2 fun k hk => ⟨hi k hk.1, hk.2⟩, Kd.R_mono h.o3 fun k hk => hi k hk, Kd.R_mono h.o4 fun k hk => hi k hk⟩
theorem Hq.start (w : World) : Hq w.heap.size w w [] := ⟨Below.refl _ _, Nat.le_refl _, fun _ h => (by cases h), List.Pairwise.nil⟩
theorem touch_as {b : Nat} {S : Nat → Prop} {D D' : Dd} {w w' : World} {e : Ending} (h : D = D') (t : Touch b S D w e w') : Touch b S D' w e w' := h ▸ t
theorem touch_end {b : Nat} {w w' wo : World} {L : List Part} {S S1 : Nat → Prop} {M : Mm} {D : Dd} (H : Hq b w w' L) (i j : Nat) (eo : L[i]? = some (.set S1 wo)) (er : L[j]? = some (.set (fun k => ¬ S k ∧ b ≤ k ∧ k < w.heap.size) w)) (hij : i ≠ j) (O : OwS wo b S1 M D) : Touch b S D w (.returned (.agg (cD M D))) w' := by
  refine ⟨M, rfl, (H.ows i eo O).up (w' := w') fun k hk => ?_, H.bel, H.kept j er⟩
  have hin := H.set_in i eo k hk
  refine ⟨?_, hin.2⟩
  by_cases hS : S k
  · exact .inl hS
  · refine .inr (Nat.le_of_not_lt fun hlt => H.apart i j hij eo er k hk ⟨hS, hin.1, hlt⟩)
section
variable {ops : Array Oper} {Q : Exit → Act → World → Prop} {rest : List Oper} {o : Oper} {a : Act} {w : World}
theorem lit54 (p : S54) (hgd : o.guard = none) (hrun : (execOp a.eval o).run Try.prog w = .ok (.value (.slice (some ⟨w.heap.size, 0, none⟩) 1 1)) (w.alloc (.cells #[.bool p.f0, .int .i64 p.f1, .string p.f2] 54)))
    (k : wpList Try.prog ops Q rest (a.put o.dst (.slice (some ⟨w.heap.size, 0, none⟩) 1 1)) (w.alloc (.cells #[.bool p.f0, .int .i64 p.f1, .string p.f2] 54))) : wpList Try.prog ops Q (o :: rest) a w := Kd.event_run hgd hrun k
end
theorem OwS.own {w : World} {b : Nat} {S : Nat → Prop} {M : Mm} {D : Dd} (h : OwS w b S M D) : Own w b w.heap.size M D :=
  ⟨Kd.R_mono (Kd.R_bound h.o1) fun k hk => ⟨hk.2.2.1, hk.1.2⟩, Kd.R_mono (Kd.R_bound h.o2) fun k hk => ⟨hk.2.2.1, hk.1.2⟩, Kd.R_mono (Kd.R_bound h.o3) fun k hk => hk.2.2.1, Kd.R_mono (Kd.R_bound h.o4) fun k hk => hk.2.2.1⟩
theorem sizeZ26 : (Try.prog.info? 26).map (·.size) = some 1 := by kernel_rfl
theorem gives_as' {D D' : Dd} {w w' : World} {e : Ending} (h : D = D') (t : Gives D w e w') : Gives D' w e w' := h ▸ t
theorem l3Put_callz {w : World} {p : S54} {r : Bool} (hr : putB p = r) : Calls Try.prog 66 #[.agg (cP p)] w fun e w' => e = .returned (.bool r) ∧ Below w.heap.size w w' := by
  rw [← hr]
  exact spec_l3Put.calls p.f0 p.f1 p.f2 (putB p) w (l3Put_eq p)
theorem OwS.of_own' {w : World} {b lo hi : Nat} {M : Mm} {D : Dd} (h : Own w lo hi M D) (hb : b ≤ lo) : OwS w b (fun k => lo ≤ k ∧ k < hi) M D := OwS.of_own h hb
set_option maxHeartbeats 8000000 in
set_option maxRecDepth 100000 in
theorem l3Write_callz {w0 w : World} {S : Nat → Prop} {M : Mm} {D : Dd} (hB : Below w0.heap.size w0 w) (hS : ∀ k, S k → w0.heap.size ≤ k ∧ k < w.heap.size) (h : OwS w w0.heap.size S M D) (hg : GoodD D) (p : S54) : Calls Try.prog 85 #[.agg (cD M D), .agg (cP p)] w (Touch w0.heap.size S (laidD D p) w) := by
  have hs28 := sizeE28
  have hs54 := sizeE54
  have HB := Az.mk hB
  have HG := Az.mk hg
  have O := Az.mk h
  have H := Az.mk (Hq.start_set w hB.size hS)
  have tk0 : True := trivial
  clear hB hS h
  by_cases h1 : D.st = 1
  · skip
    have HE := Az.mk (show D = laidD D p from (if_pos h1).symm)
    have hs1 : (D.st == 1) = true := by simp [h1]
    clear h1
    clear hg
    go_enter Try.func85, Try.ntmps85
    go_wp2_with (first | ((with_reducible refine zqg (N := 2) rfl ?_); refine H.out.bx rfl (cD M D) 28 ?hr ?_; (case hr => first | (go_simp; done) | (go_simp; rfl)); intro g2 w2 H1; clear H; have H := H1; clear H1; (try simp only [Act.put, List.setIfInBounds_toArray, List.set_cons_zero, List.set_cons_succ])) | ((with_reducible refine zqg (N := 3) rfl ?_); refine H.out.bx rfl (cP p) 54 ?hr ?_; (case hr => first | (go_simp; done) | (go_simp; rfl)); intro g3 w3 H1; clear H; have H := H1; clear H1; (try simp only [Act.put, List.setIfInBounds_toArray, List.set_cons_zero, List.set_cons_succ])) | ((with_reducible refine zqg (N := 4) rfl ?_); refine H.out.bx rfl (#[.int .i64 0, .slice none 0 0, .slice none 0 0, .slice none 0 0, .slice none 0 0]) 28 ?hr ?_; (case hr => first | (go_simp; done) | (go_simp; rfl)); intro g4 w4 H1; clear H; have H := H1; clear H1; (try simp only [Act.put, List.setIfInBounds_toArray, List.set_cons_zero, List.set_cons_succ])) | ((with_reducible refine zqg (N := 6) rfl ?_); refine H.out.ld_cell 2 rfl 0 (v := .int .i64 D.st) rfl rfl rfl rfl Try.underlying3 rfl ?_; (try simp only [Act.put, List.setIfInBounds_toArray, List.set_cons_zero, List.set_cons_succ])) | ((with_reducible refine zqg (N := 8) rfl ?_); refine H.out.ld_row 2 rfl rfl rfl rfl Try.underlying28 rfl hs28 ?_; (try simp only [Act.put, List.setIfInBounds_toArray, List.set_cons_zero, List.set_cons_succ])) | ((with_reducible refine gate_store (t := 28) (p := 4) rfl ?_); refine H.out.st_row 0 rfl rfl (x := .tmp 4) (y := .tmp 8) rfl rfl rfl (cD M D) rfl hs28 rfl (cD_one _ _) ?_; intro ws1 H1; clear H; have H := H1; clear H1))
    exact bodyPost_ret (results_cell_row rfl _ _ g4 28 _ (0, 0) _ rfl (H.out.box 0 rfl) Try.underlying28 rfl (by kernel_rfl)) rfl (touch_as HE.out (touch_end H.out 3 4 rfl rfl (by decide) O.out))
  · skip
    by_cases h2 : D.l4.length = 40
    · skip
      have HE := Az.mk (show ∀ q, q = (comeD D).l4 ++ [p] → { comeD D with l4 := q } = laidD D p from fun q hq => by rw [hq]; unfold laidD; rw [if_neg h1, if_pos h2]; rfl)
      have H40 := Az.mk h2
      have hs1 : (D.st == 1) = false := by simp [h1]
      clear h1 h2
      clear hg
      go_enter Try.func85, Try.ntmps85
      have HL4 := Az.mk (show (comeD D).l4.length ≤ 1000 from by show ([] : List S54).length ≤ 1000; simp)
      go_wp2_with (first | ((with_reducible refine zqg (N := 2) rfl ?_); refine H.out.bx rfl (cD M D) 28 ?hr ?_; (case hr => first | (go_simp; done) | (go_simp; rfl)); intro g2 w2 H1; clear H; have H := H1; clear H1; (try simp only [Act.put, List.setIfInBounds_toArray, List.set_cons_zero, List.set_cons_succ])) | ((with_reducible refine zqg (N := 3) rfl ?_); refine H.out.bx rfl (cP p) 54 ?hr ?_; (case hr => first | (go_simp; done) | (go_simp; rfl)); intro g3 w3 H1; clear H; have H := H1; clear H1; (try simp only [Act.put, List.setIfInBounds_toArray, List.set_cons_zero, List.set_cons_succ])) | ((with_reducible refine zqg (N := 4) rfl ?_); refine H.out.bx rfl (#[.int .i64 0, .slice none 0 0, .slice none 0 0, .slice none 0 0, .slice none 0 0]) 28 ?hr ?_; (case hr => first | (go_simp; done) | (go_simp; rfl)); intro g4 w4 H1; clear H; have H := H1; clear H1; (try simp only [Act.put, List.setIfInBounds_toArray, List.set_cons_zero, List.set_cons_succ])) | ((with_reducible refine zqg (N := 6) rfl ?_); refine H.out.ld_cell 2 rfl 0 (v := .int .i64 D.st) rfl rfl rfl rfl Try.underlying3 rfl ?_; (try simp only [Act.put, List.setIfInBounds_toArray, List.set_cons_zero, List.set_cons_succ])) | ((with_reducible refine zqg (N := 10) rfl ?_); refine H.out.ld_cell 2 rfl 4 (v := .slice M.A4 40 M.c4) (cell4' H40.out) rfl rfl rfl Try.underlying26 rfl ?_; (try simp only [Act.put, List.setIfInBounds_toArray, List.set_cons_zero, List.set_cons_succ])) | ((with_reducible refine zqg (N := 13) rfl ?_); refine H.out.ld_row 2 rfl rfl rfl rfl Try.underlying28 rfl hs28 ?_; (try simp only [Act.put, List.setIfInBounds_toArray, List.set_cons_zero, List.set_cons_succ])) | (go_at_call 79; have _tk := tk0; refine (l3Flush_callq (HB.out.trans H.out.bel) (H.out.ows 3 rfl O.out) HG.out).mono ?_; rintro e w14 ⟨M14, rfl, ho, hb, hk⟩; have H1 := Az.mk (H.out.wrote 3 rfl hb hk); have O1 := Az.mk ho; have HG1 := Az.mk (good_come HG.out); clear ho hb hk; clear H O HG; have H := H1; have O := O1; have HG := HG1; clear H1 O1 HG1; clear tk0 _tk; have tk1 : True := trivial) | ((with_reducible refine gate_store (t := 28) (p := 2) rfl ?_); refine H.out.st_row 2 rfl rfl (x := .tmp 2) (y := .tmp 14) rfl rfl rfl (cD M14 (comeD D)) rfl hs28 rfl (cD_one _ _) ?_; intro ws1 H1; clear H; have H := H1; clear H1) | ((with_reducible refine zqg (N := 16) rfl ?_); refine H.out.ld_cell 2 rfl 4 (v := .slice M14.A4 (comeD D).l4.length M14.c4) rfl rfl rfl rfl Try.underlying26 rfl ?_; (try simp only [Act.put, List.setIfInBounds_toArray, List.set_cons_zero, List.set_cons_succ])) | ((with_reducible refine zqg (N := 17) rfl ?_); refine H.out.ld_row 1 rfl rfl rfl rfl Try.underlying54 rfl hs54 ?_; (try simp only [Act.put, List.setIfInBounds_toArray, List.set_cons_zero, List.set_cons_succ])) | ((with_reducible refine zqg (N := 18) rfl ?_); refine lit54 p rfl ?hr ?_; (case hr => simp only [cP]; first | (go_simp; done) | (go_simp; rfl)); (try simp only [Act.put, List.setIfInBounds_toArray, List.set_cons_zero, List.set_cons_succ])) | ((with_reducible refine gate_builtin (b := .append) (xs := #[.tmp 16, .tmp 18]) rfl ?_); at_builtin; refine H.out.app 3 rfl O.out HL4.out p rfl (.tmp 16) (.tmp 18) rfl rfl rfl ?_; intro A19 c19 w19 q19 HQ19 H1 O1; clear H O; have H := H1; have O := O1; clear H1 O1; (try simp only [Act.put, List.setIfInBounds_toArray, List.set_cons_zero, List.set_cons_succ])) | ((with_reducible refine gate_store (t := 26) (p := 20) rfl ?_); refine H.out.stb 2 rfl 4 (.slice A19 q19.length c19) rfl rfl sizeZ26 rfl rfl rfl rfl rfl ?_; intro ws5 H1; clear H; have H := H1; clear H1) | ((with_reducible refine zqg (N := 21) rfl ?_); refine H.out.ld_row 2 rfl rfl rfl rfl Try.underlying28 rfl hs28 ?_; (try simp only [Act.put, List.setIfInBounds_toArray, List.set_cons_zero, List.set_cons_succ])) | ((with_reducible refine gate_store (t := 28) (p := 4) rfl ?_); refine H.out.st_row 0 rfl rfl (x := .tmp 4) (y := .tmp 21) rfl rfl rfl (cD ⟨M14.A1, M14.c1, M14.A2, M14.c2, M14.A3, M14.c3, A19, c19⟩ { (comeD D) with l4 := q19 }) rfl hs28 rfl (cD_one _ _) ?_; intro ws6 H1; clear H; have H := H1; clear H1))
      exact bodyPost_ret (results_cell_row rfl _ _ g4 28 _ (0, 0) _ rfl (H.out.box 0 rfl) Try.underlying28 rfl (by kernel_rfl)) rfl (touch_as (HE.out q19 HQ19.out) (touch_end H.out 3 4 rfl rfl (by decide) O.out))
    · skip
      have HE := Az.mk (show ∀ q, q = D.l4 ++ [p] → { D with l4 := q } = laidD D p from fun q hq => by rw [hq]; unfold laidD; rw [if_neg h1, if_neg h2])
      have hs1 : (D.st == 1) = false := by simp [h1]
      have hs2 : ((D.l4.length : Int) == 40) = false := by rw [beq_eq_false_iff_ne]; omega
      clear h1 h2
      clear hg
      go_enter Try.func85, Try.ntmps85
      have HL4 := Az.mk (show D.l4.length ≤ 1000 from by have := HG.out.sh.2.2.2.2; omega)
      go_wp2_with (first | ((with_reducible refine zqg (N := 2) rfl ?_); refine H.out.bx rfl (cD M D) 28 ?hr ?_; (case hr => first | (go_simp; done) | (go_simp; rfl)); intro g2 w2 H1; clear H; have H := H1; clear H1; (try simp only [Act.put, List.setIfInBounds_toArray, List.set_cons_zero, List.set_cons_succ])) | ((with_reducible refine zqg (N := 3) rfl ?_); refine H.out.bx rfl (cP p) 54 ?hr ?_; (case hr => first | (go_simp; done) | (go_simp; rfl)); intro g3 w3 H1; clear H; have H := H1; clear H1; (try simp only [Act.put, List.setIfInBounds_toArray, List.set_cons_zero, List.set_cons_succ])) | ((with_reducible refine zqg (N := 4) rfl ?_); refine H.out.bx rfl (#[.int .i64 0, .slice none 0 0, .slice none 0 0, .slice none 0 0, .slice none 0 0]) 28 ?hr ?_; (case hr => first | (go_simp; done) | (go_simp; rfl)); intro g4 w4 H1; clear H; have H := H1; clear H1; (try simp only [Act.put, List.setIfInBounds_toArray, List.set_cons_zero, List.set_cons_succ])) | ((with_reducible refine zqg (N := 6) rfl ?_); refine H.out.ld_cell 2 rfl 0 (v := .int .i64 D.st) rfl rfl rfl rfl Try.underlying3 rfl ?_; (try simp only [Act.put, List.setIfInBounds_toArray, List.set_cons_zero, List.set_cons_succ])) | ((with_reducible refine zqg (N := 10) rfl ?_); refine H.out.ld_cell 2 rfl 4 (v := .slice M.A4 D.l4.length M.c4) rfl rfl rfl rfl Try.underlying26 rfl ?_; (try simp only [Act.put, List.setIfInBounds_toArray, List.set_cons_zero, List.set_cons_succ])) | ((with_reducible refine zqg (N := 16) rfl ?_); refine H.out.ld_cell 2 rfl 4 (v := .slice M.A4 D.l4.length M.c4) rfl rfl rfl rfl Try.underlying26 rfl ?_; (try simp only [Act.put, List.setIfInBounds_toArray, List.set_cons_zero, List.set_cons_succ])) | ((with_reducible refine zqg (N := 17) rfl ?_); refine H.out.ld_row 1 rfl rfl rfl rfl Try.underlying54 rfl hs54 ?_; (try simp only [Act.put, List.setIfInBounds_toArray, List.set_cons_zero, List.set_cons_succ])) | ((with_reducible refine zqg (N := 18) rfl ?_); refine lit54 p rfl ?hr ?_; (case hr => simp only [cP]; first | (go_simp; done) | (go_simp; rfl)); (try simp only [Act.put, List.setIfInBounds_toArray, List.set_cons_zero, List.set_cons_succ])) | ((with_reducible refine gate_builtin (b := .append) (xs := #[.tmp 16, .tmp 18]) rfl ?_); at_builtin; refine H.out.app 3 rfl O.out HL4.out p rfl (.tmp 16) (.tmp 18) rfl rfl rfl ?_; intro A19 c19 w19 q19 HQ19 H1 O1; clear H O; have H := H1; have O := O1; clear H1 O1; (try simp only [Act.put, List.setIfInBounds_toArray, List.set_cons_zero, List.set_cons_succ])) | ((with_reducible refine gate_store (t := 26) (p := 20) rfl ?_); refine H.out.stb 2 rfl 4 (.slice A19 q19.length c19) rfl rfl sizeZ26 rfl rfl rfl rfl rfl ?_; intro ws5 H1; clear H; have H := H1; clear H1) | ((with_reducible refine zqg (N := 21) rfl ?_); refine H.out.ld_row 2 rfl rfl rfl rfl Try.underlying28 rfl hs28 ?_; (try simp only [Act.put, List.setIfInBounds_toArray, List.set_cons_zero, List.set_cons_succ])) | ((with_reducible refine gate_store (t := 28) (p := 4) rfl ?_); refine H.out.st_row 0 rfl rfl (x := .tmp 4) (y := .tmp 21) rfl rfl rfl (cD ⟨M.A1, M.c1, M.A2, M.c2, M.A3, M.c3, A19, c19⟩ { D with l4 := q19 }) rfl hs28 rfl (cD_one _ _) ?_; intro ws6 H1; clear H; have H := H1; clear H1))
      exact bodyPost_ret (results_cell_row rfl _ _ g4 28 _ (0, 0) _ rfl (H.out.box 0 rfl) Try.underlying28 rfl (by kernel_rfl)) rfl (touch_as (HE.out q19 HQ19.out) (touch_end H.out 3 4 rfl rfl (by decide) O.out))
set_option maxHeartbeats 8000000 in
set_option maxRecDepth 100000 in
theorem specPut_callz {w : World} {M : Mm} {D : Dd} {p : S54} (hf : FitsD D) (h : Rd w M D) : Calls Try.prog 39 #[.agg (cD M D), .agg (cP p)] w (Gives (putD D p) w) := by
  have hs28 := sizeE28
  have hs54 := sizeE54
  have HF := Az.mk hf
  have HR := Az.mk h
  have HB := Az.mk (Below.refl w.heap.size w)
  have H := Az.mk (Hq.start w)
  have tk0 : True := trivial
  have hgb : goodB D.st D.l1 D.l2 D.l3 D.l4 = true ↔ GoodD D := by simp [goodB, GoodD]
  clear hf h
  by_cases hg : GoodD D
  · skip
    have HGB := Az.mk (hgb.2 hg)
    have HG := Az.mk hg
    by_cases hp : putB p = true
    · skip
      have HPB := Az.mk hp
      have HE := Az.mk (show laidD D p = putD D p from (if_pos ⟨hg, hp⟩).symm)
      clear hg hp hgb
      go_enter Try.func39, Try.ntmps39
      go_wp2_with (first | ((with_reducible refine zqg (N := 2) rfl ?_); refine H.out.bx rfl (cD M D) 28 ?hr ?_; (case hr => first | (go_simp; done) | (go_simp; rfl)); intro g2 w2 H1; clear H; have H := H1; clear H1; (try simp only [Act.put, List.setIfInBounds_toArray, List.set_cons_zero, List.set_cons_succ])) | ((with_reducible refine zqg (N := 3) rfl ?_); refine H.out.bx rfl (cP p) 54 ?hr ?_; (case hr => first | (go_simp; done) | (go_simp; rfl)); intro g3 w3 H1; clear H; have H := H1; clear H1; (try simp only [Act.put, List.setIfInBounds_toArray, List.set_cons_zero, List.set_cons_succ])) | ((with_reducible refine zqg (N := 4) rfl ?_); refine H.out.bx rfl (#[.int .i64 0, .slice none 0 0, .slice none 0 0, .slice none 0 0, .slice none 0 0]) 28 ?hr ?_; (case hr => first | (go_simp; done) | (go_simp; rfl)); intro g4 w4 H1; clear H; have H := H1; clear H1; (try simp only [Act.put, List.setIfInBounds_toArray, List.set_cons_zero, List.set_cons_succ])) | ((with_reducible refine zqg (N := 5) rfl ?_); refine H.out.ld_row 2 rfl rfl rfl rfl Try.underlying28 rfl hs28 ?_; (try simp only [Act.put, List.setIfInBounds_toArray, List.set_cons_zero, List.set_cons_succ])) | (go_at_call 26; have _tk := tk0; refine (specOk_call HF.out HGB.out (HR.out.below H.out.bel)).mono ?_; rintro e w6 ⟨rfl, hb⟩; have H1 := Az.mk (H.out.step hb); clear hb; clear H; have H := H1; clear H1; clear tk0 _tk; have tk1 : True := trivial) | ((with_reducible refine zqg (N := 9) rfl ?_); refine gate_guard (by rfl) ?_; dsimp only; refine H.out.ld_row 1 rfl rfl rfl rfl Try.underlying54 rfl hs54 ?_; (try simp only [Act.put, List.setIfInBounds_toArray, List.set_cons_zero, List.set_cons_succ])) | (go_at_call 66; have _tk := tk1; refine (l3Put_callz HPB.out).mono ?_; rintro e w10 ⟨rfl, hb⟩; have H1 := Az.mk (H.out.step hb); clear hb; clear H; have H := H1; clear H1; clear tk1 _tk; have tk2 : True := trivial))
      refine start_ (n := 5) (S := fun w' => Hq w.heap.size w w' [.box g2 (cD M D) 28, .box g3 (cP p) 54]) (ds := []) #[false, false, false, false, false] (by kernel_rfl) rfl rfl (H.out.drew.sel [2, 1] _ (by decide) rfl) (fun hHeld => ?_)
      have H1 := Az.mk H.out.drew
      clear H; have H := H1; clear H1
      generalize World.drew _ = wd3 at hHeld H ⊢
      refine zqt (i := 0) (N := some 14) (v := .agg (cD M D)) (a' := ?_) #[true, false, false, false, false] rfl rfl (by kernel_rfl) (fun _ _ _ h => h) (Or.inl ⟨by rfl, fun w' s0 => s0.run_row 0 rfl rfl rfl Try.underlying28 rfl hs28⟩) hHeld ?_ ?_
      rotate_left
      · simp only [Act.put, List.setIfInBounds_toArray, List.set_cons_zero, List.set_cons_succ, i64_w, i32_w]
        rfl
      refine zqt (i := 2) (N := some 16) (v := .agg (cP p)) (a' := ?_) #[true, false, true, false, false] rfl rfl (by kernel_rfl) (fun _ _ _ h => h) (Or.inl ⟨by rfl, fun w' s0 => s0.run_row 1 rfl rfl rfl Try.underlying54 rfl hs54⟩) hHeld ?_ ?_
      rotate_left
      · simp only [Act.put, List.setIfInBounds_toArray, List.set_cons_zero, List.set_cons_succ, i64_w, i32_w]
        rfl
      refine one_ (i := 1) (N := some 15) #[true, true, true, false, false] rfl rfl (by kernel_rfl) (by decide) (fun K hK => ?_)
      refine goes_ Try.func80 (by kernel_rfl) rfl #[.agg (cD M D)] (by rfl) rfl rfl (by (try simp only [List.map_toArray, List.map_cons, List.map_nil]); first | done | rfl) ?_
      refine (l3Copy_call HF.out (HR.out.below H.out.bel)).mono ?_
      rintro e w15 ⟨M15, rfl, ho, hb⟩
      refine ⟨_, rfl, ?_⟩
      have O := Az.mk (OwS.of_own' ho H.out.ge)
      have H1 := Az.mk (H.out.made hb)
      clear ho hb
      clear H; have H := H1; clear H1
      refine hK.out _ _ (H.out.sel [3, 2] _ (by decide) rfl) (fun hHeld => ?_)
      clear hK K
      refine norm_ (a' := ?_) ?_ ?_
      rotate_left
      · show Act.put _ (some 15) _ = _
        simp only [Act.put, List.setIfInBounds_toArray, List.set_cons_zero, List.set_cons_succ, i64_w, i32_w]
        rfl
      refine one_ (i := 3) (N := some 17) #[true, true, true, true, false] rfl rfl (by kernel_rfl) (by decide) (fun K hK => ?_)
      refine goes_ Try.func85 (by kernel_rfl) rfl #[.agg (cD M15 D), .agg (cP p)] (by rfl) rfl rfl (by (try simp only [List.map_toArray, List.map_cons, List.map_nil]); first | done | rfl) ?_
      refine (l3Write_callz H.out.bel (H.out.set_in 0 rfl) (H.out.ows 0 rfl O.out) HG.out p).mono ?_
      rintro e w17 ⟨M17, rfl, ho, hb, hk⟩
      refine ⟨_, rfl, ?_⟩
      have H1 := Az.mk (H.out.wrote 0 rfl hb hk)
      have O1 := Az.mk ho
      clear ho hb hk
      clear H O; have H := H1; have O := O1; clear H1 O1
      refine hK.out _ _ (H.out.sel [3, 2] _ (by decide) rfl) (fun hHeld => ?_)
      clear hK K
      refine norm_ (a' := ?_) ?_ ?_
      rotate_left
      · show Act.put _ (some 17) _ = _
        simp only [Act.put, List.setIfInBounds_toArray, List.set_cons_zero, List.set_cons_succ, i64_w, i32_w]
        rfl
      refine one_ (i := 4) (N := none) #[true, true, true, true, true] rfl rfl (by kernel_rfl) (by decide) (fun K hK => ?_)
      refine H.out.last_row 1 rfl (by rfl) (x := .tmp 4) (y := .tmp 17) rfl rfl rfl (cD M17 (laidD D p)) rfl hs28 rfl (cD_one _ _) ?_
      intro ws3 H1
      clear H; have H := H1; clear H1
      refine hK.out _ _ (H.out.sel [3, 2] _ (by decide) rfl) (fun hHeld => ?_)
      clear hK K
      refine norm_ (a' := ?_) ?_ ?_
      rotate_left
      · rfl
      refine done_ (by kernel_rfl) ?_
      go_wp2
      exact bodyPost_ret (results_cell_row rfl _ _ g4 28 _ (0, 0) _ rfl (H.out.box 1 rfl) Try.underlying28 rfl (by kernel_rfl)) rfl (gives_as' HE.out ⟨M17, rfl, (H.out.ows 0 rfl O.out).own, H.out.bel⟩)
    · skip
      have HPB := Az.mk (show putB p = false from by simpa using hp)
      have HE := Az.mk (show noD = putD D p from (if_neg fun hh => hp hh.2).symm)
      clear hg hp hgb
      go_enter Try.func39, Try.ntmps39
      go_wp2_with (first | ((with_reducible refine zqg (N := 2) rfl ?_); refine H.out.bx rfl (cD M D) 28 ?hr ?_; (case hr => first | (go_simp; done) | (go_simp; rfl)); intro g2 w2 H1; clear H; have H := H1; clear H1; (try simp only [Act.put, List.setIfInBounds_toArray, List.set_cons_zero, List.set_cons_succ])) | ((with_reducible refine zqg (N := 3) rfl ?_); refine H.out.bx rfl (cP p) 54 ?hr ?_; (case hr => first | (go_simp; done) | (go_simp; rfl)); intro g3 w3 H1; clear H; have H := H1; clear H1; (try simp only [Act.put, List.setIfInBounds_toArray, List.set_cons_zero, List.set_cons_succ])) | ((with_reducible refine zqg (N := 4) rfl ?_); refine H.out.bx rfl (#[.int .i64 0, .slice none 0 0, .slice none 0 0, .slice none 0 0, .slice none 0 0]) 28 ?hr ?_; (case hr => first | (go_simp; done) | (go_simp; rfl)); intro g4 w4 H1; clear H; have H := H1; clear H1; (try simp only [Act.put, List.setIfInBounds_toArray, List.set_cons_zero, List.set_cons_succ])) | ((with_reducible refine zqg (N := 5) rfl ?_); refine H.out.ld_row 2 rfl rfl rfl rfl Try.underlying28 rfl hs28 ?_; (try simp only [Act.put, List.setIfInBounds_toArray, List.set_cons_zero, List.set_cons_succ])) | (go_at_call 26; have _tk := tk0; refine (specOk_call HF.out HGB.out (HR.out.below H.out.bel)).mono ?_; rintro e w6 ⟨rfl, hb⟩; have H1 := Az.mk (H.out.step hb); clear hb; clear H; have H := H1; clear H1; clear tk0 _tk; have tk1 : True := trivial) | ((with_reducible refine zqg (N := 9) rfl ?_); refine gate_guard (by rfl) ?_; dsimp only; refine H.out.ld_row 1 rfl rfl rfl rfl Try.underlying54 rfl hs54 ?_; (try simp only [Act.put, List.setIfInBounds_toArray, List.set_cons_zero, List.set_cons_succ])) | (go_at_call 66; have _tk := tk1; refine (l3Put_callz HPB.out).mono ?_; rintro e w10 ⟨rfl, hb⟩; have H1 := Az.mk (H.out.step hb); clear hb; clear H; have H := H1; clear H1; clear tk1 _tk; have tk2 : True := trivial) | ((with_reducible refine gate_store (t := 28) (p := 4) rfl ?_); refine H.out.st_row 0 rfl rfl (x := .tmp 4) (y := .tmp 13) rfl rfl rfl (#[.int .i64 0, .slice none 0 0, .slice none 0 0, .slice none 0 0, .slice none 0 0]) rfl hs28 rfl (by simp [Value.oneCell']) ?_; intro ws2 H1; clear H; have H := H1; clear H1))
      exact bodyPost_ret (results_cell_row rfl _ _ g4 28 _ (0, 0) _ rfl (H.out.box 0 rfl) Try.underlying28 rfl (by kernel_rfl)) rfl (gives_as' HE.out ⟨M0, rfl, own_no _ _ _, H.out.bel⟩)
  · skip
    have HGB := Az.mk (show goodB D.st D.l1 D.l2 D.l3 D.l4 = false from by cases hh : goodB D.st D.l1 D.l2 D.l3 D.l4 with | false => rfl | true => exact absurd (hgb.1 hh) hg)
    have HE := Az.mk (show noD = putD D p from (if_neg fun hh => hg hh.1).symm)
    clear hg hgb
    go_enter Try.func39, Try.ntmps39
    go_wp2_with (first | ((with_reducible refine zqg (N := 2) rfl ?_); refine H.out.bx rfl (cD M D) 28 ?hr ?_; (case hr => first | (go_simp; done) | (go_simp; rfl)); intro g2 w2 H1; clear H; have H := H1; clear H1; (try simp only [Act.put, List.setIfInBounds_toArray, List.set_cons_zero, List.set_cons_succ])) | ((with_reducible refine zqg (N := 3) rfl ?_); refine H.out.bx rfl (cP p) 54 ?hr ?_; (case hr => first | (go_simp; done) | (go_simp; rfl)); intro g3 w3 H1; clear H; have H := H1; clear H1; (try simp only [Act.put, List.setIfInBounds_toArray, List.set_cons_zero, List.set_cons_succ])) | ((with_reducible refine zqg (N := 4) rfl ?_); refine H.out.bx rfl (#[.int .i64 0, .slice none 0 0, .slice none 0 0, .slice none 0 0, .slice none 0 0]) 28 ?hr ?_; (case hr => first | (go_simp; done) | (go_simp; rfl)); intro g4 w4 H1; clear H; have H := H1; clear H1; (try simp only [Act.put, List.setIfInBounds_toArray, List.set_cons_zero, List.set_cons_succ])) | ((with_reducible refine zqg (N := 5) rfl ?_); refine H.out.ld_row 2 rfl rfl rfl rfl Try.underlying28 rfl hs28 ?_; (try simp only [Act.put, List.setIfInBounds_toArray, List.set_cons_zero, List.set_cons_succ])) | (go_at_call 26; have _tk := tk0; refine (specOk_call HF.out HGB.out (HR.out.below H.out.bel)).mono ?_; rintro e w6 ⟨rfl, hb⟩; have H1 := Az.mk (H.out.step hb); clear hb; clear H; have H := H1; clear H1; clear tk0 _tk; have tk1 : True := trivial) | ((with_reducible refine gate_store (t := 28) (p := 4) rfl ?_); refine H.out.st_row 0 rfl rfl (x := .tmp 4) (y := .tmp 13) rfl rfl rfl (#[.int .i64 0, .slice none 0 0, .slice none 0 0, .slice none 0 0, .slice none 0 0]) rfl hs28 rfl (by simp [Value.oneCell']) ?_; intro ws2 H1; clear H; have H := H1; clear H1))
    exact bodyPost_ret (results_cell_row rfl _ _ g4 28 _ (0, 0) _ rfl (H.out.box 0 rfl) Try.underlying28 rfl (by kernel_rfl)) rfl (gives_as' HE.out ⟨M0, rfl, own_no _ _ _, H.out.bel⟩)
end Go.Proofs.Ytkgpnloghmbmlaa.Hq
namespace Go.Proofs.Ytkgpnloghmbmlaa.Hd
open Go.RowKit Go.Proofs.Ytkgpnloghmbmlaa.Print Go.Proofs.YtkgpnloghmbmlaaW.PrintWords Go.Proofs.YtkgpnloghmbmlaaW.PrintLast Go.Proofs.Ytkgpnloghmbmlaa.Pure
set_option linter.unusedVariables false
set_option linter.unusedSimpArgs false
def TN : Bool × List (List Nat × List Nat) := (true, [([], []), ([], []), ([], []), ([], []), ([], []), ([0, 1, 2, 3, 4], [0, 1, 2, 3, 4]), ([5, 0, 1, 2, 3, 4, 5], [5])])
def BN : List Nat := [0, 0, 0, 0, 0, 31, 63]
theorem tabN : rtab .any (opsOf Try.f19 3) = TN := by kernel_rfl
theorem bitsN : waitsOk TN.2 BN = true := by kernel_rfl
set_option maxHeartbeats 8000000 in
set_option maxRecDepth 100000 in
theorem specNew_callz {w : World} {st : Int} (h : 0 ≤ st ∧ st ≤ 2) : Calls Try.prog 19 #[.int .i64 st] w (Gives (newD st) w) := by
  have hu28 := Try.underlying28
  have hs28 := sizeL28
  have HIN := Az.mk (decide_eq_true h)
  have H := Az.mk (Hd.start w)
  clear h
  go_enter Try.func19, Try.ntmps19
  go_wp2_with (first | ((with_reducible refine zqg (N := 2) rfl ?_); refine H.out.bx rfl (#[.int .i64 0, .slice none 0 0, .slice none 0 0, .slice none 0 0, .slice none 0 0]) 28 ?hr ?_; (case hr => first | (go_simp; done) | (go_simp; rfl)); intro g2 wb H1; clear H; have H := H1; clear H1) | (go_at_call 51; refine (l6In_call _ _ _ true HIN.out).mono ?_; rintro e w4 ⟨rfl, hb⟩; have H1 := Az.mk (H.out.step hb); clear hb; clear H; have H := H1; clear H1))
  refine start_ (n := 7) (S := fun w' => True) (ds := []) #[false, false, false, false, false, false, false] (by kernel_rfl) rfl rfl trivial (fun hHeld => ?_)
  refine with_tabW tabN bitsN (fun HT_ HW_ => ?_)
  have HD := Az.mk H.out.drew
  clear hHeld H
  generalize World.drew _ = wd at HD ⊢
  refine zqp (i := 0) (N := some 7) (v := ?_) (a' := ?_) #[true, false, false, false, false, false, false] rfl rfl (by kernel_rfl) (fun _ _ _ h => h) (Or.inl ⟨by rfl, ?_⟩) ?_ ?_
  rotate_left
  · intro w'
    go_simp
    with_reducible rfl
  rotate_left
  · simp only [Act.put, List.setIfInBounds_toArray, List.set_cons_zero, List.set_cons_succ, i64_w, i32_w]
    rfl
  refine inv_at [1, 2, 3, 4, 5, 6] (fun a0_ b a w' => ∃ (b1 : Value) (b2 : Value) (b3 : Value) (b4 : Value) (m5_ : Value), a = putSel a0_ b [(1, 8, b1), (2, 9, b2), (3, 10, b3), (4, 11, b4), (5, 12, m5_)] ∧ (b 6 = false → Hd w.heap.size w w' [.box g2 #[.int .i64 0, .slice none 0 0, .slice none 0 0, .slice none 0 0, .slice none 0 0] 28]) ∧ (b 1 = true → b 6 = false → Kd.R Kd.string 9 w' w.heap.size (fun _ => True) b1 e12) ∧ (b 2 = true → b 6 = false → Kd.R Kd.string 9 w' w.heap.size (fun _ => True) b2 e2) ∧ (b 3 = true → b 6 = false → Kd.R Kd.bool 4 w' w.heap.size (fun _ => True) b3 f12) ∧ (b 4 = true → b 6 = false → Kd.R k54 54 w' w.heap.size (fun _ => True) b4 ([] : List S54)) ∧ (b 1 = true → b 2 = true → (b1 : Value).ownBlock = none ∨ (b1 : Value).ownBlock ≠ (b2 : Value).ownBlock) ∧ (b 6 = true → (Hd w.heap.size w w' [.box g2 #[.int .i64 st, b1, b2, b3, b4] 28] ∧ Kd.R Kd.string 9 w' w.heap.size (fun _ => True) b1 e12 ∧ Kd.R Kd.string 9 w' w.heap.size (fun _ => True) b2 e2 ∧ Kd.R Kd.bool 4 w' w.heap.size (fun _ => True) b3 f12 ∧ Kd.R k54 54 w' w.heap.size (fun _ => True) b4 ([] : List S54))) ∧ (b 5 = true → (m5_ : Value) = .agg #[.int .i64 st, b1, b2, b3, b4])) HT_.out HW_.out (by kernel_rfl) (by kernel_rfl) ?_ ?_ ?_
  · exact ⟨.bool false, .bool false, .bool false, .bool false, .bool false, by simp only [putSel, Bool.false_eq_true, if_false], fun _ => HD.out, fun h_ => absurd h_ (by decide), fun h_ => absurd h_ (by decide), fun h_ => absurd h_ (by decide), fun h_ => absurd h_ (by decide), fun h_ => absurd h_ (by decide), fun h_ => absurd h_ (by decide), fun h_ => absurd h_ (by decide)⟩
  · skip
    clear HD
    refine steps_cons ?_ ?_
    · rintro b a w' ⟨b1, b2, b3, b4, m5_, ha, Q_HD, Q_FB1, Q_FB2, Q_FB3, Q_FB4, Q_NBB, Q_HE, Q_X5_⟩ hb_ hon hoff
      refine ⟨_, rfl, fun K hK => ?_⟩
      replace ha := Az.mk ha
      have HD := Az.mk (Q_HD (hoff 6 (by kernel_rfl)))
      refine Kd.R_make_step Kd.string (w0 := w) w.heap.size 9 (by rfl) (N := 8) rfl 24 _ _ rfl 12 rfl rfl Try.underlying24 (.string ⟨#[]⟩) 16 infoL9 rfl (by decide) (by omega) (⟨#[]⟩ : ByteArray) (ok := fun _ => True) (okp := fun _ => True) rfl (fun _ hk => hk) trivial (by omega) (by omega) HD.out.bel HD.out.base_le ?_
      intro v1 w1 hr1 _ hg1 hn1
      have hb1 := below_of_none hg1
      refine hK.out _ _ ⟨v1, b2, b3, b4, m5_, (by rw [ha.out]; exact putSel_upk 0 hb_ rfl rfl rfl), fun _ => HD.out.step hb1, fun _ _ => hr1, fun h0_ h1_ => Kd.R_below (Q_FB2 h0_ h1_) hb1, fun h0_ h1_ => Kd.R_below (Q_FB3 h0_ h1_) hb1, fun h0_ h1_ => Kd.R_below (Q_FB4 h0_ h1_) hb1, fun h0_ h1_ => own_apart' (own_new hn1) (own_lt' (Q_FB2 h1_ (hoff 6 (by kernel_rfl)))), fun h0_ => absurd ((hoff 6 (by kernel_rfl)).symm.trans h0_) (by decide), fun h0_ => absurd ((hoff 5 (by kernel_rfl)).symm.trans h0_) (by decide)⟩
    refine steps_cons ?_ ?_
    · rintro b a w' ⟨b1, b2, b3, b4, m5_, ha, Q_HD, Q_FB1, Q_FB2, Q_FB3, Q_FB4, Q_NBB, Q_HE, Q_X5_⟩ hb_ hon hoff
      refine ⟨_, rfl, fun K hK => ?_⟩
      replace ha := Az.mk ha
      have HD := Az.mk (Q_HD (hoff 6 (by kernel_rfl)))
      refine Kd.R_make_step Kd.string (w0 := w) w.heap.size 9 (by rfl) (N := 9) rfl 24 _ _ rfl 2 rfl rfl Try.underlying24 (.string ⟨#[]⟩) 16 infoL9 rfl (by decide) (by omega) (⟨#[]⟩ : ByteArray) (ok := fun _ => True) (okp := fun _ => True) rfl (fun _ hk => hk) trivial (by omega) (by omega) HD.out.bel HD.out.base_le ?_
      intro v1 w1 hr1 _ hg1 hn1
      have hb1 := below_of_none hg1
      refine hK.out _ _ ⟨b1, v1, b3, b4, m5_, (by rw [ha.out]; exact putSel_upk 1 hb_ rfl rfl rfl), fun _ => HD.out.step hb1, fun h0_ h1_ => Kd.R_below (Q_FB1 h0_ h1_) hb1, fun _ _ => hr1, fun h0_ h1_ => Kd.R_below (Q_FB3 h0_ h1_) hb1, fun h0_ h1_ => Kd.R_below (Q_FB4 h0_ h1_) hb1, fun h0_ h1_ => own_apart (own_lt' (Q_FB1 h0_ (hoff 6 (by kernel_rfl)))) (own_new hn1), fun h0_ => absurd ((hoff 6 (by kernel_rfl)).symm.trans h0_) (by decide), fun h0_ => absurd ((hoff 5 (by kernel_rfl)).symm.trans h0_) (by decide)⟩
    refine steps_cons ?_ ?_
    · rintro b a w' ⟨b1, b2, b3, b4, m5_, ha, Q_HD, Q_FB1, Q_FB2, Q_FB3, Q_FB4, Q_NBB, Q_HE, Q_X5_⟩ hb_ hon hoff
      refine ⟨_, rfl, fun K hK => ?_⟩
      replace ha := Az.mk ha
      have HD := Az.mk (Q_HD (hoff 6 (by kernel_rfl)))
      refine Kd.R_make_step Kd.bool (w0 := w) w.heap.size 4 (by rfl) (N := 10) rfl 25 _ _ rfl 12 rfl rfl Try.underlying25 (.bool false) 1 infoL4 rfl (by decide) (by omega) false (ok := fun _ => True) (okp := fun _ => True) rfl (fun _ hk => hk) trivial (by omega) (by omega) HD.out.bel HD.out.base_le ?_
      intro v1 w1 hr1 _ hg1 hn1
      have hb1 := below_of_none hg1
      refine hK.out _ _ ⟨b1, b2, v1, b4, m5_, (by rw [ha.out]; exact putSel_upk 2 hb_ rfl rfl rfl), fun _ => HD.out.step hb1, fun h0_ h1_ => Kd.R_below (Q_FB1 h0_ h1_) hb1, fun h0_ h1_ => Kd.R_below (Q_FB2 h0_ h1_) hb1, fun _ _ => hr1, fun h0_ h1_ => Kd.R_below (Q_FB4 h0_ h1_) hb1, fun h0_ h1_ => (Q_NBB h0_ h1_), fun h0_ => absurd ((hoff 6 (by kernel_rfl)).symm.trans h0_) (by decide), fun h0_ => absurd ((hoff 5 (by kernel_rfl)).symm.trans h0_) (by decide)⟩
    refine steps_cons ?_ ?_
    · rintro b a w' ⟨b1, b2, b3, b4, m5_, ha, Q_HD, Q_FB1, Q_FB2, Q_FB3, Q_FB4, Q_NBB, Q_HE, Q_X5_⟩ hb_ hon hoff
      refine ⟨_, rfl, fun K hK => ?_⟩
      replace ha := Az.mk ha
      have HD := Az.mk (Q_HD (hoff 6 (by kernel_rfl)))
      refine Kd.R_lit_step k54 w.heap.size 54 (by rfl) (N := 11) rfl (xs := ([] : List S54)) (inner := []) (ok := fun _ => True) (okp := fun _ => True) (w0 := w) ?hr (Reps.none _ _) (fun _ hk => hk) trivial HD.out.bel HD.out.base_le (by simp) ?_
      (case hr => first | (go_simp; done) | (go_simp; rfl))
      intro v1 w1 hr1 _ hg1 hn1
      have hb1 := below_of_none hg1
      refine hK.out _ _ ⟨b1, b2, b3, v1, m5_, (by rw [ha.out]; exact putSel_upk 3 hb_ rfl rfl rfl), fun _ => HD.out.step hb1, fun h0_ h1_ => Kd.R_below (Q_FB1 h0_ h1_) hb1, fun h0_ h1_ => Kd.R_below (Q_FB2 h0_ h1_) hb1, fun h0_ h1_ => Kd.R_below (Q_FB3 h0_ h1_) hb1, fun _ _ => hr1, fun h0_ h1_ => (Q_NBB h0_ h1_), fun h0_ => absurd ((hoff 6 (by kernel_rfl)).symm.trans h0_) (by decide), fun h0_ => absurd ((hoff 5 (by kernel_rfl)).symm.trans h0_) (by decide)⟩
    refine steps_cons ?_ ?_
    · rintro b a w' ⟨b1, b2, b3, b4, m5_, ha, Q_HD, Q_FB1, Q_FB2, Q_FB3, Q_FB4, Q_NBB, Q_HE, Q_X5_⟩ hb_ hon hoff
      refine ⟨_, rfl, fun K hK => ?_⟩
      have e7 : a.tmps[7]? = some (.int .i64 st) := by rw [ha]; exact (putSel_off rfl).trans rfl
      have e8 : a.tmps[8]? = some (b1) := by rw [ha]; exact putSel_on (e := (1, 8, b1)) 0 rfl rfl (hon 1 (by kernel_rfl)) rfl
      have e9 : a.tmps[9]? = some (b2) := by rw [ha]; exact putSel_on (e := (2, 9, b2)) 1 rfl rfl (hon 2 (by kernel_rfl)) rfl
      have e10 : a.tmps[10]? = some (b3) := by rw [ha]; exact putSel_on (e := (3, 10, b3)) 2 rfl rfl (hon 3 (by kernel_rfl)) rfl
      have e11 : a.tmps[11]? = some (b4) := by rw [ha]; exact putSel_on (e := (4, 11, b4)) 3 rfl rfl (hon 4 (by kernel_rfl)) rfl
      replace ha := Az.mk ha
      have HD := Az.mk (Q_HD (hoff 6 (by kernel_rfl)))
      have FB1 := Az.mk (Q_FB1 (hon 1 (by kernel_rfl)) (hoff 6 (by kernel_rfl)))
      have FB2 := Az.mk (Q_FB2 (hon 2 (by kernel_rfl)) (hoff 6 (by kernel_rfl)))
      have FB3 := Az.mk (Q_FB3 (hon 3 (by kernel_rfl)) (hoff 6 (by kernel_rfl)))
      have FB4 := Az.mk (Q_FB4 (hon 4 (by kernel_rfl)) (hoff 6 (by kernel_rfl)))
      have NBB := Az.mk (Q_NBB (hon 1 (by kernel_rfl)) (hon 2 (by kernel_rfl)))
      obtain ⟨p1, q1, rfl⟩ := Kd.R_slice FB1.out
      obtain ⟨p2, q2, rfl⟩ := Kd.R_slice FB2.out
      obtain ⟨p3, q3, rfl⟩ := Kd.R_slice FB3.out
      obtain ⟨p4, q4, rfl⟩ := Kd.R_slice FB4.out
      refine value_ (w1 := w') (v := .agg #[.int .i64 st, (.slice p1 e12.length q1), (.slice p2 e2.length q2), (.slice p3 f12.length q3), (.slice p4 ([] : List S54).length q4)]) (by rfl) rfl ?_ ?_
      · go_simp
        (try simp only [i64_w])
        try rfl
      refine hK.out _ _ ⟨(.slice p1 e12.length q1), (.slice p2 e2.length q2), (.slice p3 f12.length q3), (.slice p4 ([] : List S54).length q4), (.agg #[.int .i64 st, (.slice p1 e12.length q1), (.slice p2 e2.length q2), (.slice p3 f12.length q3), (.slice p4 ([] : List S54).length q4)]), (by rw [ha.out]; exact putSel_upk 4 hb_ rfl rfl rfl), fun _ => HD.out, fun _ _ => FB1.out, fun _ _ => FB2.out, fun _ _ => FB3.out, fun _ _ => FB4.out, fun _ _ => NBB.out, fun h0_ => absurd ((hoff 6 (by kernel_rfl)).symm.trans h0_) (by decide), fun _ => rfl⟩
    refine steps_cons ?_ ?_
    · rintro b a w' ⟨b1, b2, b3, b4, m5_, ha, Q_HD, Q_FB1, Q_FB2, Q_FB3, Q_FB4, Q_NBB, Q_HE, Q_X5_⟩ hb_ hon hoff
      refine ⟨_, rfl, fun K hK => ?_⟩
      have e2 : a.tmps[2]? = some (.pointer (some ⟨g2, 0, none⟩)) := by rw [ha]; exact (putSel_off rfl).trans rfl
      have e12 : a.tmps[12]? = some (m5_) := by rw [ha]; exact putSel_on (e := (5, 12, m5_)) 4 rfl rfl (hon 5 (by kernel_rfl)) rfl
      rw [Q_X5_ (hon 5 (by kernel_rfl))] at e12
      replace ha := Az.mk ha
      have HD := Az.mk (Q_HD hb_)
      have FB1 := Az.mk (Q_FB1 (hon 1 (by kernel_rfl)) hb_)
      have FB2 := Az.mk (Q_FB2 (hon 2 (by kernel_rfl)) hb_)
      have FB3 := Az.mk (Q_FB3 (hon 3 (by kernel_rfl)) hb_)
      have FB4 := Az.mk (Q_FB4 (hon 4 (by kernel_rfl)) hb_)
      have NBB := Az.mk (Q_NBB (hon 1 (by kernel_rfl)) (hon 2 (by kernel_rfl)))
      have ho : (#[.int .i64 st, b1, b2, b3, b4] : Array Value).all (·.oneCell') = true := by
        obtain ⟨_, _, h1⟩ := Kd.R_slice FB1.out
        obtain ⟨_, _, h2⟩ := Kd.R_slice FB2.out
        obtain ⟨_, _, h3⟩ := Kd.R_slice FB3.out
        obtain ⟨_, _, h4⟩ := Kd.R_slice FB4.out
        rw [h1, h2, h3, h4]
        simp [Value.oneCell']
      refine skip_ (by rfl) rfl (HD.out.run_st 0 rfl rfl (eval_of e2) _ (eval_of e12) hs28 rfl ho) ?_
      refine hK.out _ _ ⟨b1, b2, b3, b4, m5_, (by rw [ha.out]; exact putSel_none (v := undef) rfl), fun h0_ => absurd ((up_self b 6).symm.trans h0_) (by decide), fun _ h1_ => absurd ((up_self b 6).symm.trans h1_) (by decide), fun _ h1_ => absurd ((up_self b 6).symm.trans h1_) (by decide), fun _ h1_ => absurd ((up_self b 6).symm.trans h1_) (by decide), fun _ h1_ => absurd ((up_self b 6).symm.trans h1_) (by decide), fun _ _ => NBB.out, fun _ => ⟨HD.out.set_row 0 rfl _, R_set_far FB1.out (HD.out.box 0 rfl) (by decide) _ ownerless_string, R_set_far FB2.out (HD.out.box 0 rfl) (by decide) _ ownerless_string, R_set_far FB3.out (HD.out.box 0 rfl) (by decide) _ ownerless_bool, R_set_far FB4.out (HD.out.box 0 rfl) (by decide) _ ownerless_k54⟩, Q_X5_⟩
    exact steps_nil
  · rintro b a w' hall ⟨b1, b2, b3, b4, m5_, ha, Q_HD, Q_FB1, Q_FB2, Q_FB3, Q_FB4, Q_NBB, Q_HE, Q_X5_⟩
    clear HD
    have hb1_ := hall 1 (by kernel_rfl)
    have hb2_ := hall 2 (by kernel_rfl)
    have hb3_ := hall 3 (by kernel_rfl)
    have hb4_ := hall 4 (by kernel_rfl)
    have hb5_ := hall 5 (by kernel_rfl)
    have hb6_ := hall 6 (by kernel_rfl)
    subst ha
    obtain rfl := Q_X5_ hb5_
    simp only [putSel, hb1_, hb2_, hb3_, hb4_, hb5_, hb6_, if_true, Act.put, List.setIfInBounds_toArray, List.set_cons_zero, List.set_cons_succ]
    clear Q_HD
    clear Q_FB1
    clear Q_FB2
    clear Q_FB3
    clear Q_FB4
    have NBB := Az.mk (Q_NBB hb1_ hb2_)
    clear Q_NBB
    have HE := Az.mk (Q_HE hb6_)
    clear Q_HE
    clear hall hb1_ hb2_ hb3_ hb4_ hb5_ hb6_

    obtain ⟨HE1, o1, o2, o3, o4⟩ := HE.out
    go_wp2
    refine bodyPost_ret (results_cell_row rfl _ _ g2 28 _ (0, 0) _ rfl (HE1.box 0 rfl) Try.underlying28 rfl (by kernel_rfl)) rfl ?_
    have hn : ∀ k, b1.ownBlock = some k → some k ≠ b2.ownBlock := fun k hk => atom_of NBB.out hk
    have hn' : ∀ k, b2.ownBlock = some k → some k ≠ b1.ownBlock := fun k hk => atom_of' NBB.out hk
    obtain ⟨A1, c1, rfl⟩ := Kd.R_slice o1
    obtain ⟨A2, c2, rfl⟩ := Kd.R_slice o2
    obtain ⟨A3, c3, rfl⟩ := Kd.R_slice o3
    obtain ⟨A4, c4, rfl⟩ := Kd.R_slice o4
    exact ⟨⟨A1, c1, A2, c2, A3, c3, A4, c4⟩, rfl, ⟨R_base o1 (fun k hk => (own_ge o1 k hk).1) (fun k hk => ⟨own_lt' o1 k hk, hn k hk⟩), R_base o2 (fun k hk => (own_ge o2 k hk).1) (fun k hk => ⟨own_lt' o2 k hk, hn' k hk⟩), R_base o3 (fun k hk => (own_ge o3 k hk).1) (fun k hk => own_lt' o3 k hk), R_base54 o4 (fun k hk => (own_ge o4 k hk).1) (fun k hk => own_lt' o4 k hk)⟩, HE1.bel⟩
end Go.Proofs.Ytkgpnloghmbmlaa.Hd
