/- Proved, with what follows on it: the row of the law FnDiskNew. Conditions: the row's alone. Texts of this session and words that the kit's print laid for this seat, merged and cut by shrink.py, a program of this session. -/
import Derived.ChangeKeysEq
import Derived.Laws.Cover3
import Derived.Test.YtkgpnloghmbmlaaZFnDiskNewB
namespace Go.Proofs.Ytkgpnloghmbmlaa.Print
open Go.RowKit Go.Proofs.YtkgpnloghmbmlaaW.PrintWords Go.Proofs.YtkgpnloghmbmlaaW.PrintLast Go.Proofs.YtkgpnloghmbmlaaW.PrintMore
attribute [local go_sem] max2_int min2_int max_two min_two max_three min_three max_four min_four   -- for this text's walks alone
set_option linter.unusedVariables false
set_option linter.unusedSimpArgs false
attribute [local go_sem high] eqA54
mutual
def laws_lpaDisk.j0 : Nat → Bool → Int → List ByteArray → List ByteArray → List Bool → List (S54) → Int → List ByteArray → List ByteArray → List Bool → List (S54) → Option (Bool)
  | 0, _, _, _, _, _, _, _, _, _, _, _ => none
  | k + 1, x45, x429000, x429001, x429002, x429003, x429004, x430000, x430001, x430002, x430003, x430004 => if x45 = true then (some false) else (laws_lpaDisk.l0 k 0 x429000 x429001 x429002 x429003 x429004 x430000 x430001 x430002 x430003 x430004)
def laws_lpaDisk.l0 : Nat → Int → Int → List ByteArray → List ByteArray → List Bool → List (S54) → Int → List ByteArray → List ByteArray → List Bool → List (S54) → Option (Bool)
  | 0, _, _, _, _, _, _, _, _, _, _, _ => none
  | k + 1, x5, x429000, x429001, x429002, x429003, x429004, x430000, x430001, x430002, x430003, x430004 => if x5 < (x429003.length : Int) then (if 0 ≤ x5 then (if x5 < (x430003.length : Int) then (if ((rdOf false x429003 x5) != (rdOf false x430003 x5)) = true then (some false) else (laws_lpaDisk.l0 k (wrap64 (x5 + 1)) x429000 x429001 x429002 x429003 x429004 x430000 x430001 x430002 x430003 x430004)) else (none)) else (none)) else (laws_lpaDisk.l1 k 0 x429000 x429001 x429002 x429003 x429004 x430000 x430001 x430002 x430003 x430004)
def laws_lpaDisk.l1 : Nat → Int → Int → List ByteArray → List ByteArray → List Bool → List (S54) → Int → List ByteArray → List ByteArray → List Bool → List (S54) → Option (Bool)
  | 0, _, _, _, _, _, _, _, _, _, _, _ => none
  | k + 1, x6, x429000, x429001, x429002, x429003, x429004, x430000, x430001, x430002, x430003, x430004 => if x6 < (x429004.length : Int) then (if 0 ≤ x6 then (if x6 < (x430004.length : Int) then (if (!(((rd_T54 x429004 x6).f0) == ((rd_T54 x430004 x6).f0)) || (!(((rd_T54 x429004 x6).f1) == ((rd_T54 x430004 x6).f1)) || (!((((rd_T54 x429004 x6).f2).toList) == (((rd_T54 x430004 x6).f2).toList))))) = true then (some false) else (laws_lpaDisk.l1 k (wrap64 (x6 + 1)) x429000 x429001 x429002 x429003 x429004 x430000 x430001 x430002 x430003 x430004)) else (none)) else (none)) else (some true)
end
def laws_lpaDisk.f (k : Nat) (a0_0 : Int) (l0_1 : List ByteArray) (l0_2 : List ByteArray) (l0_3 : List Bool) (l0_4 : List (S54)) (a1_0 : Int) (l1_1 : List ByteArray) (l1_2 : List ByteArray) (l1_3 : List Bool) (l1_4 : List (S54)) : Option (Bool) := if a0_0 = a1_0 then ((laws_lpaTexts.f k l0_1 l1_1).bind fun t430 => (if t430 = true then ((laws_lpaTexts.f k l0_2 l1_2).bind fun t431 => (if t431 = true then (if (l0_3.length : Int) = (l1_3.length : Int) then (laws_lpaDisk.j0 k ((l0_4.length : Int) != (l1_4.length : Int)) a0_0 l0_1 l0_2 l0_3 l0_4 a1_0 l1_1 l1_2 l1_3 l1_4) else (laws_lpaDisk.j0 k true a0_0 l0_1 l0_2 l0_3 l0_4 a1_0 l1_1 l1_2 l1_3 l1_4)) else (laws_lpaDisk.j0 k true a0_0 l0_1 l0_2 l0_3 l0_4 a1_0 l1_1 l1_2 l1_3 l1_4))) else (laws_lpaDisk.j0 k true a0_0 l0_1 l0_2 l0_3 l0_4 a1_0 l1_1 l1_2 l1_3 l1_4))) else (laws_lpaDisk.j0 k true a0_0 l0_1 l0_2 l0_3 l0_4 a1_0 l1_1 l1_2 l1_3 l1_4)
theorem laws_lpaDisk.mono_l : ∀ k, (∀ y0 y1 y2 y3 y4 y5 y6 y7 y8 y9 y10, LeO (laws_lpaDisk.j0 k y0 y1 y2 y3 y4 y5 y6 y7 y8 y9 y10) (laws_lpaDisk.j0 (k + 1) y0 y1 y2 y3 y4 y5 y6 y7 y8 y9 y10)) ∧ (∀ y0 y1 y2 y3 y4 y5 y6 y7 y8 y9 y10, LeO (laws_lpaDisk.l0 k y0 y1 y2 y3 y4 y5 y6 y7 y8 y9 y10) (laws_lpaDisk.l0 (k + 1) y0 y1 y2 y3 y4 y5 y6 y7 y8 y9 y10)) ∧ (∀ y0 y1 y2 y3 y4 y5 y6 y7 y8 y9 y10, LeO (laws_lpaDisk.l1 k y0 y1 y2 y3 y4 y5 y6 y7 y8 y9 y10) (laws_lpaDisk.l1 (k + 1) y0 y1 y2 y3 y4 y5 y6 y7 y8 y9 y10))
  | 0 => ⟨fun _ _ _ _ _ _ _ _ _ _ _ r h => by simp [laws_lpaDisk.j0] at h, fun _ _ _ _ _ _ _ _ _ _ _ r h => by simp [laws_lpaDisk.l0] at h, fun _ _ _ _ _ _ _ _ _ _ _ r h => by simp [laws_lpaDisk.l1] at h⟩
  | k + 1 => by
    obtain ⟨ih0, ih1, ih2⟩ := laws_lpaDisk.mono_l k
    refine ⟨?_, ?_, ?_⟩
    · intro y0 y1 y2 y3 y4 y5 y6 y7 y8 y9 y10
      unfold laws_lpaDisk.j0
      repeat' first
      | (with_reducible exact ih0 _ _ _ _ _ _ _ _ _ _ _)
      | (with_reducible exact ih1 _ _ _ _ _ _ _ _ _ _ _)
      | (with_reducible exact ih2 _ _ _ _ _ _ _ _ _ _ _)
      | (with_reducible exact laws_lpaTexts.mono _ _ _)
      | (with_reducible exact LeO.refl _)
      | (with_reducible exact LeO.none _)
      | (with_reducible refine LeO.ite ?_ ?_)
      | (with_reducible refine LeO.bind ?_ (fun _ => ?_))
      | exact ih0 _ _ _ _ _ _ _ _ _ _ _
      | exact ih1 _ _ _ _ _ _ _ _ _ _ _
      | exact ih2 _ _ _ _ _ _ _ _ _ _ _
      | exact laws_lpaTexts.mono _ _ _
      | exact LeO.none _
      | refine LeO.ite ?_ ?_
      | refine LeO.bind ?_ (fun _ => ?_)
    · intro y0 y1 y2 y3 y4 y5 y6 y7 y8 y9 y10
      unfold laws_lpaDisk.l0
      repeat' first
      | (with_reducible exact ih0 _ _ _ _ _ _ _ _ _ _ _)
      | (with_reducible exact ih1 _ _ _ _ _ _ _ _ _ _ _)
      | (with_reducible exact ih2 _ _ _ _ _ _ _ _ _ _ _)
      | (with_reducible exact laws_lpaTexts.mono _ _ _)
      | (with_reducible exact LeO.refl _)
      | (with_reducible exact LeO.none _)
      | (with_reducible refine LeO.ite ?_ ?_)
      | (with_reducible refine LeO.bind ?_ (fun _ => ?_))
      | exact ih0 _ _ _ _ _ _ _ _ _ _ _
      | exact ih1 _ _ _ _ _ _ _ _ _ _ _
      | exact ih2 _ _ _ _ _ _ _ _ _ _ _
      | exact laws_lpaTexts.mono _ _ _
      | exact LeO.none _
      | refine LeO.ite ?_ ?_
      | refine LeO.bind ?_ (fun _ => ?_)
    · intro y0 y1 y2 y3 y4 y5 y6 y7 y8 y9 y10
      unfold laws_lpaDisk.l1
      repeat' first
      | (with_reducible exact ih0 _ _ _ _ _ _ _ _ _ _ _)
      | (with_reducible exact ih1 _ _ _ _ _ _ _ _ _ _ _)
      | (with_reducible exact ih2 _ _ _ _ _ _ _ _ _ _ _)
      | (with_reducible exact laws_lpaTexts.mono _ _ _)
      | (with_reducible exact LeO.refl _)
      | (with_reducible exact LeO.none _)
      | (with_reducible refine LeO.ite ?_ ?_)
      | (with_reducible refine LeO.bind ?_ (fun _ => ?_))
      | exact ih0 _ _ _ _ _ _ _ _ _ _ _
      | exact ih1 _ _ _ _ _ _ _ _ _ _ _
      | exact ih2 _ _ _ _ _ _ _ _ _ _ _
      | exact laws_lpaTexts.mono _ _ _
      | exact LeO.none _
      | refine LeO.ite ?_ ?_
      | refine LeO.bind ?_ (fun _ => ?_)
theorem laws_lpaDisk.mono : ∀ a0 a1 a2 a3 a4 a5 a6 a7 a8 a9 k, LeO (laws_lpaDisk.f k a0 a1 a2 a3 a4 a5 a6 a7 a8 a9) (laws_lpaDisk.f (k + 1) a0 a1 a2 a3 a4 a5 a6 a7 a8 a9) := by
  intro a0 a1 a2 a3 a4 a5 a6 a7 a8 a9 k
  obtain ⟨ih0, ih1, ih2⟩ := laws_lpaDisk.mono_l k
  unfold laws_lpaDisk.f
  repeat' first
      | (with_reducible exact ih0 _ _ _ _ _ _ _ _ _ _ _)
      | (with_reducible exact ih1 _ _ _ _ _ _ _ _ _ _ _)
      | (with_reducible exact ih2 _ _ _ _ _ _ _ _ _ _ _)
      | (with_reducible exact laws_lpaTexts.mono _ _ _)
      | (with_reducible exact LeO.refl _)
      | (with_reducible exact LeO.none _)
      | (with_reducible refine LeO.ite ?_ ?_)
      | (with_reducible refine LeO.bind ?_ (fun _ => ?_))
      | exact ih0 _ _ _ _ _ _ _ _ _ _ _
      | exact ih1 _ _ _ _ _ _ _ _ _ _ _
      | exact ih2 _ _ _ _ _ _ _ _ _ _ _
      | exact laws_lpaTexts.mono _ _ _
      | exact LeO.none _
      | refine LeO.ite ?_ ?_
      | refine LeO.bind ?_ (fun _ => ?_)
set_option maxHeartbeats 8000000 in
set_option maxRecDepth 100000 in
theorem laws_lpaDisk.calls (k : Nat) (a0_0 : Int) (A0_1 : Option Addr) (c0_1 : Nat) (l0_1 : List ByteArray) (A0_2 : Option Addr) (c0_2 : Nat) (l0_2 : List ByteArray) (A0_3 : Option Addr) (c0_3 : Nat) (l0_3 : List Bool) (A0_4 : Option Addr) (c0_4 : Nat) (l0_4 : List (S54)) (a1_0 : Int) (A1_1 : Option Addr) (c1_1 : Nat) (l1_1 : List ByteArray) (A1_2 : Option Addr) (c1_2 : Nat) (l1_2 : List ByteArray) (A1_3 : Option Addr) (c1_3 : Nat) (l1_3 : List Bool) (A1_4 : Option Addr) (c1_4 : Nat) (l1_4 : List (S54)) (r : Bool) (w : World) (hr0_1 : Kd.C Kd.string w A0_1 l0_1.length l0_1) (hc0_1 : l0_1.length ≤ c0_1) (hr0_2 : Kd.C Kd.string w A0_2 l0_2.length l0_2) (hc0_2 : l0_2.length ≤ c0_2) (hr0_3 : Kd.C Kd.bool w A0_3 l0_3.length l0_3) (hc0_3 : l0_3.length ≤ c0_3) (hr0_4 : Kd.C k54 w A0_4 l0_4.length l0_4) (hc0_4 : l0_4.length ≤ c0_4) (hr1_1 : Kd.C Kd.string w A1_1 l1_1.length l1_1) (hc1_1 : l1_1.length ≤ c1_1) (hr1_2 : Kd.C Kd.string w A1_2 l1_2.length l1_2) (hc1_2 : l1_2.length ≤ c1_2) (hr1_3 : Kd.C Kd.bool w A1_3 l1_3.length l1_3) (hc1_3 : l1_3.length ≤ c1_3) (hr1_4 : Kd.C k54 w A1_4 l1_4.length l1_4) (hc1_4 : l1_4.length ≤ c1_4) (h : laws_lpaDisk.f k a0_0 l0_1 l0_2 l0_3 l0_4 a1_0 l1_1 l1_2 l1_3 l1_4 = some r) :
    Calls Try.prog 18 #[.agg #[.int .i64 a0_0, .slice A0_1 l0_1.length c0_1, .slice A0_2 l0_2.length c0_2, .slice A0_3 l0_3.length c0_3, .slice A0_4 l0_4.length c0_4], .agg #[.int .i64 a1_0, .slice A1_1 l1_1.length c1_1, .slice A1_2 l1_2.length c1_2, .slice A1_3 l1_3.length c1_3, .slice A1_4 l1_4.length c1_4]] w fun e w' => e = .returned (.bool r) ∧ Below w.heap.size w w' := by
  have hu28 := Try.underlying28
  have hu54 := Try.underlying54
  have HR0_1 := Aside0.mk hr0_1
  have HC0_1 := Aside0.mk hc0_1
  clear hr0_1 hc0_1
  have HR0_2 := Aside0.mk hr0_2
  have HC0_2 := Aside0.mk hc0_2
  clear hr0_2 hc0_2
  have HR0_3 := Aside0.mk hr0_3
  have HC0_3 := Aside0.mk hc0_3
  clear hr0_3 hc0_3
  have HR0_4 := Aside0.mk hr0_4
  have HC0_4 := Aside0.mk hc0_4
  clear hr0_4 hc0_4
  have HR1_1 := Aside0.mk hr1_1
  have HC1_1 := Aside0.mk hc1_1
  clear hr1_1 hc1_1
  have HR1_2 := Aside0.mk hr1_2
  have HC1_2 := Aside0.mk hc1_2
  clear hr1_2 hc1_2
  have HR1_3 := Aside0.mk hr1_3
  have HC1_3 := Aside0.mk hc1_3
  clear hr1_3 hc1_3
  have HR1_4 := Aside0.mk hr1_4
  have HC1_4 := Aside0.mk hc1_4
  clear hr1_4 hc1_4
  have HB := Aside0.mk (Below.refl w.heap.size w)
  have H : (if a0_0 = a1_0 then ((laws_lpaTexts.f k l0_1 l1_1).bind fun t430 => (if t430 = true then ((laws_lpaTexts.f k l0_2 l1_2).bind fun t431 => (if t431 = true then (if (l0_3.length : Int) = (l1_3.length : Int) then (laws_lpaDisk.j0 k ((l0_4.length : Int) != (l1_4.length : Int)) a0_0 l0_1 l0_2 l0_3 l0_4 a1_0 l1_1 l1_2 l1_3 l1_4) else (laws_lpaDisk.j0 k true a0_0 l0_1 l0_2 l0_3 l0_4 a1_0 l1_1 l1_2 l1_3 l1_4)) else (laws_lpaDisk.j0 k true a0_0 l0_1 l0_2 l0_3 l0_4 a1_0 l1_1 l1_2 l1_3 l1_4))) else (laws_lpaDisk.j0 k true a0_0 l0_1 l0_2 l0_3 l0_4 a1_0 l1_1 l1_2 l1_3 l1_4))) else (laws_lpaDisk.j0 k true a0_0 l0_1 l0_2 l0_3 l0_4 a1_0 l1_1 l1_2 l1_3 l1_4)) = some r := h
  clear h
  have HC3 := Aside0.mk H
  clear H
  go_enter Try.func18, Try.ntmps18
  go_upto_region 1 with (first | ((with_reducible refine gate_dst (N := 2) rfl ?_); (try (refine gate_guard (by rfl) ?_; dsimp only)); refine box_event ?hg (N := 2) ?hd (cs := #[.int .i64 a0_0, .slice A0_1 l0_1.length c0_1, .slice A0_2 l0_2.length c0_2, .slice A0_3 l0_3.length c0_3, .slice A0_4 l0_4.length c0_4]) (t := 28) ?hr ?_; (case hd => rfl); (case hg => rfl); (case hr => first | (go_simp; done) | (go_simp; rfl)); intro gb428 hg w4 hbox hb; have n0_ := Aside0.mk (below_step (by repeat (first | (with_reducible first | exact HB.out | apply below_alloc | apply pw_below_drewN | apply below_drew1) | exact HB.out)) hb); have n1_ := Aside0.mk (hbox); have n2_ := Aside0.mk ((by rw [hg]; exact (below_size (by repeat (first | (with_reducible first | exact HB.out | apply below_alloc | apply pw_below_drewN | apply below_drew1) | exact HB.out))) : w.heap.size ≤ gb428)); have n3_ := Aside0.mk ((by rw [hg]; exact (below_size (by repeat (first | (with_reducible first | exact HB.out | apply below_alloc | apply pw_below_drewN | apply below_drew1) | exact HB.out))) : w.heap.size ≤ gb428)); clear HB; have HB := n0_; have BK428 := n1_; have GW428 := n2_; have GE428 := n3_; clear n0_ n1_ n2_ n3_; clear hb hbox hg) | ((with_reducible refine gate_dst (N := 3) rfl ?_); (try (refine gate_guard (by rfl) ?_; dsimp only)); refine box_event ?hg (N := 3) ?hd (cs := #[.int .i64 a1_0, .slice A1_1 l1_1.length c1_1, .slice A1_2 l1_2.length c1_2, .slice A1_3 l1_3.length c1_3, .slice A1_4 l1_4.length c1_4]) (t := 28) ?hr ?_; (case hd => rfl); (case hg => rfl); (case hr => first | (go_simp; done) | (go_simp; rfl)); intro gb429 hg w5 hbox hb; have n0_ := Aside0.mk (blk_below (g := gb428) (o := .cells #[.int .i64 a0_0, .slice A0_1 l0_1.length c0_1, .slice A0_2 l0_2.length c0_2, .slice A0_3 l0_3.length c0_3, .slice A0_4 l0_4.length c0_4] 28 (0, 0)) (by (with_reducible repeat (first | refine blk_drewN ?_ _ | refine blk_drew ?_ | refine blk_alloc ?_ _)); exact BK428.out) hb); have n1_ := Aside0.mk (below_step (by repeat (first | (with_reducible first | exact HB.out | apply below_alloc | apply pw_below_drewN | apply below_drew1 | refine below_set ?_ GE428.out) | exact HB.out)) hb); have n2_ := Aside0.mk (hbox); have n3_ := Aside0.mk ((by rw [hg]; exact (below_size (by repeat (first | (with_reducible first | exact HB.out | apply below_alloc | apply pw_below_drewN | apply below_drew1 | refine below_set ?_ GE428.out) | exact HB.out))) : w.heap.size ≤ gb429)); have n4_ := Aside0.mk ((by rw [hg]; exact (below_size (by repeat (first | (with_reducible first | exact HB.out | apply below_alloc | apply pw_below_drewN | apply below_drew1 | refine below_set ?_ GE428.out) | exact HB.out))) : w.heap.size ≤ gb429)); have n5_ := Aside0.mk ((by rw [hg]; exact Nat.ne_of_lt (blk_lt (g := gb428) (o := .cells #[.int .i64 a0_0, .slice A0_1 l0_1.length c0_1, .slice A0_2 l0_2.length c0_2, .slice A0_3 l0_3.length c0_3, .slice A0_4 l0_4.length c0_4] 28 (0, 0)) (by (with_reducible repeat (first | refine blk_drewN ?_ _ | refine blk_drew ?_ | refine blk_alloc ?_ _)); exact BK428.out)) : gb428 ≠ gb429)); have n6_ := Aside0.mk ((by rw [hg]; exact Nat.ne_of_gt (blk_lt (g := gb428) (o := .cells #[.int .i64 a0_0, .slice A0_1 l0_1.length c0_1, .slice A0_2 l0_2.length c0_2, .slice A0_3 l0_3.length c0_3, .slice A0_4 l0_4.length c0_4] 28 (0, 0)) (by (with_reducible repeat (first | refine blk_drewN ?_ _ | refine blk_drew ?_ | refine blk_alloc ?_ _)); exact BK428.out)) : gb429 ≠ gb428)); clear BK428; clear HB; have BK428 := n0_; have HB := n1_; have BK429 := n2_; have GW429 := n3_; have GE429 := n4_; have NB428_429 := n5_; have NB429_428 := n6_; clear n0_ n1_ n2_ n3_ n4_ n5_ n6_; clear hb hbox hg))
  repeat (go_quiet (first | ((with_reducible refine gate_dst (N := 2) rfl ?_); (try (refine gate_guard (by rfl) ?_; dsimp only)); refine box_event ?hg (N := 2) ?hd (cs := #[.int .i64 a0_0, .slice A0_1 l0_1.length c0_1, .slice A0_2 l0_2.length c0_2, .slice A0_3 l0_3.length c0_3, .slice A0_4 l0_4.length c0_4]) (t := 28) ?hr ?_; (case hd => rfl); (case hg => rfl); (case hr => first | (go_simp; done) | (go_simp; rfl)); intro gb428 hg w4 hbox hb; have n0_ := Aside0.mk (below_step (by repeat (first | (with_reducible first | exact HB.out | apply below_alloc | apply pw_below_drewN | apply below_drew1) | exact HB.out)) hb); have n1_ := Aside0.mk (hbox); have n2_ := Aside0.mk ((by rw [hg]; exact (below_size (by repeat (first | (with_reducible first | exact HB.out | apply below_alloc | apply pw_below_drewN | apply below_drew1) | exact HB.out))) : w.heap.size ≤ gb428)); have n3_ := Aside0.mk ((by rw [hg]; exact (below_size (by repeat (first | (with_reducible first | exact HB.out | apply below_alloc | apply pw_below_drewN | apply below_drew1) | exact HB.out))) : w.heap.size ≤ gb428)); clear HB; have HB := n0_; have BK428 := n1_; have GW428 := n2_; have GE428 := n3_; clear n0_ n1_ n2_ n3_; clear hb hbox hg) | ((with_reducible refine gate_dst (N := 3) rfl ?_); (try (refine gate_guard (by rfl) ?_; dsimp only)); refine box_event ?hg (N := 3) ?hd (cs := #[.int .i64 a1_0, .slice A1_1 l1_1.length c1_1, .slice A1_2 l1_2.length c1_2, .slice A1_3 l1_3.length c1_3, .slice A1_4 l1_4.length c1_4]) (t := 28) ?hr ?_; (case hd => rfl); (case hg => rfl); (case hr => first | (go_simp; done) | (go_simp; rfl)); intro gb429 hg w5 hbox hb; have n0_ := Aside0.mk (blk_below (g := gb428) (o := .cells #[.int .i64 a0_0, .slice A0_1 l0_1.length c0_1, .slice A0_2 l0_2.length c0_2, .slice A0_3 l0_3.length c0_3, .slice A0_4 l0_4.length c0_4] 28 (0, 0)) (by (with_reducible repeat (first | refine blk_drewN ?_ _ | refine blk_drew ?_ | refine blk_alloc ?_ _)); exact BK428.out) hb); have n1_ := Aside0.mk (below_step (by repeat (first | (with_reducible first | exact HB.out | apply below_alloc | apply pw_below_drewN | apply below_drew1 | refine below_set ?_ GE428.out) | exact HB.out)) hb); have n2_ := Aside0.mk (hbox); have n3_ := Aside0.mk ((by rw [hg]; exact (below_size (by repeat (first | (with_reducible first | exact HB.out | apply below_alloc | apply pw_below_drewN | apply below_drew1 | refine below_set ?_ GE428.out) | exact HB.out))) : w.heap.size ≤ gb429)); have n4_ := Aside0.mk ((by rw [hg]; exact (below_size (by repeat (first | (with_reducible first | exact HB.out | apply below_alloc | apply pw_below_drewN | apply below_drew1 | refine below_set ?_ GE428.out) | exact HB.out))) : w.heap.size ≤ gb429)); have n5_ := Aside0.mk ((by rw [hg]; exact Nat.ne_of_lt (blk_lt (g := gb428) (o := .cells #[.int .i64 a0_0, .slice A0_1 l0_1.length c0_1, .slice A0_2 l0_2.length c0_2, .slice A0_3 l0_3.length c0_3, .slice A0_4 l0_4.length c0_4] 28 (0, 0)) (by (with_reducible repeat (first | refine blk_drewN ?_ _ | refine blk_drew ?_ | refine blk_alloc ?_ _)); exact BK428.out)) : gb428 ≠ gb429)); have n6_ := Aside0.mk ((by rw [hg]; exact Nat.ne_of_gt (blk_lt (g := gb428) (o := .cells #[.int .i64 a0_0, .slice A0_1 l0_1.length c0_1, .slice A0_2 l0_2.length c0_2, .slice A0_3 l0_3.length c0_3, .slice A0_4 l0_4.length c0_4] 28 (0, 0)) (by (with_reducible repeat (first | refine blk_drewN ?_ _ | refine blk_drew ?_ | refine blk_alloc ?_ _)); exact BK428.out)) : gb429 ≠ gb428)); clear BK428; clear HB; have BK428 := n0_; have HB := n1_; have BK429 := n2_; have GW429 := n3_; have GE429 := n4_; have NB428_429 := n5_; have NB429_428 := n6_; clear n0_ n1_ n2_ n3_ n4_ n5_ n6_; clear hb hbox hg)); go_upto_region 1 with (first | ((with_reducible refine gate_dst (N := 2) rfl ?_); (try (refine gate_guard (by rfl) ?_; dsimp only)); refine box_event ?hg (N := 2) ?hd (cs := #[.int .i64 a0_0, .slice A0_1 l0_1.length c0_1, .slice A0_2 l0_2.length c0_2, .slice A0_3 l0_3.length c0_3, .slice A0_4 l0_4.length c0_4]) (t := 28) ?hr ?_; (case hd => rfl); (case hg => rfl); (case hr => first | (go_simp; done) | (go_simp; rfl)); intro gb428 hg w4 hbox hb; have n0_ := Aside0.mk (below_step (by repeat (first | (with_reducible first | exact HB.out | apply below_alloc | apply pw_below_drewN | apply below_drew1) | exact HB.out)) hb); have n1_ := Aside0.mk (hbox); have n2_ := Aside0.mk ((by rw [hg]; exact (below_size (by repeat (first | (with_reducible first | exact HB.out | apply below_alloc | apply pw_below_drewN | apply below_drew1) | exact HB.out))) : w.heap.size ≤ gb428)); have n3_ := Aside0.mk ((by rw [hg]; exact (below_size (by repeat (first | (with_reducible first | exact HB.out | apply below_alloc | apply pw_below_drewN | apply below_drew1) | exact HB.out))) : w.heap.size ≤ gb428)); clear HB; have HB := n0_; have BK428 := n1_; have GW428 := n2_; have GE428 := n3_; clear n0_ n1_ n2_ n3_; clear hb hbox hg) | ((with_reducible refine gate_dst (N := 3) rfl ?_); (try (refine gate_guard (by rfl) ?_; dsimp only)); refine box_event ?hg (N := 3) ?hd (cs := #[.int .i64 a1_0, .slice A1_1 l1_1.length c1_1, .slice A1_2 l1_2.length c1_2, .slice A1_3 l1_3.length c1_3, .slice A1_4 l1_4.length c1_4]) (t := 28) ?hr ?_; (case hd => rfl); (case hg => rfl); (case hr => first | (go_simp; done) | (go_simp; rfl)); intro gb429 hg w5 hbox hb; have n0_ := Aside0.mk (blk_below (g := gb428) (o := .cells #[.int .i64 a0_0, .slice A0_1 l0_1.length c0_1, .slice A0_2 l0_2.length c0_2, .slice A0_3 l0_3.length c0_3, .slice A0_4 l0_4.length c0_4] 28 (0, 0)) (by (with_reducible repeat (first | refine blk_drewN ?_ _ | refine blk_drew ?_ | refine blk_alloc ?_ _)); exact BK428.out) hb); have n1_ := Aside0.mk (below_step (by repeat (first | (with_reducible first | exact HB.out | apply below_alloc | apply pw_below_drewN | apply below_drew1 | refine below_set ?_ GE428.out) | exact HB.out)) hb); have n2_ := Aside0.mk (hbox); have n3_ := Aside0.mk ((by rw [hg]; exact (below_size (by repeat (first | (with_reducible first | exact HB.out | apply below_alloc | apply pw_below_drewN | apply below_drew1 | refine below_set ?_ GE428.out) | exact HB.out))) : w.heap.size ≤ gb429)); have n4_ := Aside0.mk ((by rw [hg]; exact (below_size (by repeat (first | (with_reducible first | exact HB.out | apply below_alloc | apply pw_below_drewN | apply below_drew1 | refine below_set ?_ GE428.out) | exact HB.out))) : w.heap.size ≤ gb429)); have n5_ := Aside0.mk ((by rw [hg]; exact Nat.ne_of_lt (blk_lt (g := gb428) (o := .cells #[.int .i64 a0_0, .slice A0_1 l0_1.length c0_1, .slice A0_2 l0_2.length c0_2, .slice A0_3 l0_3.length c0_3, .slice A0_4 l0_4.length c0_4] 28 (0, 0)) (by (with_reducible repeat (first | refine blk_drewN ?_ _ | refine blk_drew ?_ | refine blk_alloc ?_ _)); exact BK428.out)) : gb428 ≠ gb429)); have n6_ := Aside0.mk ((by rw [hg]; exact Nat.ne_of_gt (blk_lt (g := gb428) (o := .cells #[.int .i64 a0_0, .slice A0_1 l0_1.length c0_1, .slice A0_2 l0_2.length c0_2, .slice A0_3 l0_3.length c0_3, .slice A0_4 l0_4.length c0_4] 28 (0, 0)) (by (with_reducible repeat (first | refine blk_drewN ?_ _ | refine blk_drew ?_ | refine blk_alloc ?_ _)); exact BK428.out)) : gb429 ≠ gb428)); clear BK428; clear HB; have BK428 := n0_; have HB := n1_; have BK429 := n2_; have GW429 := n3_; have GE429 := n4_; have NB428_429 := n5_; have NB429_428 := n6_; clear n0_ n1_ n2_ n3_ n4_ n5_ n6_; clear hb hbox hg)))
  (try simp only [Act.put, List.setIfInBounds_toArray, List.set_cons_zero, List.set_cons_succ])
  go_cut [45] (fun v45 wc => ∃ (kq : Nat) (x45_2 : Bool), v45 = .bool x45_2 ∧ Aside0 (laws_lpaDisk.j0 kq x45_2 a0_0 l0_1 l0_2 l0_3 l0_4 a1_0 l1_1 l1_2 l1_3 l1_4 = some r) ∧ Aside0 (kq ≤ k) ∧ Aside0 (wc.heap[gb428]? = some (.cells #[.int .i64 a0_0, (.slice A0_1 l0_1.length c0_1), (.slice A0_2 l0_2.length c0_2), (.slice A0_3 l0_3.length c0_3), (.slice A0_4 l0_4.length c0_4)] 28 (0, 0))) ∧ Aside0 (wc.heap[gb429]? = some (.cells #[.int .i64 a1_0, (.slice A1_1 l1_1.length c1_1), (.slice A1_2 l1_2.length c1_2), (.slice A1_3 l1_3.length c1_3), (.slice A1_4 l1_4.length c1_4)] 28 (0, 0))) ∧ Aside0 (Below w.heap.size w wc))
  case first =>
    have H := HC3.out
    clear HC3
    by_cases c6 : a0_0 = a1_0
    · rw [if_pos c6] at H
      have c6b0 : (a0_0 == a1_0) = true := beq_iff_eq.mpr c6
      have c6b1 : (a0_0 != a1_0) = false := bne_eq_false_iff_eq.mpr c6
      clear c6
      (first | rw [c6b0] | (simp only [i64_w, i32_w]; rw [c6b0]) | skip)
      replace H := Option.bind_eq_some_iff.mp H
      obtain ⟨t430, A70, H⟩ := H
      replace H : (if t430 = true then ((laws_lpaTexts.f k l0_2 l1_2).bind fun t431 => (if t431 = true then (if (l0_3.length : Int) = (l1_3.length : Int) then (laws_lpaDisk.j0 k ((l0_4.length : Int) != (l1_4.length : Int)) a0_0 l0_1 l0_2 l0_3 l0_4 a1_0 l1_1 l1_2 l1_3 l1_4) else (laws_lpaDisk.j0 k true a0_0 l0_1 l0_2 l0_3 l0_4 a1_0 l1_1 l1_2 l1_3 l1_4)) else (laws_lpaDisk.j0 k true a0_0 l0_1 l0_2 l0_3 l0_4 a1_0 l1_1 l1_2 l1_3 l1_4))) else (laws_lpaDisk.j0 k true a0_0 l0_1 l0_2 l0_3 l0_4 a1_0 l1_1 l1_2 l1_3 l1_4)) = some r := H
      have A7 := Aside0.mk A70
      clear A70
      by_cases c8 : t430 = true
      · subst c8
        have H1 : ((laws_lpaTexts.f k l0_2 l1_2).bind fun t431 => (if t431 = true then (if (l0_3.length : Int) = (l1_3.length : Int) then (laws_lpaDisk.j0 k ((l0_4.length : Int) != (l1_4.length : Int)) a0_0 l0_1 l0_2 l0_3 l0_4 a1_0 l1_1 l1_2 l1_3 l1_4) else (laws_lpaDisk.j0 k true a0_0 l0_1 l0_2 l0_3 l0_4 a1_0 l1_1 l1_2 l1_3 l1_4)) else (laws_lpaDisk.j0 k true a0_0 l0_1 l0_2 l0_3 l0_4 a1_0 l1_1 l1_2 l1_3 l1_4))) = some r := by rw [if_pos rfl] at H; exact H
        clear H
        have H := H1
        clear H1
        replace H := Option.bind_eq_some_iff.mp H
        obtain ⟨t431, A90, H⟩ := H
        replace H : (if t431 = true then (if (l0_3.length : Int) = (l1_3.length : Int) then (laws_lpaDisk.j0 k ((l0_4.length : Int) != (l1_4.length : Int)) a0_0 l0_1 l0_2 l0_3 l0_4 a1_0 l1_1 l1_2 l1_3 l1_4) else (laws_lpaDisk.j0 k true a0_0 l0_1 l0_2 l0_3 l0_4 a1_0 l1_1 l1_2 l1_3 l1_4)) else (laws_lpaDisk.j0 k true a0_0 l0_1 l0_2 l0_3 l0_4 a1_0 l1_1 l1_2 l1_3 l1_4)) = some r := H
        have A9 := Aside0.mk A90
        clear A90
        by_cases c10 : t431 = true
        · subst c10
          have H1 : (if (l0_3.length : Int) = (l1_3.length : Int) then (laws_lpaDisk.j0 k ((l0_4.length : Int) != (l1_4.length : Int)) a0_0 l0_1 l0_2 l0_3 l0_4 a1_0 l1_1 l1_2 l1_3 l1_4) else (laws_lpaDisk.j0 k true a0_0 l0_1 l0_2 l0_3 l0_4 a1_0 l1_1 l1_2 l1_3 l1_4)) = some r := by rw [if_pos rfl] at H; exact H
          clear H
          have H := H1
          clear H1
          by_cases c11 : (l0_3.length : Int) = (l1_3.length : Int)
          · rw [if_pos c11] at H
            have c11b0 : ((l0_3.length : Int) == (l1_3.length : Int)) = true := beq_iff_eq.mpr c11
            have c11b1 : ((l0_3.length : Int) != (l1_3.length : Int)) = false := bne_eq_false_iff_eq.mpr c11
            have c11b2 : (l0_3.length == l1_3.length) = true := by first | simpa using c11 | (simp at c11 ⊢; omega)
            clear c11
            have H' := Aside0.mk H
            clear H
            have hnb12 := NB428_429.out
            have hnc12 := NB429_428.out
            have hcz13_0 : w5.cell? ⟨gb428, 0, none⟩ = some (.int .i64 a0_0) := (blk_cell BK428.out 0).trans rfl
            have hcz13_1 : w5.cell? ⟨gb428, 1, none⟩ = some (.slice A0_1 l0_1.length c0_1) := (blk_cell BK428.out 1).trans rfl
            have hcz13_2 : w5.cell? ⟨gb428, 2, none⟩ = some (.slice A0_2 l0_2.length c0_2) := (blk_cell BK428.out 2).trans rfl
            have hcz13_3 : w5.cell? ⟨gb428, 3, none⟩ = some (.slice A0_3 l0_3.length c0_3) := (blk_cell BK428.out 3).trans rfl
            have hcz13_4 : w5.cell? ⟨gb428, 4, none⟩ = some (.slice A0_4 l0_4.length c0_4) := (blk_cell BK428.out 4).trans rfl
            have hfz13_0 := blk_frozen BK428.out 0
            have hfz13_1 := blk_frozen BK428.out 1
            have hfz13_2 := blk_frozen BK428.out 2
            have hfz13_3 := blk_frozen BK428.out 3
            have hfz13_4 := blk_frozen BK428.out 4
            have hcz14_0 : w5.cell? ⟨gb429, 0, none⟩ = some (.int .i64 a1_0) := (blk_cell BK429.out 0).trans rfl
            have hcz14_1 : w5.cell? ⟨gb429, 1, none⟩ = some (.slice A1_1 l1_1.length c1_1) := (blk_cell BK429.out 1).trans rfl
            have hcz14_2 : w5.cell? ⟨gb429, 2, none⟩ = some (.slice A1_2 l1_2.length c1_2) := (blk_cell BK429.out 2).trans rfl
            have hcz14_3 : w5.cell? ⟨gb429, 3, none⟩ = some (.slice A1_3 l1_3.length c1_3) := (blk_cell BK429.out 3).trans rfl
            have hcz14_4 : w5.cell? ⟨gb429, 4, none⟩ = some (.slice A1_4 l1_4.length c1_4) := (blk_cell BK429.out 4).trans rfl
            have hfz14_0 := blk_frozen BK429.out 0
            have hfz14_1 := blk_frozen BK429.out 1
            have hfz14_2 := blk_frozen BK429.out 2
            have hfz14_3 := blk_frozen BK429.out 3
            have hfz14_4 := blk_frozen BK429.out 4
            go_wp2_with (first | (go_at_call 40; (with_reducible refine (laws_lpaTexts.calls k _ _ l0_1 _ _ l1_1 true _ ?side1 ?side2 ?side3 ?side4 A7.out).mono ?_); (case side1 => repeat (first | exact (Kd.C_below HR0_1.out HB.out) | (with_reducible refine Kd.C_alloc ?_ _) | (with_reducible refine Kd.C_drewN ?_ _) | (with_reducible refine Kd.C_drew ?_))); (case side2 => exact HC0_1.out); (case side3 => repeat (first | exact (Kd.C_below HR1_1.out HB.out) | (with_reducible refine Kd.C_alloc ?_ _) | (with_reducible refine Kd.C_drewN ?_ _) | (with_reducible refine Kd.C_drew ?_))); (case side4 => exact HC1_1.out); rintro e w' ⟨rfl, ⟨nd, rfl⟩⟩; (try first | exact ⟨rfl, _, World.drewN_drewN _ _ _⟩ | exact ⟨rfl, _, Eq.trans (World.drewN_drewN _ _ _) (congrArg (World.drewN _) (Nat.add_assoc _ _ _))⟩)) | (go_at_call 40; (with_reducible refine (laws_lpaTexts.calls k _ _ l0_2 _ _ l1_2 true _ ?side1 ?side2 ?side3 ?side4 A9.out).mono ?_); (case side1 => repeat (first | exact (Kd.C_below HR0_2.out (by repeat (first | (with_reducible first | exact HB.out | apply below_alloc | apply pw_below_drewN | apply below_drew1 | refine below_set ?_ GE428.out | refine below_set ?_ GE429.out) | exact HB.out))) | (with_reducible refine Kd.C_alloc ?_ _) | (with_reducible refine Kd.C_drewN ?_ _) | (with_reducible refine Kd.C_drew ?_))); (case side2 => exact HC0_2.out); (case side3 => repeat (first | exact (Kd.C_below HR1_2.out (by repeat (first | (with_reducible first | exact HB.out | apply below_alloc | apply pw_below_drewN | apply below_drew1 | refine below_set ?_ GE428.out | refine below_set ?_ GE429.out) | exact HB.out))) | (with_reducible refine Kd.C_alloc ?_ _) | (with_reducible refine Kd.C_drewN ?_ _) | (with_reducible refine Kd.C_drew ?_))); (case side4 => exact HC1_2.out); rintro e w' ⟨rfl, ⟨nd, rfl⟩⟩; (try first | exact ⟨rfl, _, World.drewN_drewN _ _ _⟩ | exact ⟨rfl, _, Eq.trans (World.drewN_drewN _ _ _) (congrArg (World.drewN _) (Nat.add_assoc _ _ _))⟩)))
            repeat (go_quiet (first | (go_at_call 40; (with_reducible refine (laws_lpaTexts.calls k _ _ l0_1 _ _ l1_1 true _ ?side1 ?side2 ?side3 ?side4 A7.out).mono ?_); (case side1 => repeat (first | exact (Kd.C_below HR0_1.out HB.out) | (with_reducible refine Kd.C_alloc ?_ _) | (with_reducible refine Kd.C_drewN ?_ _) | (with_reducible refine Kd.C_drew ?_))); (case side2 => exact HC0_1.out); (case side3 => repeat (first | exact (Kd.C_below HR1_1.out HB.out) | (with_reducible refine Kd.C_alloc ?_ _) | (with_reducible refine Kd.C_drewN ?_ _) | (with_reducible refine Kd.C_drew ?_))); (case side4 => exact HC1_1.out); rintro e w' ⟨rfl, ⟨nd, rfl⟩⟩; (try first | exact ⟨rfl, _, World.drewN_drewN _ _ _⟩ | exact ⟨rfl, _, Eq.trans (World.drewN_drewN _ _ _) (congrArg (World.drewN _) (Nat.add_assoc _ _ _))⟩)) | (go_at_call 40; (with_reducible refine (laws_lpaTexts.calls k _ _ l0_2 _ _ l1_2 true _ ?side1 ?side2 ?side3 ?side4 A9.out).mono ?_); (case side1 => repeat (first | exact (Kd.C_below HR0_2.out (by repeat (first | (with_reducible first | exact HB.out | apply below_alloc | apply pw_below_drewN | apply below_drew1 | refine below_set ?_ GE428.out | refine below_set ?_ GE429.out) | exact HB.out))) | (with_reducible refine Kd.C_alloc ?_ _) | (with_reducible refine Kd.C_drewN ?_ _) | (with_reducible refine Kd.C_drew ?_))); (case side2 => exact HC0_2.out); (case side3 => repeat (first | exact (Kd.C_below HR1_2.out (by repeat (first | (with_reducible first | exact HB.out | apply below_alloc | apply pw_below_drewN | apply below_drew1 | refine below_set ?_ GE428.out | refine below_set ?_ GE429.out) | exact HB.out))) | (with_reducible refine Kd.C_alloc ?_ _) | (with_reducible refine Kd.C_drewN ?_ _) | (with_reducible refine Kd.C_drew ?_))); (case side4 => exact HC1_2.out); rintro e w' ⟨rfl, ⟨nd, rfl⟩⟩; (try first | exact ⟨rfl, _, World.drewN_drewN _ _ _⟩ | exact ⟨rfl, _, Eq.trans (World.drewN_drewN _ _ _) (congrArg (World.drewN _) (Nat.add_assoc _ _ _))⟩))); try go_wp2_with (first | (go_at_call 40; (with_reducible refine (laws_lpaTexts.calls k _ _ l0_1 _ _ l1_1 true _ ?side1 ?side2 ?side3 ?side4 A7.out).mono ?_); (case side1 => repeat (first | exact (Kd.C_below HR0_1.out HB.out) | (with_reducible refine Kd.C_alloc ?_ _) | (with_reducible refine Kd.C_drewN ?_ _) | (with_reducible refine Kd.C_drew ?_))); (case side2 => exact HC0_1.out); (case side3 => repeat (first | exact (Kd.C_below HR1_1.out HB.out) | (with_reducible refine Kd.C_alloc ?_ _) | (with_reducible refine Kd.C_drewN ?_ _) | (with_reducible refine Kd.C_drew ?_))); (case side4 => exact HC1_1.out); rintro e w' ⟨rfl, ⟨nd, rfl⟩⟩; (try first | exact ⟨rfl, _, World.drewN_drewN _ _ _⟩ | exact ⟨rfl, _, Eq.trans (World.drewN_drewN _ _ _) (congrArg (World.drewN _) (Nat.add_assoc _ _ _))⟩)) | (go_at_call 40; (with_reducible refine (laws_lpaTexts.calls k _ _ l0_2 _ _ l1_2 true _ ?side1 ?side2 ?side3 ?side4 A9.out).mono ?_); (case side1 => repeat (first | exact (Kd.C_below HR0_2.out (by repeat (first | (with_reducible first | exact HB.out | apply below_alloc | apply pw_below_drewN | apply below_drew1 | refine below_set ?_ GE428.out | refine below_set ?_ GE429.out) | exact HB.out))) | (with_reducible refine Kd.C_alloc ?_ _) | (with_reducible refine Kd.C_drewN ?_ _) | (with_reducible refine Kd.C_drew ?_))); (case side2 => exact HC0_2.out); (case side3 => repeat (first | exact (Kd.C_below HR1_2.out (by repeat (first | (with_reducible first | exact HB.out | apply below_alloc | apply pw_below_drewN | apply below_drew1 | refine below_set ?_ GE428.out | refine below_set ?_ GE429.out) | exact HB.out))) | (with_reducible refine Kd.C_alloc ?_ _) | (with_reducible refine Kd.C_drewN ?_ _) | (with_reducible refine Kd.C_drew ?_))); (case side4 => exact HC1_2.out); rintro e w' ⟨rfl, ⟨nd, rfl⟩⟩; (try first | exact ⟨rfl, _, World.drewN_drewN _ _ _⟩ | exact ⟨rfl, _, Eq.trans (World.drewN_drewN _ _ _) (congrArg (World.drewN _) (Nat.add_assoc _ _ _))⟩))))
            go_meet
            case rel => exact ⟨_, (((l0_4.length : Int) != (l1_4.length : Int))), (by first | rfl | (simp; done) | (simp [*]; done)), H', ⟨by first | omega | exact Nat.le_refl _⟩, ⟨by (with_reducible repeat (first | refine blk_drewN ?_ _ | refine blk_drew ?_ | refine blk_alloc ?_ _)); exact BK428.out⟩, ⟨by (with_reducible repeat (first | refine blk_drewN ?_ _ | refine blk_drew ?_ | refine blk_alloc ?_ _)); exact BK429.out⟩, ⟨by repeat (first | (with_reducible first | exact HB.out | apply below_alloc | apply pw_below_drewN | apply below_drew1 | refine below_set ?_ GE428.out | refine below_set ?_ GE429.out) | exact HB.out)⟩⟩
          · rw [if_neg c11] at H
            have c11b0 : ((l0_3.length : Int) == (l1_3.length : Int)) = false := beq_eq_false_iff_ne.mpr c11
            have c11b1 : ((l0_3.length : Int) != (l1_3.length : Int)) = true := bne_iff_ne.mpr c11
            have c11b2 : (l0_3.length == l1_3.length) = false := by first | simpa using c11 | (simp at c11 ⊢; omega)
            have H' := Aside0.mk H
            clear H
            have hnb15 := NB428_429.out
            have hnc15 := NB429_428.out
            have hcz16_0 : w5.cell? ⟨gb428, 0, none⟩ = some (.int .i64 a0_0) := (blk_cell BK428.out 0).trans rfl
            have hcz16_1 : w5.cell? ⟨gb428, 1, none⟩ = some (.slice A0_1 l0_1.length c0_1) := (blk_cell BK428.out 1).trans rfl
            have hcz16_2 : w5.cell? ⟨gb428, 2, none⟩ = some (.slice A0_2 l0_2.length c0_2) := (blk_cell BK428.out 2).trans rfl
            have hcz16_3 : w5.cell? ⟨gb428, 3, none⟩ = some (.slice A0_3 l0_3.length c0_3) := (blk_cell BK428.out 3).trans rfl
            have hcz16_4 : w5.cell? ⟨gb428, 4, none⟩ = some (.slice A0_4 l0_4.length c0_4) := (blk_cell BK428.out 4).trans rfl
            have hfz16_0 := blk_frozen BK428.out 0
            have hfz16_1 := blk_frozen BK428.out 1
            have hfz16_2 := blk_frozen BK428.out 2
            have hfz16_3 := blk_frozen BK428.out 3
            have hfz16_4 := blk_frozen BK428.out 4
            have hcz17_0 : w5.cell? ⟨gb429, 0, none⟩ = some (.int .i64 a1_0) := (blk_cell BK429.out 0).trans rfl
            have hcz17_1 : w5.cell? ⟨gb429, 1, none⟩ = some (.slice A1_1 l1_1.length c1_1) := (blk_cell BK429.out 1).trans rfl
            have hcz17_2 : w5.cell? ⟨gb429, 2, none⟩ = some (.slice A1_2 l1_2.length c1_2) := (blk_cell BK429.out 2).trans rfl
            have hcz17_3 : w5.cell? ⟨gb429, 3, none⟩ = some (.slice A1_3 l1_3.length c1_3) := (blk_cell BK429.out 3).trans rfl
            have hcz17_4 : w5.cell? ⟨gb429, 4, none⟩ = some (.slice A1_4 l1_4.length c1_4) := (blk_cell BK429.out 4).trans rfl
            have hfz17_0 := blk_frozen BK429.out 0
            have hfz17_1 := blk_frozen BK429.out 1
            have hfz17_2 := blk_frozen BK429.out 2
            have hfz17_3 := blk_frozen BK429.out 3
            have hfz17_4 := blk_frozen BK429.out 4
            go_wp2_with (first | (go_at_call 40; (with_reducible refine (laws_lpaTexts.calls k _ _ l0_1 _ _ l1_1 true _ ?side1 ?side2 ?side3 ?side4 A7.out).mono ?_); (case side1 => repeat (first | exact (Kd.C_below HR0_1.out HB.out) | (with_reducible refine Kd.C_alloc ?_ _) | (with_reducible refine Kd.C_drewN ?_ _) | (with_reducible refine Kd.C_drew ?_))); (case side2 => exact HC0_1.out); (case side3 => repeat (first | exact (Kd.C_below HR1_1.out HB.out) | (with_reducible refine Kd.C_alloc ?_ _) | (with_reducible refine Kd.C_drewN ?_ _) | (with_reducible refine Kd.C_drew ?_))); (case side4 => exact HC1_1.out); rintro e w' ⟨rfl, ⟨nd, rfl⟩⟩; (try first | exact ⟨rfl, _, World.drewN_drewN _ _ _⟩ | exact ⟨rfl, _, Eq.trans (World.drewN_drewN _ _ _) (congrArg (World.drewN _) (Nat.add_assoc _ _ _))⟩)) | (go_at_call 40; (with_reducible refine (laws_lpaTexts.calls k _ _ l0_2 _ _ l1_2 true _ ?side1 ?side2 ?side3 ?side4 A9.out).mono ?_); (case side1 => repeat (first | exact (Kd.C_below HR0_2.out (by repeat (first | (with_reducible first | exact HB.out | apply below_alloc | apply pw_below_drewN | apply below_drew1 | refine below_set ?_ GE428.out | refine below_set ?_ GE429.out) | exact HB.out))) | (with_reducible refine Kd.C_alloc ?_ _) | (with_reducible refine Kd.C_drewN ?_ _) | (with_reducible refine Kd.C_drew ?_))); (case side2 => exact HC0_2.out); (case side3 => repeat (first | exact (Kd.C_below HR1_2.out (by repeat (first | (with_reducible first | exact HB.out | apply below_alloc | apply pw_below_drewN | apply below_drew1 | refine below_set ?_ GE428.out | refine below_set ?_ GE429.out) | exact HB.out))) | (with_reducible refine Kd.C_alloc ?_ _) | (with_reducible refine Kd.C_drewN ?_ _) | (with_reducible refine Kd.C_drew ?_))); (case side4 => exact HC1_2.out); rintro e w' ⟨rfl, ⟨nd, rfl⟩⟩; (try first | exact ⟨rfl, _, World.drewN_drewN _ _ _⟩ | exact ⟨rfl, _, Eq.trans (World.drewN_drewN _ _ _) (congrArg (World.drewN _) (Nat.add_assoc _ _ _))⟩)))
            repeat (go_quiet (first | (go_at_call 40; (with_reducible refine (laws_lpaTexts.calls k _ _ l0_1 _ _ l1_1 true _ ?side1 ?side2 ?side3 ?side4 A7.out).mono ?_); (case side1 => repeat (first | exact (Kd.C_below HR0_1.out HB.out) | (with_reducible refine Kd.C_alloc ?_ _) | (with_reducible refine Kd.C_drewN ?_ _) | (with_reducible refine Kd.C_drew ?_))); (case side2 => exact HC0_1.out); (case side3 => repeat (first | exact (Kd.C_below HR1_1.out HB.out) | (with_reducible refine Kd.C_alloc ?_ _) | (with_reducible refine Kd.C_drewN ?_ _) | (with_reducible refine Kd.C_drew ?_))); (case side4 => exact HC1_1.out); rintro e w' ⟨rfl, ⟨nd, rfl⟩⟩; (try first | exact ⟨rfl, _, World.drewN_drewN _ _ _⟩ | exact ⟨rfl, _, Eq.trans (World.drewN_drewN _ _ _) (congrArg (World.drewN _) (Nat.add_assoc _ _ _))⟩)) | (go_at_call 40; (with_reducible refine (laws_lpaTexts.calls k _ _ l0_2 _ _ l1_2 true _ ?side1 ?side2 ?side3 ?side4 A9.out).mono ?_); (case side1 => repeat (first | exact (Kd.C_below HR0_2.out (by repeat (first | (with_reducible first | exact HB.out | apply below_alloc | apply pw_below_drewN | apply below_drew1 | refine below_set ?_ GE428.out | refine below_set ?_ GE429.out) | exact HB.out))) | (with_reducible refine Kd.C_alloc ?_ _) | (with_reducible refine Kd.C_drewN ?_ _) | (with_reducible refine Kd.C_drew ?_))); (case side2 => exact HC0_2.out); (case side3 => repeat (first | exact (Kd.C_below HR1_2.out (by repeat (first | (with_reducible first | exact HB.out | apply below_alloc | apply pw_below_drewN | apply below_drew1 | refine below_set ?_ GE428.out | refine below_set ?_ GE429.out) | exact HB.out))) | (with_reducible refine Kd.C_alloc ?_ _) | (with_reducible refine Kd.C_drewN ?_ _) | (with_reducible refine Kd.C_drew ?_))); (case side4 => exact HC1_2.out); rintro e w' ⟨rfl, ⟨nd, rfl⟩⟩; (try first | exact ⟨rfl, _, World.drewN_drewN _ _ _⟩ | exact ⟨rfl, _, Eq.trans (World.drewN_drewN _ _ _) (congrArg (World.drewN _) (Nat.add_assoc _ _ _))⟩))); try go_wp2_with (first | (go_at_call 40; (with_reducible refine (laws_lpaTexts.calls k _ _ l0_1 _ _ l1_1 true _ ?side1 ?side2 ?side3 ?side4 A7.out).mono ?_); (case side1 => repeat (first | exact (Kd.C_below HR0_1.out HB.out) | (with_reducible refine Kd.C_alloc ?_ _) | (with_reducible refine Kd.C_drewN ?_ _) | (with_reducible refine Kd.C_drew ?_))); (case side2 => exact HC0_1.out); (case side3 => repeat (first | exact (Kd.C_below HR1_1.out HB.out) | (with_reducible refine Kd.C_alloc ?_ _) | (with_reducible refine Kd.C_drewN ?_ _) | (with_reducible refine Kd.C_drew ?_))); (case side4 => exact HC1_1.out); rintro e w' ⟨rfl, ⟨nd, rfl⟩⟩; (try first | exact ⟨rfl, _, World.drewN_drewN _ _ _⟩ | exact ⟨rfl, _, Eq.trans (World.drewN_drewN _ _ _) (congrArg (World.drewN _) (Nat.add_assoc _ _ _))⟩)) | (go_at_call 40; (with_reducible refine (laws_lpaTexts.calls k _ _ l0_2 _ _ l1_2 true _ ?side1 ?side2 ?side3 ?side4 A9.out).mono ?_); (case side1 => repeat (first | exact (Kd.C_below HR0_2.out (by repeat (first | (with_reducible first | exact HB.out | apply below_alloc | apply pw_below_drewN | apply below_drew1 | refine below_set ?_ GE428.out | refine below_set ?_ GE429.out) | exact HB.out))) | (with_reducible refine Kd.C_alloc ?_ _) | (with_reducible refine Kd.C_drewN ?_ _) | (with_reducible refine Kd.C_drew ?_))); (case side2 => exact HC0_2.out); (case side3 => repeat (first | exact (Kd.C_below HR1_2.out (by repeat (first | (with_reducible first | exact HB.out | apply below_alloc | apply pw_below_drewN | apply below_drew1 | refine below_set ?_ GE428.out | refine below_set ?_ GE429.out) | exact HB.out))) | (with_reducible refine Kd.C_alloc ?_ _) | (with_reducible refine Kd.C_drewN ?_ _) | (with_reducible refine Kd.C_drew ?_))); (case side4 => exact HC1_2.out); rintro e w' ⟨rfl, ⟨nd, rfl⟩⟩; (try first | exact ⟨rfl, _, World.drewN_drewN _ _ _⟩ | exact ⟨rfl, _, Eq.trans (World.drewN_drewN _ _ _) (congrArg (World.drewN _) (Nat.add_assoc _ _ _))⟩))))
            go_meet
            case rel => exact ⟨_, (true), (by first | rfl | (simp; done) | (simp [*]; done)), H', ⟨by first | omega | exact Nat.le_refl _⟩, ⟨by (with_reducible repeat (first | refine blk_drewN ?_ _ | refine blk_drew ?_ | refine blk_alloc ?_ _)); exact BK428.out⟩, ⟨by (with_reducible repeat (first | refine blk_drewN ?_ _ | refine blk_drew ?_ | refine blk_alloc ?_ _)); exact BK429.out⟩, ⟨by repeat (first | (with_reducible first | exact HB.out | apply below_alloc | apply pw_below_drewN | apply below_drew1 | refine below_set ?_ GE428.out | refine below_set ?_ GE429.out) | exact HB.out)⟩⟩
        · replace c10 := Bool.eq_false_iff.mpr c10
          subst c10
          have H1 : (laws_lpaDisk.j0 k true a0_0 l0_1 l0_2 l0_3 l0_4 a1_0 l1_1 l1_2 l1_3 l1_4) = some r := by rw [if_neg (show ¬ (false = true) by decide)] at H; exact H
          clear H
          have H := H1
          clear H1
          have H' := Aside0.mk H
          clear H
          have hnb18 := NB428_429.out
          have hnc18 := NB429_428.out
          have hcz19_0 : w5.cell? ⟨gb428, 0, none⟩ = some (.int .i64 a0_0) := (blk_cell BK428.out 0).trans rfl
          have hcz19_1 : w5.cell? ⟨gb428, 1, none⟩ = some (.slice A0_1 l0_1.length c0_1) := (blk_cell BK428.out 1).trans rfl
          have hcz19_2 : w5.cell? ⟨gb428, 2, none⟩ = some (.slice A0_2 l0_2.length c0_2) := (blk_cell BK428.out 2).trans rfl
          have hcz19_3 : w5.cell? ⟨gb428, 3, none⟩ = some (.slice A0_3 l0_3.length c0_3) := (blk_cell BK428.out 3).trans rfl
          have hcz19_4 : w5.cell? ⟨gb428, 4, none⟩ = some (.slice A0_4 l0_4.length c0_4) := (blk_cell BK428.out 4).trans rfl
          have hfz19_0 := blk_frozen BK428.out 0
          have hfz19_1 := blk_frozen BK428.out 1
          have hfz19_2 := blk_frozen BK428.out 2
          have hfz19_3 := blk_frozen BK428.out 3
          have hfz19_4 := blk_frozen BK428.out 4
          have hcz20_0 : w5.cell? ⟨gb429, 0, none⟩ = some (.int .i64 a1_0) := (blk_cell BK429.out 0).trans rfl
          have hcz20_1 : w5.cell? ⟨gb429, 1, none⟩ = some (.slice A1_1 l1_1.length c1_1) := (blk_cell BK429.out 1).trans rfl
          have hcz20_2 : w5.cell? ⟨gb429, 2, none⟩ = some (.slice A1_2 l1_2.length c1_2) := (blk_cell BK429.out 2).trans rfl
          have hcz20_3 : w5.cell? ⟨gb429, 3, none⟩ = some (.slice A1_3 l1_3.length c1_3) := (blk_cell BK429.out 3).trans rfl
          have hcz20_4 : w5.cell? ⟨gb429, 4, none⟩ = some (.slice A1_4 l1_4.length c1_4) := (blk_cell BK429.out 4).trans rfl
          have hfz20_0 := blk_frozen BK429.out 0
          have hfz20_1 := blk_frozen BK429.out 1
          have hfz20_2 := blk_frozen BK429.out 2
          have hfz20_3 := blk_frozen BK429.out 3
          have hfz20_4 := blk_frozen BK429.out 4
          go_wp2_with (first | (go_at_call 40; (with_reducible refine (laws_lpaTexts.calls k _ _ l0_1 _ _ l1_1 true _ ?side1 ?side2 ?side3 ?side4 A7.out).mono ?_); (case side1 => repeat (first | exact (Kd.C_below HR0_1.out HB.out) | (with_reducible refine Kd.C_alloc ?_ _) | (with_reducible refine Kd.C_drewN ?_ _) | (with_reducible refine Kd.C_drew ?_))); (case side2 => exact HC0_1.out); (case side3 => repeat (first | exact (Kd.C_below HR1_1.out HB.out) | (with_reducible refine Kd.C_alloc ?_ _) | (with_reducible refine Kd.C_drewN ?_ _) | (with_reducible refine Kd.C_drew ?_))); (case side4 => exact HC1_1.out); rintro e w' ⟨rfl, ⟨nd, rfl⟩⟩; (try first | exact ⟨rfl, _, World.drewN_drewN _ _ _⟩ | exact ⟨rfl, _, Eq.trans (World.drewN_drewN _ _ _) (congrArg (World.drewN _) (Nat.add_assoc _ _ _))⟩)) | (go_at_call 40; (with_reducible refine (laws_lpaTexts.calls k _ _ l0_2 _ _ l1_2 false _ ?side1 ?side2 ?side3 ?side4 A9.out).mono ?_); (case side1 => repeat (first | exact (Kd.C_below HR0_2.out (by repeat (first | (with_reducible first | exact HB.out | apply below_alloc | apply pw_below_drewN | apply below_drew1 | refine below_set ?_ GE428.out | refine below_set ?_ GE429.out) | exact HB.out))) | (with_reducible refine Kd.C_alloc ?_ _) | (with_reducible refine Kd.C_drewN ?_ _) | (with_reducible refine Kd.C_drew ?_))); (case side2 => exact HC0_2.out); (case side3 => repeat (first | exact (Kd.C_below HR1_2.out (by repeat (first | (with_reducible first | exact HB.out | apply below_alloc | apply pw_below_drewN | apply below_drew1 | refine below_set ?_ GE428.out | refine below_set ?_ GE429.out) | exact HB.out))) | (with_reducible refine Kd.C_alloc ?_ _) | (with_reducible refine Kd.C_drewN ?_ _) | (with_reducible refine Kd.C_drew ?_))); (case side4 => exact HC1_2.out); rintro e w' ⟨rfl, ⟨nd, rfl⟩⟩; (try first | exact ⟨rfl, _, World.drewN_drewN _ _ _⟩ | exact ⟨rfl, _, Eq.trans (World.drewN_drewN _ _ _) (congrArg (World.drewN _) (Nat.add_assoc _ _ _))⟩)))
          repeat (go_quiet (first | (go_at_call 40; (with_reducible refine (laws_lpaTexts.calls k _ _ l0_1 _ _ l1_1 true _ ?side1 ?side2 ?side3 ?side4 A7.out).mono ?_); (case side1 => repeat (first | exact (Kd.C_below HR0_1.out HB.out) | (with_reducible refine Kd.C_alloc ?_ _) | (with_reducible refine Kd.C_drewN ?_ _) | (with_reducible refine Kd.C_drew ?_))); (case side2 => exact HC0_1.out); (case side3 => repeat (first | exact (Kd.C_below HR1_1.out HB.out) | (with_reducible refine Kd.C_alloc ?_ _) | (with_reducible refine Kd.C_drewN ?_ _) | (with_reducible refine Kd.C_drew ?_))); (case side4 => exact HC1_1.out); rintro e w' ⟨rfl, ⟨nd, rfl⟩⟩; (try first | exact ⟨rfl, _, World.drewN_drewN _ _ _⟩ | exact ⟨rfl, _, Eq.trans (World.drewN_drewN _ _ _) (congrArg (World.drewN _) (Nat.add_assoc _ _ _))⟩)) | (go_at_call 40; (with_reducible refine (laws_lpaTexts.calls k _ _ l0_2 _ _ l1_2 false _ ?side1 ?side2 ?side3 ?side4 A9.out).mono ?_); (case side1 => repeat (first | exact (Kd.C_below HR0_2.out (by repeat (first | (with_reducible first | exact HB.out | apply below_alloc | apply pw_below_drewN | apply below_drew1 | refine below_set ?_ GE428.out | refine below_set ?_ GE429.out) | exact HB.out))) | (with_reducible refine Kd.C_alloc ?_ _) | (with_reducible refine Kd.C_drewN ?_ _) | (with_reducible refine Kd.C_drew ?_))); (case side2 => exact HC0_2.out); (case side3 => repeat (first | exact (Kd.C_below HR1_2.out (by repeat (first | (with_reducible first | exact HB.out | apply below_alloc | apply pw_below_drewN | apply below_drew1 | refine below_set ?_ GE428.out | refine below_set ?_ GE429.out) | exact HB.out))) | (with_reducible refine Kd.C_alloc ?_ _) | (with_reducible refine Kd.C_drewN ?_ _) | (with_reducible refine Kd.C_drew ?_))); (case side4 => exact HC1_2.out); rintro e w' ⟨rfl, ⟨nd, rfl⟩⟩; (try first | exact ⟨rfl, _, World.drewN_drewN _ _ _⟩ | exact ⟨rfl, _, Eq.trans (World.drewN_drewN _ _ _) (congrArg (World.drewN _) (Nat.add_assoc _ _ _))⟩))); try go_wp2_with (first | (go_at_call 40; (with_reducible refine (laws_lpaTexts.calls k _ _ l0_1 _ _ l1_1 true _ ?side1 ?side2 ?side3 ?side4 A7.out).mono ?_); (case side1 => repeat (first | exact (Kd.C_below HR0_1.out HB.out) | (with_reducible refine Kd.C_alloc ?_ _) | (with_reducible refine Kd.C_drewN ?_ _) | (with_reducible refine Kd.C_drew ?_))); (case side2 => exact HC0_1.out); (case side3 => repeat (first | exact (Kd.C_below HR1_1.out HB.out) | (with_reducible refine Kd.C_alloc ?_ _) | (with_reducible refine Kd.C_drewN ?_ _) | (with_reducible refine Kd.C_drew ?_))); (case side4 => exact HC1_1.out); rintro e w' ⟨rfl, ⟨nd, rfl⟩⟩; (try first | exact ⟨rfl, _, World.drewN_drewN _ _ _⟩ | exact ⟨rfl, _, Eq.trans (World.drewN_drewN _ _ _) (congrArg (World.drewN _) (Nat.add_assoc _ _ _))⟩)) | (go_at_call 40; (with_reducible refine (laws_lpaTexts.calls k _ _ l0_2 _ _ l1_2 false _ ?side1 ?side2 ?side3 ?side4 A9.out).mono ?_); (case side1 => repeat (first | exact (Kd.C_below HR0_2.out (by repeat (first | (with_reducible first | exact HB.out | apply below_alloc | apply pw_below_drewN | apply below_drew1 | refine below_set ?_ GE428.out | refine below_set ?_ GE429.out) | exact HB.out))) | (with_reducible refine Kd.C_alloc ?_ _) | (with_reducible refine Kd.C_drewN ?_ _) | (with_reducible refine Kd.C_drew ?_))); (case side2 => exact HC0_2.out); (case side3 => repeat (first | exact (Kd.C_below HR1_2.out (by repeat (first | (with_reducible first | exact HB.out | apply below_alloc | apply pw_below_drewN | apply below_drew1 | refine below_set ?_ GE428.out | refine below_set ?_ GE429.out) | exact HB.out))) | (with_reducible refine Kd.C_alloc ?_ _) | (with_reducible refine Kd.C_drewN ?_ _) | (with_reducible refine Kd.C_drew ?_))); (case side4 => exact HC1_2.out); rintro e w' ⟨rfl, ⟨nd, rfl⟩⟩; (try first | exact ⟨rfl, _, World.drewN_drewN _ _ _⟩ | exact ⟨rfl, _, Eq.trans (World.drewN_drewN _ _ _) (congrArg (World.drewN _) (Nat.add_assoc _ _ _))⟩))))
          go_meet
          case rel => exact ⟨_, (true), (by first | rfl | (simp; done) | (simp [*]; done)), H', ⟨by first | omega | exact Nat.le_refl _⟩, ⟨by (with_reducible repeat (first | refine blk_drewN ?_ _ | refine blk_drew ?_ | refine blk_alloc ?_ _)); exact BK428.out⟩, ⟨by (with_reducible repeat (first | refine blk_drewN ?_ _ | refine blk_drew ?_ | refine blk_alloc ?_ _)); exact BK429.out⟩, ⟨by repeat (first | (with_reducible first | exact HB.out | apply below_alloc | apply pw_below_drewN | apply below_drew1 | refine below_set ?_ GE428.out | refine below_set ?_ GE429.out) | exact HB.out)⟩⟩
      · replace c8 := Bool.eq_false_iff.mpr c8
        subst c8
        have H1 : (laws_lpaDisk.j0 k true a0_0 l0_1 l0_2 l0_3 l0_4 a1_0 l1_1 l1_2 l1_3 l1_4) = some r := by rw [if_neg (show ¬ (false = true) by decide)] at H; exact H
        clear H
        have H := H1
        clear H1
        have H' := Aside0.mk H
        clear H
        have hnb21 := NB428_429.out
        have hnc21 := NB429_428.out
        have hcz22_0 : w5.cell? ⟨gb428, 0, none⟩ = some (.int .i64 a0_0) := (blk_cell BK428.out 0).trans rfl
        have hcz22_1 : w5.cell? ⟨gb428, 1, none⟩ = some (.slice A0_1 l0_1.length c0_1) := (blk_cell BK428.out 1).trans rfl
        have hcz22_2 : w5.cell? ⟨gb428, 2, none⟩ = some (.slice A0_2 l0_2.length c0_2) := (blk_cell BK428.out 2).trans rfl
        have hcz22_3 : w5.cell? ⟨gb428, 3, none⟩ = some (.slice A0_3 l0_3.length c0_3) := (blk_cell BK428.out 3).trans rfl
        have hcz22_4 : w5.cell? ⟨gb428, 4, none⟩ = some (.slice A0_4 l0_4.length c0_4) := (blk_cell BK428.out 4).trans rfl
        have hfz22_0 := blk_frozen BK428.out 0
        have hfz22_1 := blk_frozen BK428.out 1
        have hfz22_2 := blk_frozen BK428.out 2
        have hfz22_3 := blk_frozen BK428.out 3
        have hfz22_4 := blk_frozen BK428.out 4
        have hcz23_0 : w5.cell? ⟨gb429, 0, none⟩ = some (.int .i64 a1_0) := (blk_cell BK429.out 0).trans rfl
        have hcz23_1 : w5.cell? ⟨gb429, 1, none⟩ = some (.slice A1_1 l1_1.length c1_1) := (blk_cell BK429.out 1).trans rfl
        have hcz23_2 : w5.cell? ⟨gb429, 2, none⟩ = some (.slice A1_2 l1_2.length c1_2) := (blk_cell BK429.out 2).trans rfl
        have hcz23_3 : w5.cell? ⟨gb429, 3, none⟩ = some (.slice A1_3 l1_3.length c1_3) := (blk_cell BK429.out 3).trans rfl
        have hcz23_4 : w5.cell? ⟨gb429, 4, none⟩ = some (.slice A1_4 l1_4.length c1_4) := (blk_cell BK429.out 4).trans rfl
        have hfz23_0 := blk_frozen BK429.out 0
        have hfz23_1 := blk_frozen BK429.out 1
        have hfz23_2 := blk_frozen BK429.out 2
        have hfz23_3 := blk_frozen BK429.out 3
        have hfz23_4 := blk_frozen BK429.out 4
        go_wp2_with (first | (go_at_call 40; (with_reducible refine (laws_lpaTexts.calls k _ _ l0_1 _ _ l1_1 false _ ?side1 ?side2 ?side3 ?side4 A7.out).mono ?_); (case side1 => repeat (first | exact (Kd.C_below HR0_1.out HB.out) | (with_reducible refine Kd.C_alloc ?_ _) | (with_reducible refine Kd.C_drewN ?_ _) | (with_reducible refine Kd.C_drew ?_))); (case side2 => exact HC0_1.out); (case side3 => repeat (first | exact (Kd.C_below HR1_1.out HB.out) | (with_reducible refine Kd.C_alloc ?_ _) | (with_reducible refine Kd.C_drewN ?_ _) | (with_reducible refine Kd.C_drew ?_))); (case side4 => exact HC1_1.out); rintro e w' ⟨rfl, ⟨nd, rfl⟩⟩; (try first | exact ⟨rfl, _, World.drewN_drewN _ _ _⟩ | exact ⟨rfl, _, Eq.trans (World.drewN_drewN _ _ _) (congrArg (World.drewN _) (Nat.add_assoc _ _ _))⟩)))
        repeat (go_quiet (first | (go_at_call 40; (with_reducible refine (laws_lpaTexts.calls k _ _ l0_1 _ _ l1_1 false _ ?side1 ?side2 ?side3 ?side4 A7.out).mono ?_); (case side1 => repeat (first | exact (Kd.C_below HR0_1.out HB.out) | (with_reducible refine Kd.C_alloc ?_ _) | (with_reducible refine Kd.C_drewN ?_ _) | (with_reducible refine Kd.C_drew ?_))); (case side2 => exact HC0_1.out); (case side3 => repeat (first | exact (Kd.C_below HR1_1.out HB.out) | (with_reducible refine Kd.C_alloc ?_ _) | (with_reducible refine Kd.C_drewN ?_ _) | (with_reducible refine Kd.C_drew ?_))); (case side4 => exact HC1_1.out); rintro e w' ⟨rfl, ⟨nd, rfl⟩⟩; (try first | exact ⟨rfl, _, World.drewN_drewN _ _ _⟩ | exact ⟨rfl, _, Eq.trans (World.drewN_drewN _ _ _) (congrArg (World.drewN _) (Nat.add_assoc _ _ _))⟩))); try go_wp2_with (first | (go_at_call 40; (with_reducible refine (laws_lpaTexts.calls k _ _ l0_1 _ _ l1_1 false _ ?side1 ?side2 ?side3 ?side4 A7.out).mono ?_); (case side1 => repeat (first | exact (Kd.C_below HR0_1.out HB.out) | (with_reducible refine Kd.C_alloc ?_ _) | (with_reducible refine Kd.C_drewN ?_ _) | (with_reducible refine Kd.C_drew ?_))); (case side2 => exact HC0_1.out); (case side3 => repeat (first | exact (Kd.C_below HR1_1.out HB.out) | (with_reducible refine Kd.C_alloc ?_ _) | (with_reducible refine Kd.C_drewN ?_ _) | (with_reducible refine Kd.C_drew ?_))); (case side4 => exact HC1_1.out); rintro e w' ⟨rfl, ⟨nd, rfl⟩⟩; (try first | exact ⟨rfl, _, World.drewN_drewN _ _ _⟩ | exact ⟨rfl, _, Eq.trans (World.drewN_drewN _ _ _) (congrArg (World.drewN _) (Nat.add_assoc _ _ _))⟩))))
        go_meet
        case rel => exact ⟨_, (true), (by first | rfl | (simp; done) | (simp [*]; done)), H', ⟨by first | omega | exact Nat.le_refl _⟩, ⟨by (with_reducible repeat (first | refine blk_drewN ?_ _ | refine blk_drew ?_ | refine blk_alloc ?_ _)); exact BK428.out⟩, ⟨by (with_reducible repeat (first | refine blk_drewN ?_ _ | refine blk_drew ?_ | refine blk_alloc ?_ _)); exact BK429.out⟩, ⟨by repeat (first | (with_reducible first | exact HB.out | apply below_alloc | apply pw_below_drewN | apply below_drew1 | refine below_set ?_ GE428.out | refine below_set ?_ GE429.out) | exact HB.out)⟩⟩
    · rw [if_neg c6] at H
      have c6b0 : (a0_0 == a1_0) = false := beq_eq_false_iff_ne.mpr c6
      have c6b1 : (a0_0 != a1_0) = true := bne_iff_ne.mpr c6
      (first | rw [c6b0] | (simp only [i64_w, i32_w]; rw [c6b0]) | skip)
      have H' := Aside0.mk H
      clear H
      have hnb24 := NB428_429.out
      have hnc24 := NB429_428.out
      have hcz25_0 : w5.cell? ⟨gb428, 0, none⟩ = some (.int .i64 a0_0) := (blk_cell BK428.out 0).trans rfl
      have hcz25_1 : w5.cell? ⟨gb428, 1, none⟩ = some (.slice A0_1 l0_1.length c0_1) := (blk_cell BK428.out 1).trans rfl
      have hcz25_2 : w5.cell? ⟨gb428, 2, none⟩ = some (.slice A0_2 l0_2.length c0_2) := (blk_cell BK428.out 2).trans rfl
      have hcz25_3 : w5.cell? ⟨gb428, 3, none⟩ = some (.slice A0_3 l0_3.length c0_3) := (blk_cell BK428.out 3).trans rfl
      have hcz25_4 : w5.cell? ⟨gb428, 4, none⟩ = some (.slice A0_4 l0_4.length c0_4) := (blk_cell BK428.out 4).trans rfl
      have hfz25_0 := blk_frozen BK428.out 0
      have hfz25_1 := blk_frozen BK428.out 1
      have hfz25_2 := blk_frozen BK428.out 2
      have hfz25_3 := blk_frozen BK428.out 3
      have hfz25_4 := blk_frozen BK428.out 4
      have hcz26_0 : w5.cell? ⟨gb429, 0, none⟩ = some (.int .i64 a1_0) := (blk_cell BK429.out 0).trans rfl
      have hcz26_1 : w5.cell? ⟨gb429, 1, none⟩ = some (.slice A1_1 l1_1.length c1_1) := (blk_cell BK429.out 1).trans rfl
      have hcz26_2 : w5.cell? ⟨gb429, 2, none⟩ = some (.slice A1_2 l1_2.length c1_2) := (blk_cell BK429.out 2).trans rfl
      have hcz26_3 : w5.cell? ⟨gb429, 3, none⟩ = some (.slice A1_3 l1_3.length c1_3) := (blk_cell BK429.out 3).trans rfl
      have hcz26_4 : w5.cell? ⟨gb429, 4, none⟩ = some (.slice A1_4 l1_4.length c1_4) := (blk_cell BK429.out 4).trans rfl
      have hfz26_0 := blk_frozen BK429.out 0
      have hfz26_1 := blk_frozen BK429.out 1
      have hfz26_2 := blk_frozen BK429.out 2
      have hfz26_3 := blk_frozen BK429.out 3
      have hfz26_4 := blk_frozen BK429.out 4
      go_wp2
      repeat (go_quiet (fail); try go_wp2)
      go_meet
      case rel => exact ⟨_, (true), (by first | rfl | (simp; done) | (simp [*]; done)), H', ⟨by first | omega | exact Nat.le_refl _⟩, ⟨by (with_reducible repeat (first | refine blk_drewN ?_ _ | refine blk_drew ?_ | refine blk_alloc ?_ _)); exact BK428.out⟩, ⟨by (with_reducible repeat (first | refine blk_drewN ?_ _ | refine blk_drew ?_ | refine blk_alloc ?_ _)); exact BK429.out⟩, ⟨by repeat (first | (with_reducible first | exact HB.out | apply below_alloc | apply pw_below_drewN | apply below_drew1 | refine below_set ?_ GE428.out | refine below_set ?_ GE429.out) | exact HB.out)⟩⟩
  case rest =>
    clear HC3
    try clear c1
    try clear c2
    try clear p2
    try clear c6
    try clear c6b0
    try clear c6b1
    try clear c8
    try clear c10
    try clear c11
    try clear c11b0
    try clear c11b1
    try clear c11b2
    try clear c12
    try clear c15
    try clear c18
    try clear c21
    try clear c24
    try clear hcz13_0
    try clear hcz13_1
    try clear hcz13_2
    try clear hcz13_3
    try clear hcz13_4
    try clear hcz14_0
    try clear hcz14_1
    try clear hcz14_2
    try clear hcz14_3
    try clear hcz14_4
    try clear hcz16_0
    try clear hcz16_1
    try clear hcz16_2
    try clear hcz16_3
    try clear hcz16_4
    try clear hcz17_0
    try clear hcz17_1
    try clear hcz17_2
    try clear hcz17_3
    try clear hcz17_4
    try clear hcz19_0
    try clear hcz19_1
    try clear hcz19_2
    try clear hcz19_3
    try clear hcz19_4
    try clear hcz20_0
    try clear hcz20_1
    try clear hcz20_2
    try clear hcz20_3
    try clear hcz20_4
    try clear hcz22_0
    try clear hcz22_1
    try clear hcz22_2
    try clear hcz22_3
    try clear hcz22_4
    try clear hcz23_0
    try clear hcz23_1
    try clear hcz23_2
    try clear hcz23_3
    try clear hcz23_4
    try clear hcz25_0
    try clear hcz25_1
    try clear hcz25_2
    try clear hcz25_3
    try clear hcz25_4
    try clear hcz26_0
    try clear hcz26_1
    try clear hcz26_2
    try clear hcz26_3
    try clear hcz26_4
    try clear hfz13_0
    try clear hfz13_1
    try clear hfz13_2
    try clear hfz13_3
    try clear hfz13_4
    try clear hfz14_0
    try clear hfz14_1
    try clear hfz14_2
    try clear hfz14_3
    try clear hfz14_4
    try clear hfz16_0
    try clear hfz16_1
    try clear hfz16_2
    try clear hfz16_3
    try clear hfz16_4
    try clear hfz17_0
    try clear hfz17_1
    try clear hfz17_2
    try clear hfz17_3
    try clear hfz17_4
    try clear hfz19_0
    try clear hfz19_1
    try clear hfz19_2
    try clear hfz19_3
    try clear hfz19_4
    try clear hfz20_0
    try clear hfz20_1
    try clear hfz20_2
    try clear hfz20_3
    try clear hfz20_4
    try clear hfz22_0
    try clear hfz22_1
    try clear hfz22_2
    try clear hfz22_3
    try clear hfz22_4
    try clear hfz23_0
    try clear hfz23_1
    try clear hfz23_2
    try clear hfz23_3
    try clear hfz23_4
    try clear hfz25_0
    try clear hfz25_1
    try clear hfz25_2
    try clear hfz25_3
    try clear hfz25_4
    try clear hfz26_0
    try clear hfz26_1
    try clear hfz26_2
    try clear hfz26_3
    try clear hfz26_4
    obtain ⟨kq, x45_2, rfl, HA, HJ2, BK428, BK429, HB⟩ := hcut
    cases kq with
    | zero => exact absurd HA.out (by simp [laws_lpaDisk.j0])
    | succ kj2 =>
      have H := HA.out
      clear HA
      simp only [laws_lpaDisk.j0] at H
      by_cases c27 : x45_2 = true
      · subst c27
        have H1 : (some false) = some r := by rw [if_pos rfl] at H; exact H
        clear H
        have H := H1
        clear H1
        obtain rfl := Option.some.inj H
        go_wp2
        repeat (go_quiet (fail); try go_wp2)
        go_ret
        exact ⟨by first | rfl | (simp [errW_none, errW_some] <;> rfl) | (simp [*, errW_none, errW_some] <;> rfl), by repeat (first | (with_reducible first | exact HB.out | apply below_alloc | apply pw_below_drewN | apply below_drew1 | refine below_set ?_ GE428.out | refine below_set ?_ GE429.out) | exact HB.out)⟩
      · replace c27 := Bool.eq_false_iff.mpr c27
        subst c27
        have H1 : (laws_lpaDisk.l0 kj2 0 a0_0 l0_1 l0_2 l0_3 l0_4 a1_0 l1_1 l1_2 l1_3 l1_4) = some r := by rw [if_neg (show ¬ (false = true) by decide)] at H; exact H
        clear H
        have H := H1
        clear H1
        have H' := Aside0.mk H
        clear H
        go_wp2
        repeat (go_quiet (fail); try go_wp2)
        go_loopg [5] kj2 (fun kq v5 w' => ∃ (x5_2 : Int), v5 = .int .i64 x5_2 ∧ Aside0 (laws_lpaDisk.l0 kq x5_2 a0_0 l0_1 l0_2 l0_3 l0_4 a1_0 l1_1 l1_2 l1_3 l1_4 = some r) ∧ Aside0 (kq ≤ kj2) ∧ Aside0 (w'.heap[gb428]? = some (.cells #[.int .i64 a0_0, (.slice A0_1 l0_1.length c0_1), (.slice A0_2 l0_2.length c0_2), (.slice A0_3 l0_3.length c0_3), (.slice A0_4 l0_4.length c0_4)] 28 (0, 0))) ∧ Aside0 (w'.heap[gb429]? = some (.cells #[.int .i64 a1_0, (.slice A1_1 l1_1.length c1_1), (.slice A1_2 l1_2.length c1_2), (.slice A1_3 l1_3.length c1_3), (.slice A1_4 l1_4.length c1_4)] 28 (0, 0))) ∧ Aside0 (Below w.heap.size w w'))
        case atStart => exact ⟨(0), (by first | rfl | (simp; done) | (simp [*]; done)), H', ⟨Nat.le_refl _⟩, ⟨by (with_reducible repeat (first | refine blk_drewN ?_ _ | refine blk_drew ?_ | refine blk_alloc ?_ _)); exact BK428.out⟩, ⟨by (with_reducible repeat (first | refine blk_drewN ?_ _ | refine blk_drew ?_ | refine blk_alloc ?_ _)); exact BK429.out⟩, ⟨by repeat (first | (with_reducible first | exact HB.out | apply below_alloc | apply pw_below_drewN | apply below_drew1 | refine below_set ?_ GE428.out | refine below_set ?_ GE429.out) | exact HB.out)⟩⟩
        case round =>
          clear H'
          try clear c1
          try clear c2
          try clear p2
          try clear c6
          try clear c6b0
          try clear c6b1
          try clear c8
          try clear c10
          try clear c11
          try clear c11b0
          try clear c11b1
          try clear c11b2
          try clear c12
          try clear c15
          try clear c18
          try clear c21
          try clear c24
          try clear c27
          try clear hcz13_0
          try clear hcz13_1
          try clear hcz13_2
          try clear hcz13_3
          try clear hcz13_4
          try clear hcz14_0
          try clear hcz14_1
          try clear hcz14_2
          try clear hcz14_3
          try clear hcz14_4
          try clear hcz16_0
          try clear hcz16_1
          try clear hcz16_2
          try clear hcz16_3
          try clear hcz16_4
          try clear hcz17_0
          try clear hcz17_1
          try clear hcz17_2
          try clear hcz17_3
          try clear hcz17_4
          try clear hcz19_0
          try clear hcz19_1
          try clear hcz19_2
          try clear hcz19_3
          try clear hcz19_4
          try clear hcz20_0
          try clear hcz20_1
          try clear hcz20_2
          try clear hcz20_3
          try clear hcz20_4
          try clear hcz22_0
          try clear hcz22_1
          try clear hcz22_2
          try clear hcz22_3
          try clear hcz22_4
          try clear hcz23_0
          try clear hcz23_1
          try clear hcz23_2
          try clear hcz23_3
          try clear hcz23_4
          try clear hcz25_0
          try clear hcz25_1
          try clear hcz25_2
          try clear hcz25_3
          try clear hcz25_4
          try clear hcz26_0
          try clear hcz26_1
          try clear hcz26_2
          try clear hcz26_3
          try clear hcz26_4
          try clear hfz13_0
          try clear hfz13_1
          try clear hfz13_2
          try clear hfz13_3
          try clear hfz13_4
          try clear hfz14_0
          try clear hfz14_1
          try clear hfz14_2
          try clear hfz14_3
          try clear hfz14_4
          try clear hfz16_0
          try clear hfz16_1
          try clear hfz16_2
          try clear hfz16_3
          try clear hfz16_4
          try clear hfz17_0
          try clear hfz17_1
          try clear hfz17_2
          try clear hfz17_3
          try clear hfz17_4
          try clear hfz19_0
          try clear hfz19_1
          try clear hfz19_2
          try clear hfz19_3
          try clear hfz19_4
          try clear hfz20_0
          try clear hfz20_1
          try clear hfz20_2
          try clear hfz20_3
          try clear hfz20_4
          try clear hfz22_0
          try clear hfz22_1
          try clear hfz22_2
          try clear hfz22_3
          try clear hfz22_4
          try clear hfz23_0
          try clear hfz23_1
          try clear hfz23_2
          try clear hfz23_3
          try clear hfz23_4
          try clear hfz25_0
          try clear hfz25_1
          try clear hfz25_2
          try clear hfz25_3
          try clear hfz25_4
          try clear hfz26_0
          try clear hfz26_1
          try clear hfz26_2
          try clear hfz26_3
          try clear hfz26_4
          try clear p2
          obtain ⟨x5_2, rfl, HA, HK2, BK428, BK429, HB⟩ := hrel
          cases gk with
          | zero => exact absurd HA.out (by simp [laws_lpaDisk.l0])
          | succ k2 =>
            have H := HA.out
            clear HA
            simp only [laws_lpaDisk.l0] at H
            by_cases c28 : x5_2 < (l0_3.length : Int)
            · rw [if_pos c28] at H
              have c28b0 : decide (x5_2 < (l0_3.length : Int)) = true := decide_eq_true c28
              clear c28
              by_cases c29 : 0 ≤ x5_2
              · rw [if_pos c29] at H
                have c29b0 : decide (0 ≤ x5_2) = true := decide_eq_true c29
                clear c29
                by_cases c30 : x5_2 < (l1_3.length : Int)
                · rw [if_pos c30] at H
                  have c30b0 : decide (x5_2 < (l1_3.length : Int)) = true := decide_eq_true c30
                  clear c30
                  by_cases c31 : ((rdOf false l0_3 x5_2) != (rdOf false l1_3 x5_2)) = true
                  · rw [if_pos c31] at H
                    have c31b0 : ((rdOf false l0_3 x5_2) != (rdOf false l1_3 x5_2)) = true := c31
                    (try (have c31b1 : decide ((rdOf false l0_3 x5_2) = (rdOf false l1_3 x5_2)) = false := by simpa using c31))
                    (try (have c31b2 : ((rdOf false l0_3 x5_2) == (rdOf false l1_3 x5_2)) = false := by simpa using c31))
                    (try (have c31b3 : ¬ ((rdOf false l0_3 x5_2) = (rdOf false l1_3 x5_2)) := by simpa using c31))
                    clear c31
                    obtain rfl := Option.some.inj H
                    have hnb32 := NB428_429.out
                    have hnc32 := NB429_428.out
                    have hcz33_0 : wr.cell? ⟨gb428, 0, none⟩ = some (.int .i64 a0_0) := (blk_cell BK428.out 0).trans rfl
                    have hcz33_1 : wr.cell? ⟨gb428, 1, none⟩ = some (.slice A0_1 l0_1.length c0_1) := (blk_cell BK428.out 1).trans rfl
                    have hcz33_2 : wr.cell? ⟨gb428, 2, none⟩ = some (.slice A0_2 l0_2.length c0_2) := (blk_cell BK428.out 2).trans rfl
                    have hcz33_3 : wr.cell? ⟨gb428, 3, none⟩ = some (.slice A0_3 l0_3.length c0_3) := (blk_cell BK428.out 3).trans rfl
                    have hcz33_4 : wr.cell? ⟨gb428, 4, none⟩ = some (.slice A0_4 l0_4.length c0_4) := (blk_cell BK428.out 4).trans rfl
                    have hfz33_0 := blk_frozen BK428.out 0
                    have hfz33_1 := blk_frozen BK428.out 1
                    have hfz33_2 := blk_frozen BK428.out 2
                    have hfz33_3 := blk_frozen BK428.out 3
                    have hfz33_4 := blk_frozen BK428.out 4
                    have p432 : 0 ≤ (x5_2 : Int) := of_decide_eq_true (by first | (with_reducible assumption) | assumption)
                    have q432 : x5_2 < (l0_3.length : Int) := of_decide_eq_true (by first | (with_reducible assumption) | assumption)
                    obtain ⟨ad432, e432, hx432_0⟩ := Kd.at_bool HR0_3.out x5_2 p432 q432
                    cases e432
                    replace hx432_0 := (HB.out.cell (World.block_lt_of_cell? w _ hx432_0)).trans hx432_0
                    replace p432 := eq_true p432
                    replace q432 := eq_true q432
                    have hcz34_0 : wr.cell? ⟨gb429, 0, none⟩ = some (.int .i64 a1_0) := (blk_cell BK429.out 0).trans rfl
                    have hcz34_1 : wr.cell? ⟨gb429, 1, none⟩ = some (.slice A1_1 l1_1.length c1_1) := (blk_cell BK429.out 1).trans rfl
                    have hcz34_2 : wr.cell? ⟨gb429, 2, none⟩ = some (.slice A1_2 l1_2.length c1_2) := (blk_cell BK429.out 2).trans rfl
                    have hcz34_3 : wr.cell? ⟨gb429, 3, none⟩ = some (.slice A1_3 l1_3.length c1_3) := (blk_cell BK429.out 3).trans rfl
                    have hcz34_4 : wr.cell? ⟨gb429, 4, none⟩ = some (.slice A1_4 l1_4.length c1_4) := (blk_cell BK429.out 4).trans rfl
                    have hfz34_0 := blk_frozen BK429.out 0
                    have hfz34_1 := blk_frozen BK429.out 1
                    have hfz34_2 := blk_frozen BK429.out 2
                    have hfz34_3 := blk_frozen BK429.out 3
                    have hfz34_4 := blk_frozen BK429.out 4
                    have p433 : 0 ≤ (x5_2 : Int) := of_decide_eq_true (by first | (with_reducible assumption) | assumption)
                    have q433 : x5_2 < (l1_3.length : Int) := of_decide_eq_true (by first | (with_reducible assumption) | assumption)
                    obtain ⟨ad433, e433, hx433_0⟩ := Kd.at_bool HR1_3.out x5_2 p433 q433
                    cases e433
                    replace hx433_0 := (HB.out.cell (World.block_lt_of_cell? w _ hx433_0)).trans hx433_0
                    replace p433 := eq_true p433
                    replace q433 := eq_true q433
                    go_wp2
                    repeat (go_quiet (fail); try go_wp2)
                    go_ret
                    exact ⟨by first | rfl | (simp [errW_none, errW_some] <;> rfl) | (simp [*, errW_none, errW_some] <;> rfl), by repeat (first | (with_reducible first | exact HB.out | apply below_alloc | apply pw_below_drewN | apply below_drew1 | refine below_set ?_ GE428.out | refine below_set ?_ GE429.out) | exact HB.out)⟩
                  · rw [if_neg c31] at H
                    have c31b0 : ((rdOf false l0_3 x5_2) != (rdOf false l1_3 x5_2)) = false := by simpa using c31
                    (try (have c31b1 : decide ((rdOf false l0_3 x5_2) = (rdOf false l1_3 x5_2)) = true := by simpa using c31))
                    (try (have c31b2 : ((rdOf false l0_3 x5_2) == (rdOf false l1_3 x5_2)) = true := by simpa using c31))
                    clear c31
                    have H' := Aside0.mk H
                    clear H
                    have hnb35 := NB428_429.out
                    have hnc35 := NB429_428.out
                    have hcz36_0 : wr.cell? ⟨gb428, 0, none⟩ = some (.int .i64 a0_0) := (blk_cell BK428.out 0).trans rfl
                    have hcz36_1 : wr.cell? ⟨gb428, 1, none⟩ = some (.slice A0_1 l0_1.length c0_1) := (blk_cell BK428.out 1).trans rfl
                    have hcz36_2 : wr.cell? ⟨gb428, 2, none⟩ = some (.slice A0_2 l0_2.length c0_2) := (blk_cell BK428.out 2).trans rfl
                    have hcz36_3 : wr.cell? ⟨gb428, 3, none⟩ = some (.slice A0_3 l0_3.length c0_3) := (blk_cell BK428.out 3).trans rfl
                    have hcz36_4 : wr.cell? ⟨gb428, 4, none⟩ = some (.slice A0_4 l0_4.length c0_4) := (blk_cell BK428.out 4).trans rfl
                    have hfz36_0 := blk_frozen BK428.out 0
                    have hfz36_1 := blk_frozen BK428.out 1
                    have hfz36_2 := blk_frozen BK428.out 2
                    have hfz36_3 := blk_frozen BK428.out 3
                    have hfz36_4 := blk_frozen BK428.out 4
                    have p432 : 0 ≤ (x5_2 : Int) := of_decide_eq_true (by first | (with_reducible assumption) | assumption)
                    have q432 : x5_2 < (l0_3.length : Int) := of_decide_eq_true (by first | (with_reducible assumption) | assumption)
                    obtain ⟨ad432, e432, hx432_0⟩ := Kd.at_bool HR0_3.out x5_2 p432 q432
                    cases e432
                    replace hx432_0 := (HB.out.cell (World.block_lt_of_cell? w _ hx432_0)).trans hx432_0
                    replace p432 := eq_true p432
                    replace q432 := eq_true q432
                    have hcz37_0 : wr.cell? ⟨gb429, 0, none⟩ = some (.int .i64 a1_0) := (blk_cell BK429.out 0).trans rfl
                    have hcz37_1 : wr.cell? ⟨gb429, 1, none⟩ = some (.slice A1_1 l1_1.length c1_1) := (blk_cell BK429.out 1).trans rfl
                    have hcz37_2 : wr.cell? ⟨gb429, 2, none⟩ = some (.slice A1_2 l1_2.length c1_2) := (blk_cell BK429.out 2).trans rfl
                    have hcz37_3 : wr.cell? ⟨gb429, 3, none⟩ = some (.slice A1_3 l1_3.length c1_3) := (blk_cell BK429.out 3).trans rfl
                    have hcz37_4 : wr.cell? ⟨gb429, 4, none⟩ = some (.slice A1_4 l1_4.length c1_4) := (blk_cell BK429.out 4).trans rfl
                    have hfz37_0 := blk_frozen BK429.out 0
                    have hfz37_1 := blk_frozen BK429.out 1
                    have hfz37_2 := blk_frozen BK429.out 2
                    have hfz37_3 := blk_frozen BK429.out 3
                    have hfz37_4 := blk_frozen BK429.out 4
                    have p433 : 0 ≤ (x5_2 : Int) := of_decide_eq_true (by first | (with_reducible assumption) | assumption)
                    have q433 : x5_2 < (l1_3.length : Int) := of_decide_eq_true (by first | (with_reducible assumption) | assumption)
                    obtain ⟨ad433, e433, hx433_0⟩ := Kd.at_bool HR1_3.out x5_2 p433 q433
                    cases e433
                    replace hx433_0 := (HB.out.cell (World.block_lt_of_cell? w _ hx433_0)).trans hx433_0
                    replace p433 := eq_true p433
                    replace q433 := eq_true q433
                    go_wp2
                    repeat (go_quiet (fail); try go_wp2)
                    go_roundg k2
                    case measure => have := HJ2.out; have := HK2.out; omega
                    case rel => exact ⟨(wrap64 (x5_2 + 1)), (by first | rfl | (simp; done) | (simp [*]; done)), H', ⟨by have := HJ2.out; have := HK2.out; omega⟩, ⟨by (with_reducible repeat (first | refine blk_drewN ?_ _ | refine blk_drew ?_ | refine blk_alloc ?_ _)); exact BK428.out⟩, ⟨by (with_reducible repeat (first | refine blk_drewN ?_ _ | refine blk_drew ?_ | refine blk_alloc ?_ _)); exact BK429.out⟩, ⟨by repeat (first | (with_reducible first | exact HB.out | apply below_alloc | apply pw_below_drewN | apply below_drew1 | refine below_set ?_ GE428.out | refine below_set ?_ GE429.out) | exact HB.out)⟩⟩
                · rw [if_neg c30] at H
                  exact absurd H (by simp)
              · rw [if_neg c29] at H
                exact absurd H (by simp)
            · rw [if_neg c28] at H
              have c28b0 : decide (x5_2 < (l0_3.length : Int)) = false := decide_eq_false c28
              clear c28
              have H' := Aside0.mk H
              clear H
              have hnb38 := NB428_429.out
              have hnc38 := NB429_428.out
              have hcz39_0 : wr.cell? ⟨gb428, 0, none⟩ = some (.int .i64 a0_0) := (blk_cell BK428.out 0).trans rfl
              have hcz39_1 : wr.cell? ⟨gb428, 1, none⟩ = some (.slice A0_1 l0_1.length c0_1) := (blk_cell BK428.out 1).trans rfl
              have hcz39_2 : wr.cell? ⟨gb428, 2, none⟩ = some (.slice A0_2 l0_2.length c0_2) := (blk_cell BK428.out 2).trans rfl
              have hcz39_3 : wr.cell? ⟨gb428, 3, none⟩ = some (.slice A0_3 l0_3.length c0_3) := (blk_cell BK428.out 3).trans rfl
              have hcz39_4 : wr.cell? ⟨gb428, 4, none⟩ = some (.slice A0_4 l0_4.length c0_4) := (blk_cell BK428.out 4).trans rfl
              have hfz39_0 := blk_frozen BK428.out 0
              have hfz39_1 := blk_frozen BK428.out 1
              have hfz39_2 := blk_frozen BK428.out 2
              have hfz39_3 := blk_frozen BK428.out 3
              have hfz39_4 := blk_frozen BK428.out 4
              go_wp2
              repeat (go_quiet (fail); try go_wp2)
              go_loopg [6] k2 (fun kq v6 w' => ∃ (x6_3 : Int), v6 = .int .i64 x6_3 ∧ Aside0 (laws_lpaDisk.l1 kq x6_3 a0_0 l0_1 l0_2 l0_3 l0_4 a1_0 l1_1 l1_2 l1_3 l1_4 = some r) ∧ Aside0 (kq ≤ k2) ∧ Aside0 (w'.heap[gb428]? = some (.cells #[.int .i64 a0_0, (.slice A0_1 l0_1.length c0_1), (.slice A0_2 l0_2.length c0_2), (.slice A0_3 l0_3.length c0_3), (.slice A0_4 l0_4.length c0_4)] 28 (0, 0))) ∧ Aside0 (w'.heap[gb429]? = some (.cells #[.int .i64 a1_0, (.slice A1_1 l1_1.length c1_1), (.slice A1_2 l1_2.length c1_2), (.slice A1_3 l1_3.length c1_3), (.slice A1_4 l1_4.length c1_4)] 28 (0, 0))) ∧ Aside0 (Below w.heap.size w w'))
              case atStart => exact ⟨(0), (by first | rfl | (simp; done) | (simp [*]; done)), H', ⟨Nat.le_refl _⟩, ⟨by (with_reducible repeat (first | refine blk_drewN ?_ _ | refine blk_drew ?_ | refine blk_alloc ?_ _)); exact BK428.out⟩, ⟨by (with_reducible repeat (first | refine blk_drewN ?_ _ | refine blk_drew ?_ | refine blk_alloc ?_ _)); exact BK429.out⟩, ⟨by repeat (first | (with_reducible first | exact HB.out | apply below_alloc | apply pw_below_drewN | apply below_drew1 | refine below_set ?_ GE428.out | refine below_set ?_ GE429.out) | exact HB.out)⟩⟩
              case round =>
                clear H'
                try clear c1
                try clear c2
                try clear p2
                try clear c3
                try clear p4
                try clear q4
                try clear hx4
                try clear c6
                try clear c6b0
                try clear c6b1
                try clear p6
                try clear c8
                try clear c10
                try clear c11
                try clear c11b0
                try clear c11b1
                try clear c11b2
                try clear c12
                try clear c15
                try clear c18
                try clear c21
                try clear c24
                try clear c27
                try clear c28
                try clear c28b0
                try clear c29
                try clear c29b0
                try clear c30
                try clear c30b0
                try clear c31
                try clear c31b0
                try clear c31b1
                try clear c31b2
                try clear c32
                try clear c35
                try clear c38
                try clear hcz13_0
                try clear hcz13_1
                try clear hcz13_2
                try clear hcz13_3
                try clear hcz13_4
                try clear hcz14_0
                try clear hcz14_1
                try clear hcz14_2
                try clear hcz14_3
                try clear hcz14_4
                try clear hcz16_0
                try clear hcz16_1
                try clear hcz16_2
                try clear hcz16_3
                try clear hcz16_4
                try clear hcz17_0
                try clear hcz17_1
                try clear hcz17_2
                try clear hcz17_3
                try clear hcz17_4
                try clear hcz19_0
                try clear hcz19_1
                try clear hcz19_2
                try clear hcz19_3
                try clear hcz19_4
                try clear hcz20_0
                try clear hcz20_1
                try clear hcz20_2
                try clear hcz20_3
                try clear hcz20_4
                try clear hcz22_0
                try clear hcz22_1
                try clear hcz22_2
                try clear hcz22_3
                try clear hcz22_4
                try clear hcz23_0
                try clear hcz23_1
                try clear hcz23_2
                try clear hcz23_3
                try clear hcz23_4
                try clear hcz25_0
                try clear hcz25_1
                try clear hcz25_2
                try clear hcz25_3
                try clear hcz25_4
                try clear hcz26_0
                try clear hcz26_1
                try clear hcz26_2
                try clear hcz26_3
                try clear hcz26_4
                try clear hcz33_0
                try clear hcz33_1
                try clear hcz33_2
                try clear hcz33_3
                try clear hcz33_4
                try clear hcz34_0
                try clear hcz34_1
                try clear hcz34_2
                try clear hcz34_3
                try clear hcz34_4
                try clear hcz36_0
                try clear hcz36_1
                try clear hcz36_2
                try clear hcz36_3
                try clear hcz36_4
                try clear hcz37_0
                try clear hcz37_1
                try clear hcz37_2
                try clear hcz37_3
                try clear hcz37_4
                try clear hcz39_0
                try clear hcz39_1
                try clear hcz39_2
                try clear hcz39_3
                try clear hcz39_4
                try clear hfz13_0
                try clear hfz13_1
                try clear hfz13_2
                try clear hfz13_3
                try clear hfz13_4
                try clear hfz14_0
                try clear hfz14_1
                try clear hfz14_2
                try clear hfz14_3
                try clear hfz14_4
                try clear hfz16_0
                try clear hfz16_1
                try clear hfz16_2
                try clear hfz16_3
                try clear hfz16_4
                try clear hfz17_0
                try clear hfz17_1
                try clear hfz17_2
                try clear hfz17_3
                try clear hfz17_4
                try clear hfz19_0
                try clear hfz19_1
                try clear hfz19_2
                try clear hfz19_3
                try clear hfz19_4
                try clear hfz20_0
                try clear hfz20_1
                try clear hfz20_2
                try clear hfz20_3
                try clear hfz20_4
                try clear hfz22_0
                try clear hfz22_1
                try clear hfz22_2
                try clear hfz22_3
                try clear hfz22_4
                try clear hfz23_0
                try clear hfz23_1
                try clear hfz23_2
                try clear hfz23_3
                try clear hfz23_4
                try clear hfz25_0
                try clear hfz25_1
                try clear hfz25_2
                try clear hfz25_3
                try clear hfz25_4
                try clear hfz26_0
                try clear hfz26_1
                try clear hfz26_2
                try clear hfz26_3
                try clear hfz26_4
                try clear hfz33_0
                try clear hfz33_1
                try clear hfz33_2
                try clear hfz33_3
                try clear hfz33_4
                try clear hfz34_0
                try clear hfz34_1
                try clear hfz34_2
                try clear hfz34_3
                try clear hfz34_4
                try clear hfz36_0
                try clear hfz36_1
                try clear hfz36_2
                try clear hfz36_3
                try clear hfz36_4
                try clear hfz37_0
                try clear hfz37_1
                try clear hfz37_2
                try clear hfz37_3
                try clear hfz37_4
                try clear hfz39_0
                try clear hfz39_1
                try clear hfz39_2
                try clear hfz39_3
                try clear hfz39_4
                try clear hx432_0
                try clear hx433_0
                try clear p2
                try clear p432
                try clear p433
                try clear q432
                try clear q433
                obtain ⟨x6_3, rfl, HA, HK3, BK428, BK429, HB⟩ := hrel
                cases gk with
                | zero => exact absurd HA.out (by simp [laws_lpaDisk.l1])
                | succ k3 =>
                  have H := HA.out
                  clear HA
                  simp only [laws_lpaDisk.l1] at H
                  by_cases c40 : x6_3 < (l0_4.length : Int)
                  · rw [if_pos c40] at H
                    have c40b0 : decide (x6_3 < (l0_4.length : Int)) = true := decide_eq_true c40
                    clear c40
                    by_cases c41 : 0 ≤ x6_3
                    · rw [if_pos c41] at H
                      have c41b0 : decide (0 ≤ x6_3) = true := decide_eq_true c41
                      clear c41
                      by_cases c42 : x6_3 < (l1_4.length : Int)
                      · rw [if_pos c42] at H
                        have c42b0 : decide (x6_3 < (l1_4.length : Int)) = true := decide_eq_true c42
                        clear c42
                        by_cases c43 : (!(((rd_T54 l0_4 x6_3).f0) == ((rd_T54 l1_4 x6_3).f0)) || (!(((rd_T54 l0_4 x6_3).f1) == ((rd_T54 l1_4 x6_3).f1)) || (!((((rd_T54 l0_4 x6_3).f2).toList) == (((rd_T54 l1_4 x6_3).f2).toList))))) = true
                        · rw [if_pos c43] at H
                          have c43b0 : (!(((rd_T54 l0_4 x6_3).f0) == ((rd_T54 l1_4 x6_3).f0)) || (!(((rd_T54 l0_4 x6_3).f1) == ((rd_T54 l1_4 x6_3).f1)) || (!((((rd_T54 l0_4 x6_3).f2).toList) == (((rd_T54 l1_4 x6_3).f2).toList))))) = true := c43
                          clear c43
                          obtain rfl := Option.some.inj H
                          have hnb44 := NB428_429.out
                          have hnc44 := NB429_428.out
                          have hcz45_0 : wr.cell? ⟨gb428, 0, none⟩ = some (.int .i64 a0_0) := (blk_cell BK428.out 0).trans rfl
                          have hcz45_1 : wr.cell? ⟨gb428, 1, none⟩ = some (.slice A0_1 l0_1.length c0_1) := (blk_cell BK428.out 1).trans rfl
                          have hcz45_2 : wr.cell? ⟨gb428, 2, none⟩ = some (.slice A0_2 l0_2.length c0_2) := (blk_cell BK428.out 2).trans rfl
                          have hcz45_3 : wr.cell? ⟨gb428, 3, none⟩ = some (.slice A0_3 l0_3.length c0_3) := (blk_cell BK428.out 3).trans rfl
                          have hcz45_4 : wr.cell? ⟨gb428, 4, none⟩ = some (.slice A0_4 l0_4.length c0_4) := (blk_cell BK428.out 4).trans rfl
                          have hfz45_0 := blk_frozen BK428.out 0
                          have hfz45_1 := blk_frozen BK428.out 1
                          have hfz45_2 := blk_frozen BK428.out 2
                          have hfz45_3 := blk_frozen BK428.out 3
                          have hfz45_4 := blk_frozen BK428.out 4
                          have p434 : 0 ≤ (x6_3 : Int) := of_decide_eq_true (by first | (with_reducible assumption) | assumption)
                          have q434 : x6_3 < (l0_4.length : Int) := of_decide_eq_true (by first | (with_reducible assumption) | assumption)
                          obtain ⟨ad434, e434, hx434_0, hx434_1, hx434_2⟩ := at_T54 HR0_4.out x6_3 p434 q434
                          cases e434
                          replace hx434_0 := (HB.out.cell (World.block_lt_of_cell? w _ hx434_0)).trans hx434_0
                          replace hx434_1 := (HB.out.cell (World.block_lt_of_cell? w _ hx434_1)).trans hx434_1
                          replace hx434_2 := (HB.out.cell (World.block_lt_of_cell? w _ hx434_2)).trans hx434_2
                          replace p434 := eq_true p434
                          replace q434 := eq_true q434
                          have hcz46_0 : wr.cell? ⟨gb429, 0, none⟩ = some (.int .i64 a1_0) := (blk_cell BK429.out 0).trans rfl
                          have hcz46_1 : wr.cell? ⟨gb429, 1, none⟩ = some (.slice A1_1 l1_1.length c1_1) := (blk_cell BK429.out 1).trans rfl
                          have hcz46_2 : wr.cell? ⟨gb429, 2, none⟩ = some (.slice A1_2 l1_2.length c1_2) := (blk_cell BK429.out 2).trans rfl
                          have hcz46_3 : wr.cell? ⟨gb429, 3, none⟩ = some (.slice A1_3 l1_3.length c1_3) := (blk_cell BK429.out 3).trans rfl
                          have hcz46_4 : wr.cell? ⟨gb429, 4, none⟩ = some (.slice A1_4 l1_4.length c1_4) := (blk_cell BK429.out 4).trans rfl
                          have hfz46_0 := blk_frozen BK429.out 0
                          have hfz46_1 := blk_frozen BK429.out 1
                          have hfz46_2 := blk_frozen BK429.out 2
                          have hfz46_3 := blk_frozen BK429.out 3
                          have hfz46_4 := blk_frozen BK429.out 4
                          have p435 : 0 ≤ (x6_3 : Int) := of_decide_eq_true (by first | (with_reducible assumption) | assumption)
                          have q435 : x6_3 < (l1_4.length : Int) := of_decide_eq_true (by first | (with_reducible assumption) | assumption)
                          obtain ⟨ad435, e435, hx435_0, hx435_1, hx435_2⟩ := at_T54 HR1_4.out x6_3 p435 q435
                          cases e435
                          replace hx435_0 := (HB.out.cell (World.block_lt_of_cell? w _ hx435_0)).trans hx435_0
                          replace hx435_1 := (HB.out.cell (World.block_lt_of_cell? w _ hx435_1)).trans hx435_1
                          replace hx435_2 := (HB.out.cell (World.block_lt_of_cell? w _ hx435_2)).trans hx435_2
                          replace p435 := eq_true p435
                          replace q435 := eq_true q435
                          go_wp2
                          repeat (go_quiet (fail); try go_wp2)
                          go_ret
                          exact ⟨by first | rfl | (simp [errW_none, errW_some] <;> rfl) | (simp [*, errW_none, errW_some] <;> rfl), by repeat (first | (with_reducible first | exact HB.out | apply below_alloc | apply pw_below_drewN | apply below_drew1 | refine below_set ?_ GE428.out | refine below_set ?_ GE429.out) | exact HB.out)⟩
                        · rw [if_neg c43] at H
                          have c43b0 : (!(((rd_T54 l0_4 x6_3).f0) == ((rd_T54 l1_4 x6_3).f0)) || (!(((rd_T54 l0_4 x6_3).f1) == ((rd_T54 l1_4 x6_3).f1)) || (!((((rd_T54 l0_4 x6_3).f2).toList) == (((rd_T54 l1_4 x6_3).f2).toList))))) = false := by simpa using c43
                          clear c43
                          have H' := Aside0.mk H
                          clear H
                          have hnb47 := NB428_429.out
                          have hnc47 := NB429_428.out
                          have hcz48_0 : wr.cell? ⟨gb428, 0, none⟩ = some (.int .i64 a0_0) := (blk_cell BK428.out 0).trans rfl
                          have hcz48_1 : wr.cell? ⟨gb428, 1, none⟩ = some (.slice A0_1 l0_1.length c0_1) := (blk_cell BK428.out 1).trans rfl
                          have hcz48_2 : wr.cell? ⟨gb428, 2, none⟩ = some (.slice A0_2 l0_2.length c0_2) := (blk_cell BK428.out 2).trans rfl
                          have hcz48_3 : wr.cell? ⟨gb428, 3, none⟩ = some (.slice A0_3 l0_3.length c0_3) := (blk_cell BK428.out 3).trans rfl
                          have hcz48_4 : wr.cell? ⟨gb428, 4, none⟩ = some (.slice A0_4 l0_4.length c0_4) := (blk_cell BK428.out 4).trans rfl
                          have hfz48_0 := blk_frozen BK428.out 0
                          have hfz48_1 := blk_frozen BK428.out 1
                          have hfz48_2 := blk_frozen BK428.out 2
                          have hfz48_3 := blk_frozen BK428.out 3
                          have hfz48_4 := blk_frozen BK428.out 4
                          have p434 : 0 ≤ (x6_3 : Int) := of_decide_eq_true (by first | (with_reducible assumption) | assumption)
                          have q434 : x6_3 < (l0_4.length : Int) := of_decide_eq_true (by first | (with_reducible assumption) | assumption)
                          obtain ⟨ad434, e434, hx434_0, hx434_1, hx434_2⟩ := at_T54 HR0_4.out x6_3 p434 q434
                          cases e434
                          replace hx434_0 := (HB.out.cell (World.block_lt_of_cell? w _ hx434_0)).trans hx434_0
                          replace hx434_1 := (HB.out.cell (World.block_lt_of_cell? w _ hx434_1)).trans hx434_1
                          replace hx434_2 := (HB.out.cell (World.block_lt_of_cell? w _ hx434_2)).trans hx434_2
                          replace p434 := eq_true p434
                          replace q434 := eq_true q434
                          have hcz49_0 : wr.cell? ⟨gb429, 0, none⟩ = some (.int .i64 a1_0) := (blk_cell BK429.out 0).trans rfl
                          have hcz49_1 : wr.cell? ⟨gb429, 1, none⟩ = some (.slice A1_1 l1_1.length c1_1) := (blk_cell BK429.out 1).trans rfl
                          have hcz49_2 : wr.cell? ⟨gb429, 2, none⟩ = some (.slice A1_2 l1_2.length c1_2) := (blk_cell BK429.out 2).trans rfl
                          have hcz49_3 : wr.cell? ⟨gb429, 3, none⟩ = some (.slice A1_3 l1_3.length c1_3) := (blk_cell BK429.out 3).trans rfl
                          have hcz49_4 : wr.cell? ⟨gb429, 4, none⟩ = some (.slice A1_4 l1_4.length c1_4) := (blk_cell BK429.out 4).trans rfl
                          have hfz49_0 := blk_frozen BK429.out 0
                          have hfz49_1 := blk_frozen BK429.out 1
                          have hfz49_2 := blk_frozen BK429.out 2
                          have hfz49_3 := blk_frozen BK429.out 3
                          have hfz49_4 := blk_frozen BK429.out 4
                          have p435 : 0 ≤ (x6_3 : Int) := of_decide_eq_true (by first | (with_reducible assumption) | assumption)
                          have q435 : x6_3 < (l1_4.length : Int) := of_decide_eq_true (by first | (with_reducible assumption) | assumption)
                          obtain ⟨ad435, e435, hx435_0, hx435_1, hx435_2⟩ := at_T54 HR1_4.out x6_3 p435 q435
                          cases e435
                          replace hx435_0 := (HB.out.cell (World.block_lt_of_cell? w _ hx435_0)).trans hx435_0
                          replace hx435_1 := (HB.out.cell (World.block_lt_of_cell? w _ hx435_1)).trans hx435_1
                          replace hx435_2 := (HB.out.cell (World.block_lt_of_cell? w _ hx435_2)).trans hx435_2
                          replace p435 := eq_true p435
                          replace q435 := eq_true q435
                          go_wp2
                          repeat (go_quiet (fail); try go_wp2)
                          go_roundg k3
                          case measure => have := HJ2.out; have := HK2.out; have := HK3.out; omega
                          case rel => exact ⟨(wrap64 (x6_3 + 1)), (by first | rfl | (simp; done) | (simp [*]; done)), H', ⟨by have := HJ2.out; have := HK2.out; have := HK3.out; omega⟩, ⟨by (with_reducible repeat (first | refine blk_drewN ?_ _ | refine blk_drew ?_ | refine blk_alloc ?_ _)); exact BK428.out⟩, ⟨by (with_reducible repeat (first | refine blk_drewN ?_ _ | refine blk_drew ?_ | refine blk_alloc ?_ _)); exact BK429.out⟩, ⟨by repeat (first | (with_reducible first | exact HB.out | apply below_alloc | apply pw_below_drewN | apply below_drew1 | refine below_set ?_ GE428.out | refine below_set ?_ GE429.out) | exact HB.out)⟩⟩
                      · rw [if_neg c42] at H
                        exact absurd H (by simp)
                    · rw [if_neg c41] at H
                      exact absurd H (by simp)
                  · rw [if_neg c40] at H
                    have c40b0 : decide (x6_3 < (l0_4.length : Int)) = false := decide_eq_false c40
                    clear c40
                    obtain rfl := Option.some.inj H
                    have hnb50 := NB428_429.out
                    have hnc50 := NB429_428.out
                    have hcz51_0 : wr.cell? ⟨gb428, 0, none⟩ = some (.int .i64 a0_0) := (blk_cell BK428.out 0).trans rfl
                    have hcz51_1 : wr.cell? ⟨gb428, 1, none⟩ = some (.slice A0_1 l0_1.length c0_1) := (blk_cell BK428.out 1).trans rfl
                    have hcz51_2 : wr.cell? ⟨gb428, 2, none⟩ = some (.slice A0_2 l0_2.length c0_2) := (blk_cell BK428.out 2).trans rfl
                    have hcz51_3 : wr.cell? ⟨gb428, 3, none⟩ = some (.slice A0_3 l0_3.length c0_3) := (blk_cell BK428.out 3).trans rfl
                    have hcz51_4 : wr.cell? ⟨gb428, 4, none⟩ = some (.slice A0_4 l0_4.length c0_4) := (blk_cell BK428.out 4).trans rfl
                    have hfz51_0 := blk_frozen BK428.out 0
                    have hfz51_1 := blk_frozen BK428.out 1
                    have hfz51_2 := blk_frozen BK428.out 2
                    have hfz51_3 := blk_frozen BK428.out 3
                    have hfz51_4 := blk_frozen BK428.out 4
                    go_wp2
                    repeat (go_quiet (fail); try go_wp2)
                    go_ret
                    exact ⟨by first | rfl | (simp [errW_none, errW_some] <;> rfl) | (simp [*, errW_none, errW_some] <;> rfl), by repeat (first | (with_reducible first | exact HB.out | apply below_alloc | apply pw_below_drewN | apply below_drew1 | refine below_set ?_ GE428.out | refine below_set ?_ GE429.out) | exact HB.out)⟩
end Go.Proofs.Ytkgpnloghmbmlaa.Print
namespace Go.Proofs.Ytkgpnloghmbmlaa.Print
open Go.RowKit Go.Proofs.YtkgpnloghmbmlaaW.PrintWords Go.Proofs.YtkgpnloghmbmlaaW.PrintLast Go.Proofs.YtkgpnloghmbmlaaW.PrintMore
attribute [local go_sem] max2_int min2_int max_two min_two max_three min_three max_four min_four   -- for this text's walks alone
set_option linter.unusedVariables false
set_option linter.unusedSimpArgs false
end Go.Proofs.Ytkgpnloghmbmlaa.Print
namespace Go.Proofs.Ytkgpnloghmbmlaa.Print
open Go.RowKit Go.Proofs.YtkgpnloghmbmlaaW.PrintWords Go.Proofs.YtkgpnloghmbmlaaW.PrintLast Go.Proofs.YtkgpnloghmbmlaaW.PrintMore
attribute [local go_sem] max2_int min2_int max_two min_two max_three min_three max_four min_four   -- for this text's walks alone
set_option linter.unusedVariables false
set_option linter.unusedSimpArgs false
def impl_isColumn.f (a0 : ByteArray) : Option (Bool) := some ((a0.size : Int) == 3)
set_option maxHeartbeats 8000000 in
set_option maxRecDepth 100000 in
theorem impl_isColumn.calls (a0 : ByteArray) (r : Bool) (w : World) (h : impl_isColumn.f a0 = some r) :
    Calls Try.prog 94 #[.string a0] w fun e w' => e = .returned (.bool r) ∧ Drawn0 w w' := by
  have H : (some ((a0.size : Int) == 3)) = some r := h
  clear h
  obtain rfl := Option.some.inj H
  go_enter Try.func94, Try.ntmps94
  go_wp2
  go_ret
  exact ⟨by first | rfl | (simp; done) | (simp [*]; done), by repeat (first | exact Drawn0.refl _ | apply Drawn0.step)⟩
end Go.Proofs.Ytkgpnloghmbmlaa.Print
namespace Go.Proofs.Ytkgpnloghmbmlaa.Print
open Go.RowKit Go.Proofs.YtkgpnloghmbmlaaW.PrintWords Go.Proofs.YtkgpnloghmbmlaaW.PrintLast Go.Proofs.YtkgpnloghmbmlaaW.PrintMore
attribute [local go_sem] max2_int min2_int max_two min_two max_three min_three max_four min_four   -- for this text's walks alone
set_option linter.unusedVariables false
set_option linter.unusedSimpArgs false
def impl_putOk.f (a0_0 : Bool) (a0_1 : Int) (a0_2 : ByteArray) : Option (Bool) := if a0_0 = true then (if a0_1 ≥ 0 then (if a0_1 < 2 then (some (decide ((a0_2.size : Int) ≤ 700))) else (some false)) else (some false)) else (if a0_1 ≥ 0 then (if a0_1 < 12 then ((impl_isColumn.f a0_2).bind fun t174 => (some t174)) else (some false)) else (some false))
set_option maxHeartbeats 8000000 in
set_option maxRecDepth 100000 in
theorem impl_putOk.calls (a0_0 : Bool) (a0_1 : Int) (a0_2 : ByteArray) (r : Bool) (w : World) (h : impl_putOk.f a0_0 a0_1 a0_2 = some r) :
    Calls Try.prog 83 #[.agg #[.bool a0_0, .int .i64 a0_1, .string a0_2]] w fun e w' => e = .returned (.bool r) ∧ Below w.heap.size w w' := by
  have hu54 := Try.underlying54
  have HB := Aside0.mk (Below.refl w.heap.size w)
  have H : (if a0_0 = true then (if a0_1 ≥ 0 then (if a0_1 < 2 then (some (decide ((a0_2.size : Int) ≤ 700))) else (some false)) else (some false)) else (if a0_1 ≥ 0 then (if a0_1 < 12 then ((impl_isColumn.f a0_2).bind fun t174 => (some t174)) else (some false)) else (some false))) = some r := h
  clear h
  by_cases c2 : a0_0 = true
  · subst c2
    have H1 : (if a0_1 ≥ 0 then (if a0_1 < 2 then (some (decide ((a0_2.size : Int) ≤ 700))) else (some false)) else (some false)) = some r := by rw [if_pos rfl] at H; exact H
    clear H
    have H := H1
    clear H1
    by_cases c3 : a0_1 ≥ 0
    · rw [if_pos c3] at H
      have c3b0 : decide (0 ≤ a0_1) = true := decide_eq_true c3
      clear c3
      by_cases c4 : a0_1 < 2
      · rw [if_pos c4] at H
        have c4b0 : decide (a0_1 < 2) = true := decide_eq_true c4
        clear c4
        obtain rfl := Option.some.inj H
        go_enter Try.func83, Try.ntmps83
        go_wp2_with (first | ((with_reducible refine gate_dst (N := 1) rfl ?_); (try (refine gate_guard (by rfl) ?_; dsimp only)); refine box_event ?hg (N := 1) ?hd (cs := #[.bool true, .int .i64 a0_1, .string a0_2]) (t := 54) ?hr ?_; (case hd => rfl); (case hg => rfl); (case hr => first | (go_simp; done) | (go_simp; rfl)); intro gb173 hg w5 hbox hb; have n0_ := Aside0.mk (below_step (by repeat (first | (with_reducible first | exact HB.out | apply below_alloc | apply pw_below_drewN | apply below_drew1) | exact HB.out)) hb); have n1_ := Aside0.mk (hbox); have n2_ := Aside0.mk ((by rw [hg]; exact (below_size (by repeat (first | (with_reducible first | exact HB.out | apply below_alloc | apply pw_below_drewN | apply below_drew1) | exact HB.out))) : w.heap.size ≤ gb173)); have n3_ := Aside0.mk ((by rw [hg]; exact (below_size (by repeat (first | (with_reducible first | exact HB.out | apply below_alloc | apply pw_below_drewN | apply below_drew1) | exact HB.out))) : w.heap.size ≤ gb173)); clear HB; have HB := n0_; have BK173 := n1_; have GW173 := n2_; have GE173 := n3_; clear n0_ n1_ n2_ n3_; clear hb hbox hg; have hcz6_0 : w5.cell? ⟨gb173, 0, none⟩ = some (.bool true) := (blk_cell BK173.out 0).trans rfl; have hcz6_1 : w5.cell? ⟨gb173, 1, none⟩ = some (.int .i64 a0_1) := (blk_cell BK173.out 1).trans rfl; have hcz6_2 : w5.cell? ⟨gb173, 2, none⟩ = some (.string a0_2) := (blk_cell BK173.out 2).trans rfl; have hfz6_0 := blk_frozen BK173.out 0; have hfz6_1 := blk_frozen BK173.out 1; have hfz6_2 := blk_frozen BK173.out 2))
        go_ret
        exact ⟨by first | rfl | (simp [errW_none, errW_some] <;> rfl) | (simp [*, errW_none, errW_some] <;> rfl), by repeat (first | (with_reducible first | exact HB.out | apply below_alloc | apply pw_below_drewN | apply below_drew1 | refine below_set ?_ GE173.out) | exact HB.out)⟩
      · rw [if_neg c4] at H
        have c4b0 : decide (a0_1 < 2) = false := decide_eq_false c4
        clear c4
        obtain rfl := Option.some.inj H
        go_enter Try.func83, Try.ntmps83
        go_wp2_with (first | ((with_reducible refine gate_dst (N := 1) rfl ?_); (try (refine gate_guard (by rfl) ?_; dsimp only)); refine box_event ?hg (N := 1) ?hd (cs := #[.bool true, .int .i64 a0_1, .string a0_2]) (t := 54) ?hr ?_; (case hd => rfl); (case hg => rfl); (case hr => first | (go_simp; done) | (go_simp; rfl)); intro gb173 hg w7 hbox hb; have n0_ := Aside0.mk (below_step (by repeat (first | (with_reducible first | exact HB.out | apply below_alloc | apply pw_below_drewN | apply below_drew1) | exact HB.out)) hb); have n1_ := Aside0.mk (hbox); have n2_ := Aside0.mk ((by rw [hg]; exact (below_size (by repeat (first | (with_reducible first | exact HB.out | apply below_alloc | apply pw_below_drewN | apply below_drew1) | exact HB.out))) : w.heap.size ≤ gb173)); have n3_ := Aside0.mk ((by rw [hg]; exact (below_size (by repeat (first | (with_reducible first | exact HB.out | apply below_alloc | apply pw_below_drewN | apply below_drew1) | exact HB.out))) : w.heap.size ≤ gb173)); clear HB; have HB := n0_; have BK173 := n1_; have GW173 := n2_; have GE173 := n3_; clear n0_ n1_ n2_ n3_; clear hb hbox hg; have hcz8_0 : w7.cell? ⟨gb173, 0, none⟩ = some (.bool true) := (blk_cell BK173.out 0).trans rfl; have hcz8_1 : w7.cell? ⟨gb173, 1, none⟩ = some (.int .i64 a0_1) := (blk_cell BK173.out 1).trans rfl; have hcz8_2 : w7.cell? ⟨gb173, 2, none⟩ = some (.string a0_2) := (blk_cell BK173.out 2).trans rfl; have hfz8_0 := blk_frozen BK173.out 0; have hfz8_1 := blk_frozen BK173.out 1; have hfz8_2 := blk_frozen BK173.out 2))
        go_ret
        exact ⟨by first | rfl | (simp [errW_none, errW_some] <;> rfl) | (simp [*, errW_none, errW_some] <;> rfl), by repeat (first | (with_reducible first | exact HB.out | apply below_alloc | apply pw_below_drewN | apply below_drew1 | refine below_set ?_ GE173.out) | exact HB.out)⟩
    · rw [if_neg c3] at H
      have c3b0 : decide (0 ≤ a0_1) = false := decide_eq_false c3
      clear c3
      obtain rfl := Option.some.inj H
      go_enter Try.func83, Try.ntmps83
      go_wp2_with (first | ((with_reducible refine gate_dst (N := 1) rfl ?_); (try (refine gate_guard (by rfl) ?_; dsimp only)); refine box_event ?hg (N := 1) ?hd (cs := #[.bool true, .int .i64 a0_1, .string a0_2]) (t := 54) ?hr ?_; (case hd => rfl); (case hg => rfl); (case hr => first | (go_simp; done) | (go_simp; rfl)); intro gb173 hg w9 hbox hb; have n0_ := Aside0.mk (below_step (by repeat (first | (with_reducible first | exact HB.out | apply below_alloc | apply pw_below_drewN | apply below_drew1) | exact HB.out)) hb); have n1_ := Aside0.mk (hbox); have n2_ := Aside0.mk ((by rw [hg]; exact (below_size (by repeat (first | (with_reducible first | exact HB.out | apply below_alloc | apply pw_below_drewN | apply below_drew1) | exact HB.out))) : w.heap.size ≤ gb173)); have n3_ := Aside0.mk ((by rw [hg]; exact (below_size (by repeat (first | (with_reducible first | exact HB.out | apply below_alloc | apply pw_below_drewN | apply below_drew1) | exact HB.out))) : w.heap.size ≤ gb173)); clear HB; have HB := n0_; have BK173 := n1_; have GW173 := n2_; have GE173 := n3_; clear n0_ n1_ n2_ n3_; clear hb hbox hg; have hcz10_0 : w9.cell? ⟨gb173, 0, none⟩ = some (.bool true) := (blk_cell BK173.out 0).trans rfl; have hcz10_1 : w9.cell? ⟨gb173, 1, none⟩ = some (.int .i64 a0_1) := (blk_cell BK173.out 1).trans rfl; have hcz10_2 : w9.cell? ⟨gb173, 2, none⟩ = some (.string a0_2) := (blk_cell BK173.out 2).trans rfl; have hfz10_0 := blk_frozen BK173.out 0; have hfz10_1 := blk_frozen BK173.out 1; have hfz10_2 := blk_frozen BK173.out 2))
      go_ret
      exact ⟨by first | rfl | (simp [errW_none, errW_some] <;> rfl) | (simp [*, errW_none, errW_some] <;> rfl), by repeat (first | (with_reducible first | exact HB.out | apply below_alloc | apply pw_below_drewN | apply below_drew1 | refine below_set ?_ GE173.out) | exact HB.out)⟩
  · replace c2 := Bool.eq_false_iff.mpr c2
    subst c2
    have H1 : (if a0_1 ≥ 0 then (if a0_1 < 12 then ((impl_isColumn.f a0_2).bind fun t174 => (some t174)) else (some false)) else (some false)) = some r := by rw [if_neg (show ¬ (false = true) by decide)] at H; exact H
    clear H
    have H := H1
    clear H1
    by_cases c11 : a0_1 ≥ 0
    · rw [if_pos c11] at H
      have c11b0 : decide (0 ≤ a0_1) = true := decide_eq_true c11
      clear c11
      by_cases c12 : a0_1 < 12
      · rw [if_pos c12] at H
        have c12b0 : decide (a0_1 < 12) = true := decide_eq_true c12
        clear c12
        replace H := Option.bind_eq_some_iff.mp H
        obtain ⟨t174, A130, H⟩ := H
        replace H : (some t174) = some r := H
        have A13 := Aside0.mk A130
        clear A130
        obtain rfl := Option.some.inj H
        go_enter Try.func83, Try.ntmps83
        go_wp2_with (first | ((with_reducible refine gate_dst (N := 1) rfl ?_); (try (refine gate_guard (by rfl) ?_; dsimp only)); refine box_event ?hg (N := 1) ?hd (cs := #[.bool false, .int .i64 a0_1, .string a0_2]) (t := 54) ?hr ?_; (case hd => rfl); (case hg => rfl); (case hr => first | (go_simp; done) | (go_simp; rfl)); intro gb173 hg w14 hbox hb; have n0_ := Aside0.mk (below_step (by repeat (first | (with_reducible first | exact HB.out | apply below_alloc | apply pw_below_drewN | apply below_drew1) | exact HB.out)) hb); have n1_ := Aside0.mk (hbox); have n2_ := Aside0.mk ((by rw [hg]; exact (below_size (by repeat (first | (with_reducible first | exact HB.out | apply below_alloc | apply pw_below_drewN | apply below_drew1) | exact HB.out))) : w.heap.size ≤ gb173)); have n3_ := Aside0.mk ((by rw [hg]; exact (below_size (by repeat (first | (with_reducible first | exact HB.out | apply below_alloc | apply pw_below_drewN | apply below_drew1) | exact HB.out))) : w.heap.size ≤ gb173)); clear HB; have HB := n0_; have BK173 := n1_; have GW173 := n2_; have GE173 := n3_; clear n0_ n1_ n2_ n3_; clear hb hbox hg; have hcz15_0 : w14.cell? ⟨gb173, 0, none⟩ = some (.bool false) := (blk_cell BK173.out 0).trans rfl; have hcz15_1 : w14.cell? ⟨gb173, 1, none⟩ = some (.int .i64 a0_1) := (blk_cell BK173.out 1).trans rfl; have hcz15_2 : w14.cell? ⟨gb173, 2, none⟩ = some (.string a0_2) := (blk_cell BK173.out 2).trans rfl; have hfz15_0 := blk_frozen BK173.out 0; have hfz15_1 := blk_frozen BK173.out 1; have hfz15_2 := blk_frozen BK173.out 2) | (go_at_call 94; (with_reducible refine (impl_isColumn.calls a0_2 t174 _ A13.out).mono ?_); rintro e w' ⟨rfl, ⟨nd, rfl⟩⟩))
        go_ret
        exact ⟨by first | rfl | (simp [errW_none, errW_some] <;> rfl) | (simp [*, errW_none, errW_some] <;> rfl), by repeat (first | (with_reducible first | exact HB.out | apply below_alloc | apply pw_below_drewN | apply below_drew1 | refine below_set ?_ GE173.out) | exact HB.out)⟩
      · rw [if_neg c12] at H
        have c12b0 : decide (a0_1 < 12) = false := decide_eq_false c12
        clear c12
        obtain rfl := Option.some.inj H
        go_enter Try.func83, Try.ntmps83
        go_wp2_with (first | ((with_reducible refine gate_dst (N := 1) rfl ?_); (try (refine gate_guard (by rfl) ?_; dsimp only)); refine box_event ?hg (N := 1) ?hd (cs := #[.bool false, .int .i64 a0_1, .string a0_2]) (t := 54) ?hr ?_; (case hd => rfl); (case hg => rfl); (case hr => first | (go_simp; done) | (go_simp; rfl)); intro gb173 hg w16 hbox hb; have n0_ := Aside0.mk (below_step (by repeat (first | (with_reducible first | exact HB.out | apply below_alloc | apply pw_below_drewN | apply below_drew1) | exact HB.out)) hb); have n1_ := Aside0.mk (hbox); have n2_ := Aside0.mk ((by rw [hg]; exact (below_size (by repeat (first | (with_reducible first | exact HB.out | apply below_alloc | apply pw_below_drewN | apply below_drew1) | exact HB.out))) : w.heap.size ≤ gb173)); have n3_ := Aside0.mk ((by rw [hg]; exact (below_size (by repeat (first | (with_reducible first | exact HB.out | apply below_alloc | apply pw_below_drewN | apply below_drew1) | exact HB.out))) : w.heap.size ≤ gb173)); clear HB; have HB := n0_; have BK173 := n1_; have GW173 := n2_; have GE173 := n3_; clear n0_ n1_ n2_ n3_; clear hb hbox hg; have hcz17_0 : w16.cell? ⟨gb173, 0, none⟩ = some (.bool false) := (blk_cell BK173.out 0).trans rfl; have hcz17_1 : w16.cell? ⟨gb173, 1, none⟩ = some (.int .i64 a0_1) := (blk_cell BK173.out 1).trans rfl; have hcz17_2 : w16.cell? ⟨gb173, 2, none⟩ = some (.string a0_2) := (blk_cell BK173.out 2).trans rfl; have hfz17_0 := blk_frozen BK173.out 0; have hfz17_1 := blk_frozen BK173.out 1; have hfz17_2 := blk_frozen BK173.out 2))
        go_ret
        exact ⟨by first | rfl | (simp [errW_none, errW_some] <;> rfl) | (simp [*, errW_none, errW_some] <;> rfl), by repeat (first | (with_reducible first | exact HB.out | apply below_alloc | apply pw_below_drewN | apply below_drew1 | refine below_set ?_ GE173.out) | exact HB.out)⟩
    · rw [if_neg c11] at H
      have c11b0 : decide (0 ≤ a0_1) = false := decide_eq_false c11
      clear c11
      obtain rfl := Option.some.inj H
      go_enter Try.func83, Try.ntmps83
      go_wp2_with (first | ((with_reducible refine gate_dst (N := 1) rfl ?_); (try (refine gate_guard (by rfl) ?_; dsimp only)); refine box_event ?hg (N := 1) ?hd (cs := #[.bool false, .int .i64 a0_1, .string a0_2]) (t := 54) ?hr ?_; (case hd => rfl); (case hg => rfl); (case hr => first | (go_simp; done) | (go_simp; rfl)); intro gb173 hg w18 hbox hb; have n0_ := Aside0.mk (below_step (by repeat (first | (with_reducible first | exact HB.out | apply below_alloc | apply pw_below_drewN | apply below_drew1) | exact HB.out)) hb); have n1_ := Aside0.mk (hbox); have n2_ := Aside0.mk ((by rw [hg]; exact (below_size (by repeat (first | (with_reducible first | exact HB.out | apply below_alloc | apply pw_below_drewN | apply below_drew1) | exact HB.out))) : w.heap.size ≤ gb173)); have n3_ := Aside0.mk ((by rw [hg]; exact (below_size (by repeat (first | (with_reducible first | exact HB.out | apply below_alloc | apply pw_below_drewN | apply below_drew1) | exact HB.out))) : w.heap.size ≤ gb173)); clear HB; have HB := n0_; have BK173 := n1_; have GW173 := n2_; have GE173 := n3_; clear n0_ n1_ n2_ n3_; clear hb hbox hg; have hcz19_0 : w18.cell? ⟨gb173, 0, none⟩ = some (.bool false) := (blk_cell BK173.out 0).trans rfl; have hcz19_1 : w18.cell? ⟨gb173, 1, none⟩ = some (.int .i64 a0_1) := (blk_cell BK173.out 1).trans rfl; have hcz19_2 : w18.cell? ⟨gb173, 2, none⟩ = some (.string a0_2) := (blk_cell BK173.out 2).trans rfl; have hfz19_0 := blk_frozen BK173.out 0; have hfz19_1 := blk_frozen BK173.out 1; have hfz19_2 := blk_frozen BK173.out 2))
      go_ret
      exact ⟨by first | rfl | (simp [errW_none, errW_some] <;> rfl) | (simp [*, errW_none, errW_some] <;> rfl), by repeat (first | (with_reducible first | exact HB.out | apply below_alloc | apply pw_below_drewN | apply below_drew1 | refine below_set ?_ GE173.out) | exact HB.out)⟩
def impl_isState.f (a0 : Int) : Option (Bool) := if a0 ≥ 0 then (some (decide (a0 ≤ 2))) else (some false)
set_option maxHeartbeats 8000000 in
set_option maxRecDepth 100000 in
theorem impl_isState.calls (a0 : Int) (r : Bool) (w : World) (h : impl_isState.f a0 = some r) :
    Calls Try.prog 49 #[.int .i64 a0] w fun e w' => e = .returned (.bool r) ∧ Drawn0 w w' := by
  have H : (if a0 ≥ 0 then (some (decide (a0 ≤ 2))) else (some false)) = some r := h
  clear h
  by_cases c2 : a0 ≥ 0
  · rw [if_pos c2] at H
    have c2b0 : decide (0 ≤ a0) = true := decide_eq_true c2
    clear c2
    obtain rfl := Option.some.inj H
    go_enter Try.func49, Try.ntmps49
    go_wp2
    go_ret
    exact ⟨by first | rfl | (simp; done) | (simp [*]; done), by repeat (first | exact Drawn0.refl _ | apply Drawn0.step)⟩
  · rw [if_neg c2] at H
    have c2b0 : decide (0 ≤ a0) = false := decide_eq_false c2
    clear c2
    obtain rfl := Option.some.inj H
    go_enter Try.func49, Try.ntmps49
    go_wp2
    go_ret
    exact ⟨by first | rfl | (simp; done) | (simp [*]; done), by repeat (first | exact Drawn0.refl _ | apply Drawn0.step)⟩
def impl_Disk_shaped.f (a0_0 : Int) (l0_1 : List ByteArray) (l0_2 : List ByteArray) (l0_3 : List Bool) (l0_4 : List (S54)) : Option (Bool) := (impl_isState.f a0_0).bind fun t176 => (if t176 = true then (if (l0_1.length : Int) = 12 then (if (l0_2.length : Int) = 2 then (if (l0_3.length : Int) = 12 then (some (decide ((l0_4.length : Int) ≤ 40))) else (some false)) else (some false)) else (some false)) else (some false))
set_option maxHeartbeats 8000000 in
set_option maxRecDepth 100000 in
theorem impl_Disk_shaped.calls (a0_0 : Int) (A0_1 : Option Addr) (c0_1 : Nat) (l0_1 : List ByteArray) (A0_2 : Option Addr) (c0_2 : Nat) (l0_2 : List ByteArray) (A0_3 : Option Addr) (c0_3 : Nat) (l0_3 : List Bool) (A0_4 : Option Addr) (c0_4 : Nat) (l0_4 : List (S54)) (r : Bool) (w : World) (hr0_1 : Kd.C Kd.string w A0_1 l0_1.length l0_1) (hc0_1 : l0_1.length ≤ c0_1) (hr0_2 : Kd.C Kd.string w A0_2 l0_2.length l0_2) (hc0_2 : l0_2.length ≤ c0_2) (hr0_3 : Kd.C Kd.bool w A0_3 l0_3.length l0_3) (hc0_3 : l0_3.length ≤ c0_3) (hr0_4 : Kd.C k54 w A0_4 l0_4.length l0_4) (hc0_4 : l0_4.length ≤ c0_4) (h : impl_Disk_shaped.f a0_0 l0_1 l0_2 l0_3 l0_4 = some r) :
    Calls Try.prog 91 #[.agg #[.int .i64 a0_0, .slice A0_1 l0_1.length c0_1, .slice A0_2 l0_2.length c0_2, .slice A0_3 l0_3.length c0_3, .slice A0_4 l0_4.length c0_4]] w fun e w' => e = .returned (.bool r) ∧ Below w.heap.size w w' := by
  have hu28 := Try.underlying28
  have HR0_1 := Aside0.mk hr0_1
  have HC0_1 := Aside0.mk hc0_1
  clear hr0_1 hc0_1
  have HR0_2 := Aside0.mk hr0_2
  have HC0_2 := Aside0.mk hc0_2
  clear hr0_2 hc0_2
  have HR0_3 := Aside0.mk hr0_3
  have HC0_3 := Aside0.mk hc0_3
  clear hr0_3 hc0_3
  have HR0_4 := Aside0.mk hr0_4
  have HC0_4 := Aside0.mk hc0_4
  clear hr0_4 hc0_4
  have HB := Aside0.mk (Below.refl w.heap.size w)
  have H : ((impl_isState.f a0_0).bind fun t176 => (if t176 = true then (if (l0_1.length : Int) = 12 then (if (l0_2.length : Int) = 2 then (if (l0_3.length : Int) = 12 then (some (decide ((l0_4.length : Int) ≤ 40))) else (some false)) else (some false)) else (some false)) else (some false))) = some r := h
  clear h
  replace H := Option.bind_eq_some_iff.mp H
  obtain ⟨t176, A20, H⟩ := H
  replace H : (if t176 = true then (if (l0_1.length : Int) = 12 then (if (l0_2.length : Int) = 2 then (if (l0_3.length : Int) = 12 then (some (decide ((l0_4.length : Int) ≤ 40))) else (some false)) else (some false)) else (some false)) else (some false)) = some r := H
  have A2 := Aside0.mk A20
  clear A20
  by_cases c3 : t176 = true
  · subst c3
    have H1 : (if (l0_1.length : Int) = 12 then (if (l0_2.length : Int) = 2 then (if (l0_3.length : Int) = 12 then (some (decide ((l0_4.length : Int) ≤ 40))) else (some false)) else (some false)) else (some false)) = some r := by rw [if_pos rfl] at H; exact H
    clear H
    have H := H1
    clear H1
    by_cases c4 : (l0_1.length : Int) = 12
    · rw [if_pos c4] at H
      have c4b0 : ((l0_1.length : Int) == 12) = true := beq_iff_eq.mpr c4
      have c4b1 : ((l0_1.length : Int) != 12) = false := bne_eq_false_iff_eq.mpr c4
      clear c4
      by_cases c5 : (l0_2.length : Int) = 2
      · rw [if_pos c5] at H
        have c5b0 : ((l0_2.length : Int) == 2) = true := beq_iff_eq.mpr c5
        have c5b1 : ((l0_2.length : Int) != 2) = false := bne_eq_false_iff_eq.mpr c5
        clear c5
        by_cases c6 : (l0_3.length : Int) = 12
        · rw [if_pos c6] at H
          have c6b0 : ((l0_3.length : Int) == 12) = true := beq_iff_eq.mpr c6
          have c6b1 : ((l0_3.length : Int) != 12) = false := bne_eq_false_iff_eq.mpr c6
          clear c6
          obtain rfl := Option.some.inj H
          go_enter Try.func91, Try.ntmps91
          go_wp2_with (first | ((with_reducible refine gate_dst (N := 1) rfl ?_); (try (refine gate_guard (by rfl) ?_; dsimp only)); refine box_event ?hg (N := 1) ?hd (cs := #[.int .i64 a0_0, .slice A0_1 l0_1.length c0_1, .slice A0_2 l0_2.length c0_2, .slice A0_3 l0_3.length c0_3, .slice A0_4 l0_4.length c0_4]) (t := 28) ?hr ?_; (case hd => rfl); (case hg => rfl); (case hr => first | (go_simp; done) | (go_simp; rfl)); intro gb175 hg w7 hbox hb; have n0_ := Aside0.mk (below_step (by repeat (first | (with_reducible first | exact HB.out | apply below_alloc | apply pw_below_drewN | apply below_drew1) | exact HB.out)) hb); have n1_ := Aside0.mk (hbox); have n2_ := Aside0.mk ((by rw [hg]; exact (below_size (by repeat (first | (with_reducible first | exact HB.out | apply below_alloc | apply pw_below_drewN | apply below_drew1) | exact HB.out))) : w.heap.size ≤ gb175)); have n3_ := Aside0.mk ((by rw [hg]; exact (below_size (by repeat (first | (with_reducible first | exact HB.out | apply below_alloc | apply pw_below_drewN | apply below_drew1) | exact HB.out))) : w.heap.size ≤ gb175)); clear HB; have HB := n0_; have BK175 := n1_; have GW175 := n2_; have GE175 := n3_; clear n0_ n1_ n2_ n3_; clear hb hbox hg; have hcz8_0 : w7.cell? ⟨gb175, 0, none⟩ = some (.int .i64 a0_0) := (blk_cell BK175.out 0).trans rfl; have hcz8_1 : w7.cell? ⟨gb175, 1, none⟩ = some (.slice A0_1 l0_1.length c0_1) := (blk_cell BK175.out 1).trans rfl; have hcz8_2 : w7.cell? ⟨gb175, 2, none⟩ = some (.slice A0_2 l0_2.length c0_2) := (blk_cell BK175.out 2).trans rfl; have hcz8_3 : w7.cell? ⟨gb175, 3, none⟩ = some (.slice A0_3 l0_3.length c0_3) := (blk_cell BK175.out 3).trans rfl; have hcz8_4 : w7.cell? ⟨gb175, 4, none⟩ = some (.slice A0_4 l0_4.length c0_4) := (blk_cell BK175.out 4).trans rfl; have hfz8_0 := blk_frozen BK175.out 0; have hfz8_1 := blk_frozen BK175.out 1; have hfz8_2 := blk_frozen BK175.out 2; have hfz8_3 := blk_frozen BK175.out 3; have hfz8_4 := blk_frozen BK175.out 4) | ((with_reducible refine gate_callee (f := 49) rfl ?_); refine goesL_ (some 5) rfl rfl Try.func49 (by kernel_rfl) rfl #[.int .i64 a0_0] rfl (by (try simp only [List.map_toArray, List.map_cons, List.map_nil]); first | done | rfl | (simp only [List.length_drop, List.length_take]; rfl)) ?_; (with_reducible refine (impl_isState.calls a0_0 true _ A2.out).mono ?_); rintro e w' ⟨rfl, ⟨nd, rfl⟩⟩; refine ⟨_, rfl, ?_⟩))
          go_ret
          exact ⟨by first | rfl | (simp [errW_none, errW_some] <;> rfl) | (simp [*, errW_none, errW_some] <;> rfl), by repeat (first | (with_reducible first | exact HB.out | apply below_alloc | apply pw_below_drewN | apply below_drew1 | refine below_set ?_ GE175.out) | exact HB.out)⟩
        · rw [if_neg c6] at H
          have c6b0 : ((l0_3.length : Int) == 12) = false := beq_eq_false_iff_ne.mpr c6
          have c6b1 : ((l0_3.length : Int) != 12) = true := bne_iff_ne.mpr c6
          obtain rfl := Option.some.inj H
          go_enter Try.func91, Try.ntmps91
          go_wp2_with (first | ((with_reducible refine gate_dst (N := 1) rfl ?_); (try (refine gate_guard (by rfl) ?_; dsimp only)); refine box_event ?hg (N := 1) ?hd (cs := #[.int .i64 a0_0, .slice A0_1 l0_1.length c0_1, .slice A0_2 l0_2.length c0_2, .slice A0_3 l0_3.length c0_3, .slice A0_4 l0_4.length c0_4]) (t := 28) ?hr ?_; (case hd => rfl); (case hg => rfl); (case hr => first | (go_simp; done) | (go_simp; rfl)); intro gb175 hg w9 hbox hb; have n0_ := Aside0.mk (below_step (by repeat (first | (with_reducible first | exact HB.out | apply below_alloc | apply pw_below_drewN | apply below_drew1) | exact HB.out)) hb); have n1_ := Aside0.mk (hbox); have n2_ := Aside0.mk ((by rw [hg]; exact (below_size (by repeat (first | (with_reducible first | exact HB.out | apply below_alloc | apply pw_below_drewN | apply below_drew1) | exact HB.out))) : w.heap.size ≤ gb175)); have n3_ := Aside0.mk ((by rw [hg]; exact (below_size (by repeat (first | (with_reducible first | exact HB.out | apply below_alloc | apply pw_below_drewN | apply below_drew1) | exact HB.out))) : w.heap.size ≤ gb175)); clear HB; have HB := n0_; have BK175 := n1_; have GW175 := n2_; have GE175 := n3_; clear n0_ n1_ n2_ n3_; clear hb hbox hg; have hcz10_0 : w9.cell? ⟨gb175, 0, none⟩ = some (.int .i64 a0_0) := (blk_cell BK175.out 0).trans rfl; have hcz10_1 : w9.cell? ⟨gb175, 1, none⟩ = some (.slice A0_1 l0_1.length c0_1) := (blk_cell BK175.out 1).trans rfl; have hcz10_2 : w9.cell? ⟨gb175, 2, none⟩ = some (.slice A0_2 l0_2.length c0_2) := (blk_cell BK175.out 2).trans rfl; have hcz10_3 : w9.cell? ⟨gb175, 3, none⟩ = some (.slice A0_3 l0_3.length c0_3) := (blk_cell BK175.out 3).trans rfl; have hcz10_4 : w9.cell? ⟨gb175, 4, none⟩ = some (.slice A0_4 l0_4.length c0_4) := (blk_cell BK175.out 4).trans rfl; have hfz10_0 := blk_frozen BK175.out 0; have hfz10_1 := blk_frozen BK175.out 1; have hfz10_2 := blk_frozen BK175.out 2; have hfz10_3 := blk_frozen BK175.out 3; have hfz10_4 := blk_frozen BK175.out 4) | ((with_reducible refine gate_callee (f := 49) rfl ?_); refine goesL_ (some 5) rfl rfl Try.func49 (by kernel_rfl) rfl #[.int .i64 a0_0] rfl (by (try simp only [List.map_toArray, List.map_cons, List.map_nil]); first | done | rfl | (simp only [List.length_drop, List.length_take]; rfl)) ?_; (with_reducible refine (impl_isState.calls a0_0 true _ A2.out).mono ?_); rintro e w' ⟨rfl, ⟨nd, rfl⟩⟩; refine ⟨_, rfl, ?_⟩))
          go_ret
          exact ⟨by first | rfl | (simp [errW_none, errW_some] <;> rfl) | (simp [*, errW_none, errW_some] <;> rfl), by repeat (first | (with_reducible first | exact HB.out | apply below_alloc | apply pw_below_drewN | apply below_drew1 | refine below_set ?_ GE175.out) | exact HB.out)⟩
      · rw [if_neg c5] at H
        have c5b0 : ((l0_2.length : Int) == 2) = false := beq_eq_false_iff_ne.mpr c5
        have c5b1 : ((l0_2.length : Int) != 2) = true := bne_iff_ne.mpr c5
        obtain rfl := Option.some.inj H
        go_enter Try.func91, Try.ntmps91
        go_wp2_with (first | ((with_reducible refine gate_dst (N := 1) rfl ?_); (try (refine gate_guard (by rfl) ?_; dsimp only)); refine box_event ?hg (N := 1) ?hd (cs := #[.int .i64 a0_0, .slice A0_1 l0_1.length c0_1, .slice A0_2 l0_2.length c0_2, .slice A0_3 l0_3.length c0_3, .slice A0_4 l0_4.length c0_4]) (t := 28) ?hr ?_; (case hd => rfl); (case hg => rfl); (case hr => first | (go_simp; done) | (go_simp; rfl)); intro gb175 hg w11 hbox hb; have n0_ := Aside0.mk (below_step (by repeat (first | (with_reducible first | exact HB.out | apply below_alloc | apply pw_below_drewN | apply below_drew1) | exact HB.out)) hb); have n1_ := Aside0.mk (hbox); have n2_ := Aside0.mk ((by rw [hg]; exact (below_size (by repeat (first | (with_reducible first | exact HB.out | apply below_alloc | apply pw_below_drewN | apply below_drew1) | exact HB.out))) : w.heap.size ≤ gb175)); have n3_ := Aside0.mk ((by rw [hg]; exact (below_size (by repeat (first | (with_reducible first | exact HB.out | apply below_alloc | apply pw_below_drewN | apply below_drew1) | exact HB.out))) : w.heap.size ≤ gb175)); clear HB; have HB := n0_; have BK175 := n1_; have GW175 := n2_; have GE175 := n3_; clear n0_ n1_ n2_ n3_; clear hb hbox hg; have hcz12_0 : w11.cell? ⟨gb175, 0, none⟩ = some (.int .i64 a0_0) := (blk_cell BK175.out 0).trans rfl; have hcz12_1 : w11.cell? ⟨gb175, 1, none⟩ = some (.slice A0_1 l0_1.length c0_1) := (blk_cell BK175.out 1).trans rfl; have hcz12_2 : w11.cell? ⟨gb175, 2, none⟩ = some (.slice A0_2 l0_2.length c0_2) := (blk_cell BK175.out 2).trans rfl; have hcz12_3 : w11.cell? ⟨gb175, 3, none⟩ = some (.slice A0_3 l0_3.length c0_3) := (blk_cell BK175.out 3).trans rfl; have hcz12_4 : w11.cell? ⟨gb175, 4, none⟩ = some (.slice A0_4 l0_4.length c0_4) := (blk_cell BK175.out 4).trans rfl; have hfz12_0 := blk_frozen BK175.out 0; have hfz12_1 := blk_frozen BK175.out 1; have hfz12_2 := blk_frozen BK175.out 2; have hfz12_3 := blk_frozen BK175.out 3; have hfz12_4 := blk_frozen BK175.out 4) | ((with_reducible refine gate_callee (f := 49) rfl ?_); refine goesL_ (some 5) rfl rfl Try.func49 (by kernel_rfl) rfl #[.int .i64 a0_0] rfl (by (try simp only [List.map_toArray, List.map_cons, List.map_nil]); first | done | rfl | (simp only [List.length_drop, List.length_take]; rfl)) ?_; (with_reducible refine (impl_isState.calls a0_0 true _ A2.out).mono ?_); rintro e w' ⟨rfl, ⟨nd, rfl⟩⟩; refine ⟨_, rfl, ?_⟩))
        go_ret
        exact ⟨by first | rfl | (simp [errW_none, errW_some] <;> rfl) | (simp [*, errW_none, errW_some] <;> rfl), by repeat (first | (with_reducible first | exact HB.out | apply below_alloc | apply pw_below_drewN | apply below_drew1 | refine below_set ?_ GE175.out) | exact HB.out)⟩
    · rw [if_neg c4] at H
      have c4b0 : ((l0_1.length : Int) == 12) = false := beq_eq_false_iff_ne.mpr c4
      have c4b1 : ((l0_1.length : Int) != 12) = true := bne_iff_ne.mpr c4
      obtain rfl := Option.some.inj H
      go_enter Try.func91, Try.ntmps91
      go_wp2_with (first | ((with_reducible refine gate_dst (N := 1) rfl ?_); (try (refine gate_guard (by rfl) ?_; dsimp only)); refine box_event ?hg (N := 1) ?hd (cs := #[.int .i64 a0_0, .slice A0_1 l0_1.length c0_1, .slice A0_2 l0_2.length c0_2, .slice A0_3 l0_3.length c0_3, .slice A0_4 l0_4.length c0_4]) (t := 28) ?hr ?_; (case hd => rfl); (case hg => rfl); (case hr => first | (go_simp; done) | (go_simp; rfl)); intro gb175 hg w13 hbox hb; have n0_ := Aside0.mk (below_step (by repeat (first | (with_reducible first | exact HB.out | apply below_alloc | apply pw_below_drewN | apply below_drew1) | exact HB.out)) hb); have n1_ := Aside0.mk (hbox); have n2_ := Aside0.mk ((by rw [hg]; exact (below_size (by repeat (first | (with_reducible first | exact HB.out | apply below_alloc | apply pw_below_drewN | apply below_drew1) | exact HB.out))) : w.heap.size ≤ gb175)); have n3_ := Aside0.mk ((by rw [hg]; exact (below_size (by repeat (first | (with_reducible first | exact HB.out | apply below_alloc | apply pw_below_drewN | apply below_drew1) | exact HB.out))) : w.heap.size ≤ gb175)); clear HB; have HB := n0_; have BK175 := n1_; have GW175 := n2_; have GE175 := n3_; clear n0_ n1_ n2_ n3_; clear hb hbox hg; have hcz14_0 : w13.cell? ⟨gb175, 0, none⟩ = some (.int .i64 a0_0) := (blk_cell BK175.out 0).trans rfl; have hcz14_1 : w13.cell? ⟨gb175, 1, none⟩ = some (.slice A0_1 l0_1.length c0_1) := (blk_cell BK175.out 1).trans rfl; have hcz14_2 : w13.cell? ⟨gb175, 2, none⟩ = some (.slice A0_2 l0_2.length c0_2) := (blk_cell BK175.out 2).trans rfl; have hcz14_3 : w13.cell? ⟨gb175, 3, none⟩ = some (.slice A0_3 l0_3.length c0_3) := (blk_cell BK175.out 3).trans rfl; have hcz14_4 : w13.cell? ⟨gb175, 4, none⟩ = some (.slice A0_4 l0_4.length c0_4) := (blk_cell BK175.out 4).trans rfl; have hfz14_0 := blk_frozen BK175.out 0; have hfz14_1 := blk_frozen BK175.out 1; have hfz14_2 := blk_frozen BK175.out 2; have hfz14_3 := blk_frozen BK175.out 3; have hfz14_4 := blk_frozen BK175.out 4) | ((with_reducible refine gate_callee (f := 49) rfl ?_); refine goesL_ (some 5) rfl rfl Try.func49 (by kernel_rfl) rfl #[.int .i64 a0_0] rfl (by (try simp only [List.map_toArray, List.map_cons, List.map_nil]); first | done | rfl | (simp only [List.length_drop, List.length_take]; rfl)) ?_; (with_reducible refine (impl_isState.calls a0_0 true _ A2.out).mono ?_); rintro e w' ⟨rfl, ⟨nd, rfl⟩⟩; refine ⟨_, rfl, ?_⟩))
      go_ret
      exact ⟨by first | rfl | (simp [errW_none, errW_some] <;> rfl) | (simp [*, errW_none, errW_some] <;> rfl), by repeat (first | (with_reducible first | exact HB.out | apply below_alloc | apply pw_below_drewN | apply below_drew1 | refine below_set ?_ GE175.out) | exact HB.out)⟩
  · replace c3 := Bool.eq_false_iff.mpr c3
    subst c3
    have H1 : (some false) = some r := by rw [if_neg (show ¬ (false = true) by decide)] at H; exact H
    clear H
    have H := H1
    clear H1
    obtain rfl := Option.some.inj H
    go_enter Try.func91, Try.ntmps91
    go_wp2_with (first | ((with_reducible refine gate_dst (N := 1) rfl ?_); (try (refine gate_guard (by rfl) ?_; dsimp only)); refine box_event ?hg (N := 1) ?hd (cs := #[.int .i64 a0_0, .slice A0_1 l0_1.length c0_1, .slice A0_2 l0_2.length c0_2, .slice A0_3 l0_3.length c0_3, .slice A0_4 l0_4.length c0_4]) (t := 28) ?hr ?_; (case hd => rfl); (case hg => rfl); (case hr => first | (go_simp; done) | (go_simp; rfl)); intro gb175 hg w15 hbox hb; have n0_ := Aside0.mk (below_step (by repeat (first | (with_reducible first | exact HB.out | apply below_alloc | apply pw_below_drewN | apply below_drew1) | exact HB.out)) hb); have n1_ := Aside0.mk (hbox); have n2_ := Aside0.mk ((by rw [hg]; exact (below_size (by repeat (first | (with_reducible first | exact HB.out | apply below_alloc | apply pw_below_drewN | apply below_drew1) | exact HB.out))) : w.heap.size ≤ gb175)); have n3_ := Aside0.mk ((by rw [hg]; exact (below_size (by repeat (first | (with_reducible first | exact HB.out | apply below_alloc | apply pw_below_drewN | apply below_drew1) | exact HB.out))) : w.heap.size ≤ gb175)); clear HB; have HB := n0_; have BK175 := n1_; have GW175 := n2_; have GE175 := n3_; clear n0_ n1_ n2_ n3_; clear hb hbox hg; have hcz16_0 : w15.cell? ⟨gb175, 0, none⟩ = some (.int .i64 a0_0) := (blk_cell BK175.out 0).trans rfl; have hcz16_1 : w15.cell? ⟨gb175, 1, none⟩ = some (.slice A0_1 l0_1.length c0_1) := (blk_cell BK175.out 1).trans rfl; have hcz16_2 : w15.cell? ⟨gb175, 2, none⟩ = some (.slice A0_2 l0_2.length c0_2) := (blk_cell BK175.out 2).trans rfl; have hcz16_3 : w15.cell? ⟨gb175, 3, none⟩ = some (.slice A0_3 l0_3.length c0_3) := (blk_cell BK175.out 3).trans rfl; have hcz16_4 : w15.cell? ⟨gb175, 4, none⟩ = some (.slice A0_4 l0_4.length c0_4) := (blk_cell BK175.out 4).trans rfl; have hfz16_0 := blk_frozen BK175.out 0; have hfz16_1 := blk_frozen BK175.out 1; have hfz16_2 := blk_frozen BK175.out 2; have hfz16_3 := blk_frozen BK175.out 3; have hfz16_4 := blk_frozen BK175.out 4) | ((with_reducible refine gate_callee (f := 49) rfl ?_); refine goesL_ (some 5) rfl rfl Try.func49 (by kernel_rfl) rfl #[.int .i64 a0_0] rfl (by (try simp only [List.map_toArray, List.map_cons, List.map_nil]); first | done | rfl | (simp only [List.length_drop, List.length_take]; rfl)) ?_; (with_reducible refine (impl_isState.calls a0_0 false _ A2.out).mono ?_); rintro e w' ⟨rfl, ⟨nd, rfl⟩⟩; refine ⟨_, rfl, ?_⟩))
    go_ret
    exact ⟨by first | rfl | (simp [errW_none, errW_some] <;> rfl) | (simp [*, errW_none, errW_some] <;> rfl), by repeat (first | (with_reducible first | exact HB.out | apply below_alloc | apply pw_below_drewN | apply below_drew1 | refine below_set ?_ GE175.out) | exact HB.out)⟩
end Go.Proofs.Ytkgpnloghmbmlaa.Print
namespace Go.Proofs.Ytkgpnloghmbmlaa.Print
open Go.RowKit Go.Proofs.YtkgpnloghmbmlaaW.PrintWords Go.Proofs.YtkgpnloghmbmlaaW.PrintLast Go.Proofs.YtkgpnloghmbmlaaW.PrintMore
set_option linter.unusedVariables false
set_option linter.unusedSimpArgs false
def putB (x : S54) : Bool := if x.f0 = true then decide (0 ≤ x.f1 ∧ x.f1 < 2 ∧ x.f2.size ≤ 700) else decide (0 ≤ x.f1 ∧ x.f1 < 12 ∧ x.f2.size = 3)
theorem putB_eq (x : S54) : impl_putOk.f x.f0 x.f1 x.f2 = some (putB x) := by
  unfold impl_putOk.f impl_isColumn.f putB
  by_cases h0 : x.f0 = true
  · rw [if_pos h0, if_pos h0]
    by_cases h1 : x.f1 ≥ 0
    · rw [if_pos h1]
      by_cases h2 : x.f1 < 2
      · rw [if_pos h2]
        congr 1
        rw [Bool.eq_iff_iff, decide_eq_true_iff, decide_eq_true_iff]
        omega
      · rw [if_neg h2, decide_eq_false (by omega)]
    · rw [if_neg h1, decide_eq_false (by omega)]
  · rw [if_neg h0, if_neg h0]
    by_cases h1 : x.f1 ≥ 0
    · rw [if_pos h1]
      by_cases h2 : x.f1 < 12
      · rw [if_pos h2]
        simp only [Option.bind_some]
        congr 1
        rw [Bool.eq_iff_iff, decide_eq_true_iff, beq_iff_eq]
        omega
      · rw [if_neg h2, decide_eq_false (by omega)]
    · rw [if_neg h1, decide_eq_false (by omega)]
set_option maxHeartbeats 1000000 in
theorem putPred (x : S54) (w : World) :
    Calls Try.prog 93 #[.agg #[.bool x.f0, .int .i64 x.f1, .string x.f2]] w fun e w' => e = .returned (.bool (!putB x)) ∧ Below w.heap.size w w' := by
  have hu54 := Try.underlying54
  have HB := Aside0.mk (Below.refl w.heap.size w)
  have HP := Aside0.mk (putB_eq x)
  go_enter Try.func93, Try.ntmps93
  go_wp2_with (first | ((with_reducible refine gate_dst (N := 1) rfl ?_); refine box_event ?hg (N := 1) ?hd (cs := #[.bool x.f0, .int .i64 x.f1, .string x.f2]) (t := 54) ?hr ?_; (case hd => rfl); (case hg => rfl); (case hr => first | (go_simp; done) | (go_simp; rfl)); intro gb hg w5 hbox hb; have n0_ := Aside0.mk (below_step (by repeat (first | (with_reducible first | exact HB.out | apply below_alloc | apply pw_below_drewN | apply below_drew1) | exact HB.out)) hb); have n1_ := Aside0.mk hbox; clear HB; have HB := n0_; have BK := n1_; clear n0_ n1_; clear hb hbox hg; have hcz_0 : w5.cell? ⟨gb, 0, none⟩ = some (.bool x.f0) := (blk_cell BK.out 0).trans rfl; have hcz_1 : w5.cell? ⟨gb, 1, none⟩ = some (.int .i64 x.f1) := (blk_cell BK.out 1).trans rfl; have hcz_2 : w5.cell? ⟨gb, 2, none⟩ = some (.string x.f2) := (blk_cell BK.out 2).trans rfl) | (go_at_call 83; refine (impl_putOk.calls _ _ _ _ _ HP.out).mono ?_; rintro e w9 ⟨rfl, hb⟩; have n0_ := Aside0.mk (below_step (by repeat (first | (with_reducible first | exact HB.out | apply below_alloc | apply pw_below_drewN | apply below_drew1) | exact HB.out)) hb); clear HB; have HB := n0_; clear n0_ hb))
  go_ret
  exact ⟨rfl, (by repeat (first | (with_reducible first | exact HB.out | apply below_alloc | apply pw_below_drewN | apply below_drew1) | exact HB.out))⟩
set_option maxHeartbeats 1000000 in
theorem textPred (x : ByteArray) (w : World) :
    Calls Try.prog 96 #[.string x] w fun e w' => e = .returned (.bool (decide ((x.size : Int) > 700))) ∧ Below w.heap.size w w' := by
  have HB := Aside0.mk (Below.refl w.heap.size w)
  go_enter Try.func96, Try.ntmps96
  go_wp2
  go_ret
  exact ⟨rfl, (by repeat (first | (with_reducible first | exact HB.out | apply below_alloc | apply pw_below_drewN | apply below_drew1) | exact HB.out))⟩
def findIxG {α : Type} (p : α → Bool) (l : List α) : Int := match l.findIdx? p with | some i => (i : Int) | none => -1
theorem findIxG_at {α : Type} {z : α} {p : α → Bool} {l : List α} {i : Nat} (h : ∀ j, j < i → p (l.getD j z) = false) (hi : i < l.length) (hp : p (l.getD i z) = true) : findIxG p l = (i : Int) := by
  have e : l.findIdx? p = some i := by
    rw [List.findIdx?_eq_some_iff_getElem]
    refine ⟨hi, ?_, fun j hj => ?_⟩
    · simpa [List.getD, hi] using hp
    · have := h j hj
      have hjl : j < l.length := by omega
      simpa [List.getD, hjl] using this
  rw [findIxG, e]
theorem findIxG_none {α : Type} {z : α} {p : α → Bool} {l : List α} (h : ∀ j, j < l.length → p (l.getD j z) = false) : findIxG p l = -1 := by
  have e : l.findIdx? p = none := by
    rw [List.findIdx?_eq_none_iff]
    intro x hx
    obtain ⟨j, hj, rfl⟩ := List.getElem_of_mem hx
    have := h j hj
    simpa [List.getD, hj] using this
  rw [findIxG, e]
theorem findIxG_any {α : Type} (p : α → Bool) (l : List α) : decide (findIxG p l ≥ 0) = l.any p := by
  unfold findIxG
  rw [Bool.eq_iff_iff, decide_eq_true_iff, List.any_eq_true]
  cases e : l.findIdx? p with
  | none =>
    rw [List.findIdx?_eq_none_iff] at e
    simp only [ge_iff_le]
    constructor
    · intro h; omega
    · rintro ⟨x, hx, hp⟩
      rw [e x hx] at hp
      cases hp
  | some i =>
    obtain ⟨hi, hp, _⟩ := List.findIdx?_eq_some_iff_getElem.1 e
    simp only [ge_iff_le]
    exact ⟨fun _ => ⟨_, List.getElem_mem hi, hp⟩, fun _ => by omega⟩
set_option maxHeartbeats 4000000 in
set_option maxRecDepth 100000 in
theorem indexPut (A0 : Option Addr) (c0 : Nat) (l0 : List S54) (w : World) (hr0 : Kd.C k54 w A0 l0.length l0) (hc0 : l0.length ≤ c0) :
    Calls Try.prog 104 #[.slice A0 l0.length c0, .func (.func 93) #[] #[]] w fun e w' => e = .returned (.int .i64 (findIxG (fun x => !putB x) l0)) ∧ Below w.heap.size w w' := by
  have HR0 := Aside0.mk hr0
  have HC0 := Aside0.mk hc0
  have HM := Aside0.mk (Kd.C_max hr0)
  clear hr0 hc0
  go_enter Try.func104, Try.ntmps104
  go_wp2
  repeat (go_quiet (fail); try go_wp2)
  go_loopg [8] l0.length (fun kq v8 w' => ∃ (i : Nat), v8 = .int .i64 (i : Int) ∧ Aside0 (i + kq = l0.length) ∧ Aside0 (∀ j, j < i → (fun x => !putB x) (l0.getD j z54) = false) ∧ Aside0 (Below w.heap.size w w'))
  case atStart => exact ⟨0, rfl, ⟨Nat.zero_add _⟩, ⟨fun j hj => by omega⟩, ⟨by repeat (first | exact Below.refl _ _ | apply below_alloc | apply pw_below_drewN | apply below_drew1)⟩⟩
  case round =>
    obtain ⟨i, rfl, HI, HF, HB⟩ := hrel
    by_cases c1 : i < l0.length
    · have c1b0 : decide ((i : Int) < (l0.length : Int)) = true := decide_eq_true (by omega)
      have p1 : (0 : Int) ≤ (i : Int) := by omega
      have q1 : (i : Int) < (l0.length : Int) := by omega
      have hm := HM.out
      have hw1 : wrap64 ((i : Int) + 1) = ((i + 1 : Nat) : Int) := by unfold wrap64; omega
      have HW := Aside0.mk hw1
      clear hm hw1
      obtain ⟨ad, e1, hx_0, hx_1, hx_2⟩ := at_T54 HR0.out (i : Int) p1 q1
      cases e1
      simp only [Int.toNat_natCast, rd_T54] at hx_0 hx_1 hx_2
      replace hx_0 := (HB.out.cell (World.block_lt_of_cell? w _ hx_0)).trans hx_0
      replace hx_1 := (HB.out.cell (World.block_lt_of_cell? w _ hx_1)).trans hx_1
      replace hx_2 := (HB.out.cell (World.block_lt_of_cell? w _ hx_2)).trans hx_2
      replace p1 := eq_true p1
      replace q1 := eq_true q1
      obtain ⟨x, hE⟩ : ∃ x, x = l0.getD i z54 := ⟨_, rfl⟩
      rw [← hE] at hx_0 hx_1 hx_2
      have HE := Aside0.mk hE
      clear hE
      by_cases c2 : (!putB x) = true
      · have hfin := findIxG_at (p := (fun x => !putB x)) (z := z54) HF.out c1 (by rw [← HE.out]; exact c2)
        have HFIN := Aside0.mk hfin
        have HC := Aside0.mk c2
        clear hfin c2
        go_wp2_with (first | (go_at_call 93; refine (putPred x _).mono ?_; rintro e w9 ⟨rfl, hb⟩; rw [HC.out]; have n0_ := Aside0.mk (below_step (by repeat (first | (with_reducible first | exact HB.out | apply below_alloc | apply pw_below_drewN | apply below_drew1) | exact HB.out)) hb); clear HB; have HB := n0_; clear n0_ hb))
        go_ret
        exact ⟨by rw [HFIN.out]; rfl, (by repeat (first | (with_reducible first | exact HB.out | apply below_alloc | apply pw_below_drewN | apply below_drew1) | exact HB.out))⟩
      · have c2 : (!putB x) = false := by simpa using c2
        have HF1 : Aside0 (∀ j, j < i + 1 → (fun x => !putB x) (l0.getD j z54) = false) := ⟨fun j hj => by
          by_cases e : j = i
          · rw [e, ← HE.out]; exact c2
          · exact HF.out j (by omega)⟩
        have HC := Aside0.mk c2
        clear c2
        go_wp2_with (first | (go_at_call 93; refine (putPred x _).mono ?_; rintro e w9 ⟨rfl, hb⟩; rw [HC.out]; have n0_ := Aside0.mk (below_step (by repeat (first | (with_reducible first | exact HB.out | apply below_alloc | apply pw_below_drewN | apply below_drew1) | exact HB.out)) hb); clear HB; have HB := n0_; clear n0_ hb))
        go_roundg (gk - 1)
        case measure => have := HI.out; omega
        case rel => exact ⟨i + 1, by rw [← HW.out], ⟨by have := HI.out; omega⟩, HF1, ⟨(by repeat (first | (with_reducible first | exact HB.out | apply below_alloc | apply pw_below_drewN | apply below_drew1) | exact HB.out))⟩⟩
    · have c1b0 : decide ((i : Int) < (l0.length : Int)) = false := decide_eq_false (by omega)
      have hfin := findIxG_none (p := (fun x => !putB x)) (l := l0) (z := z54) (fun j hj => HF.out j (by omega))
      have HFIN := Aside0.mk hfin
      clear hfin
      go_wp2
      go_ret
      exact ⟨by rw [HFIN.out]; rfl, (by repeat (first | (with_reducible first | exact HB.out | apply below_alloc | apply pw_below_drewN | apply below_drew1) | exact HB.out))⟩
set_option maxHeartbeats 4000000 in
theorem containsPut (A0 : Option Addr) (c0 : Nat) (l0 : List S54) (w : World) (hr0 : Kd.C k54 w A0 l0.length l0) (hc0 : l0.length ≤ c0) :
    Calls Try.prog 92 #[.slice A0 l0.length c0, .func (.func 93) #[] #[]] w fun e w' => e = .returned (.bool (l0.any (fun x => !putB x))) ∧ Below w.heap.size w w' := by
  have HI := Aside0.mk (indexPut A0 c0 l0 w hr0 hc0)
  have HR := Aside0.mk (findIxG_any (fun x => !putB x) l0)
  clear hr0 hc0
  go_enter Try.func92, Try.ntmps92
  go_wp2_with (first | (go_at_call 104; refine HI.out.mono ?_; rintro e w9 ⟨rfl, hb⟩; have HB := Aside0.mk hb; clear hb))
  go_ret
  exact ⟨by have hr := HR.out; simp only [ge_iff_le] at hr; first | (rw [← hr]; rfl) | (simp [← hr]; done), (by repeat (first | (with_reducible first | exact HB.out | apply below_alloc | apply pw_below_drewN | apply below_drew1) | exact HB.out))⟩
set_option maxHeartbeats 4000000 in
set_option maxRecDepth 100000 in
theorem indexText (A0 : Option Addr) (c0 : Nat) (l0 : List ByteArray) (w : World) (hr0 : Kd.C Kd.string w A0 l0.length l0) (hc0 : l0.length ≤ c0) :
    Calls Try.prog 105 #[.slice A0 l0.length c0, .func (.func 96) #[] #[]] w fun e w' => e = .returned (.int .i64 (findIxG (fun x : ByteArray => decide ((x.size : Int) > 700)) l0)) ∧ Below w.heap.size w w' := by
  have HR0 := Aside0.mk hr0
  have HC0 := Aside0.mk hc0
  have HM := Aside0.mk (Kd.C_max hr0)
  clear hr0 hc0
  go_enter Try.func105, Try.ntmps105
  go_wp2
  repeat (go_quiet (fail); try go_wp2)
  go_loopg [8] l0.length (fun kq v8 w' => ∃ (i : Nat), v8 = .int .i64 (i : Int) ∧ Aside0 (i + kq = l0.length) ∧ Aside0 (∀ j, j < i → (fun x : ByteArray => decide ((x.size : Int) > 700)) (l0.getD j ByteArray.empty) = false) ∧ Aside0 (Below w.heap.size w w'))
  case atStart => exact ⟨0, rfl, ⟨Nat.zero_add _⟩, ⟨fun j hj => by omega⟩, ⟨by repeat (first | exact Below.refl _ _ | apply below_alloc | apply pw_below_drewN | apply below_drew1)⟩⟩
  case round =>
    obtain ⟨i, rfl, HI, HF, HB⟩ := hrel
    by_cases c1 : i < l0.length
    · have c1b0 : decide ((i : Int) < (l0.length : Int)) = true := decide_eq_true (by omega)
      have p1 : (0 : Int) ≤ (i : Int) := by omega
      have q1 : (i : Int) < (l0.length : Int) := by omega
      have hm := HM.out
      have hw1 : wrap64 ((i : Int) + 1) = ((i + 1 : Nat) : Int) := by unfold wrap64; omega
      have HW := Aside0.mk hw1
      clear hm hw1
      obtain ⟨ad, e1, hx_0⟩ := Kd.at_string HR0.out (i : Int) p1 q1
      cases e1
      simp only [Int.toNat_natCast, rdOf] at hx_0
      replace hx_0 := (HB.out.cell (World.block_lt_of_cell? w _ hx_0)).trans hx_0
      replace p1 := eq_true p1
      replace q1 := eq_true q1
      obtain ⟨x, hE⟩ : ∃ x, x = l0.getD i ByteArray.empty := ⟨_, rfl⟩
      rw [← hE] at hx_0
      have HE := Aside0.mk hE
      clear hE
      by_cases c2 : decide ((x.size : Int) > 700) = true
      · have hfin := findIxG_at (p := (fun x : ByteArray => decide ((x.size : Int) > 700))) (z := ByteArray.empty) HF.out c1 (by rw [← HE.out]; exact c2)
        have HFIN := Aside0.mk hfin
        have HC := Aside0.mk c2
        clear hfin c2
        go_wp2_with (first | (go_at_call 96; refine (textPred x _).mono ?_; rintro e w9 ⟨rfl, hb⟩; rw [HC.out]; have n0_ := Aside0.mk (below_step (by repeat (first | (with_reducible first | exact HB.out | apply below_alloc | apply pw_below_drewN | apply below_drew1) | exact HB.out)) hb); clear HB; have HB := n0_; clear n0_ hb))
        go_ret
        exact ⟨by rw [HFIN.out]; rfl, (by repeat (first | (with_reducible first | exact HB.out | apply below_alloc | apply pw_below_drewN | apply below_drew1) | exact HB.out))⟩
      · have c2 : decide ((x.size : Int) > 700) = false := by simpa using c2
        have HF1 : Aside0 (∀ j, j < i + 1 → (fun x : ByteArray => decide ((x.size : Int) > 700)) (l0.getD j ByteArray.empty) = false) := ⟨fun j hj => by
          by_cases e : j = i
          · rw [e, ← HE.out]; exact c2
          · exact HF.out j (by omega)⟩
        have HC := Aside0.mk c2
        clear c2
        go_wp2_with (first | (go_at_call 96; refine (textPred x _).mono ?_; rintro e w9 ⟨rfl, hb⟩; rw [HC.out]; have n0_ := Aside0.mk (below_step (by repeat (first | (with_reducible first | exact HB.out | apply below_alloc | apply pw_below_drewN | apply below_drew1) | exact HB.out)) hb); clear HB; have HB := n0_; clear n0_ hb))
        go_roundg (gk - 1)
        case measure => have := HI.out; omega
        case rel => exact ⟨i + 1, by rw [← HW.out], ⟨by have := HI.out; omega⟩, HF1, ⟨(by repeat (first | (with_reducible first | exact HB.out | apply below_alloc | apply pw_below_drewN | apply below_drew1) | exact HB.out))⟩⟩
    · have c1b0 : decide ((i : Int) < (l0.length : Int)) = false := decide_eq_false (by omega)
      have hfin := findIxG_none (p := (fun x : ByteArray => decide ((x.size : Int) > 700))) (l := l0) (z := ByteArray.empty) (fun j hj => HF.out j (by omega))
      have HFIN := Aside0.mk hfin
      clear hfin
      go_wp2
      go_ret
      exact ⟨by rw [HFIN.out]; rfl, (by repeat (first | (with_reducible first | exact HB.out | apply below_alloc | apply pw_below_drewN | apply below_drew1) | exact HB.out))⟩
set_option maxHeartbeats 4000000 in
theorem containsText (A0 : Option Addr) (c0 : Nat) (l0 : List ByteArray) (w : World) (hr0 : Kd.C Kd.string w A0 l0.length l0) (hc0 : l0.length ≤ c0) :
    Calls Try.prog 95 #[.slice A0 l0.length c0, .func (.func 96) #[] #[]] w fun e w' => e = .returned (.bool (l0.any (fun x : ByteArray => decide ((x.size : Int) > 700)))) ∧ Below w.heap.size w w' := by
  have HI := Aside0.mk (indexText A0 c0 l0 w hr0 hc0)
  have HR := Aside0.mk (findIxG_any (fun x : ByteArray => decide ((x.size : Int) > 700)) l0)
  clear hr0 hc0
  go_enter Try.func95, Try.ntmps95
  go_wp2_with (first | (go_at_call 105; refine HI.out.mono ?_; rintro e w9 ⟨rfl, hb⟩; have HB := Aside0.mk hb; clear hb))
  go_ret
  exact ⟨by have hr := HR.out; simp only [ge_iff_le] at hr; first | (rw [← hr]; rfl) | (simp [← hr]; done), (by repeat (first | (with_reducible first | exact HB.out | apply below_alloc | apply pw_below_drewN | apply below_drew1) | exact HB.out))⟩
end Go.Proofs.Ytkgpnloghmbmlaa.Print
namespace Go.Proofs.Ytkgpnloghmbmlaa.Drv
open Go.RowKit Go.Proofs.Ytkgpnloghmbmlaa.Print Go.Proofs.YtkgpnloghmbmlaaW.PrintWords
set_option linter.unusedVariables false
abbrev Pt := S54
def Node (w : World) (b : Nat) (p : Pt) (nx : Value) : Prop := w.heap[b]? = some (.cells #[.bool p.f0, .int .i64 p.f1, .string p.f2, nx] 112 (0, 0))
def toN : List (Nat × Pt) → Value → Value
  | [], e => e
  | x :: _, _ => .pointer (some ⟨x.1, 0, none⟩)
theorem toN_append (a b : List (Nat × Pt)) (e : Value) : toN (a ++ b) e = toN a (toN b e) := by cases a <;> rfl
def Seg (w : World) : Nat → List (Nat × Pt) → Value → Prop
  | _, [], _ => True
  | lo, x :: r, e => lo < x.1 ∧ Node w x.1 x.2 (toN r e) ∧ Seg w x.1 r e
def lastN : Nat → List (Nat × Pt) → Nat
  | lo, [] => lo
  | _, x :: r => lastN x.1 r
theorem lastN_snoc (x : Nat × Pt) : ∀ (lo : Nat) (ns : List (Nat × Pt)), lastN lo (ns ++ [x]) = x.1
  | _, [] => rfl
  | _, y :: r => lastN_snoc x y.1 r
theorem Seg.le {w : World} {e : Value} : ∀ {lo : Nat} {ns : List (Nat × Pt)}, Seg w lo ns e → lo ≤ lastN lo ns
  | _, [], _ => Nat.le_refl _
  | lo, x :: r, h => Nat.le_trans (Nat.le_of_lt h.1) (Seg.le h.2.2)
theorem Seg.lt {w : World} {e : Value} : ∀ {lo : Nat} {ns : List (Nat × Pt)}, Seg w lo ns e → lo < w.heap.size → lastN lo ns < w.heap.size
  | _, [], _, h => h
  | lo, x :: r, h, _ => (Seg.lt (lo := x.1) (ns := r) h.2.2 (blk_lt h.2.1) : lastN x.1 r < w.heap.size)
theorem Seg.mono {w : World} {e : Value} {lo lo' : Nat} {ns : List (Nat × Pt)} (h : Seg w lo ns e) (hl : lo' ≤ lo) : Seg w lo' ns e := by
  cases ns with
  | nil => trivial
  | cons x r => exact ⟨Nat.lt_of_le_of_lt hl h.1, h.2⟩
theorem Seg.keep {w w' : World} {e : Value} : ∀ {lo : Nat} {ns : List (Nat × Pt)}, Seg w lo ns e → (∀ k, lo < k → k ≤ lastN lo ns → w'.heap[k]? = w.heap[k]?) → Seg w' lo ns e
  | _, [], _, _ => trivial
  | lo, x :: r, h, hk => ⟨h.1, (hk _ h.1 (Seg.le h.2.2)).trans h.2.1, Seg.keep h.2.2 fun k h1 h2 => hk k (Nat.lt_trans h.1 h1) h2⟩
theorem Seg.append {w : World} {e : Value} {ms : List (Nat × Pt)} : ∀ {lo : Nat} {ns : List (Nat × Pt)}, Seg w lo (ns ++ ms) e ↔ Seg w lo ns (toN ms e) ∧ Seg w (lastN lo ns) ms e
  | _, [] => ⟨fun h => ⟨trivial, h⟩, fun h => h.2⟩
  | lo, x :: r => by
    simp only [List.cons_append, Seg, lastN, toN_append, Seg.append (lo := x.1) (ns := r)]
    exact ⟨fun h => ⟨⟨h.1, h.2.1, h.2.2.1⟩, h.2.2.2⟩, fun h => ⟨h.1.1, h.1.2.1, h.1.2.2, h.2⟩⟩
def dcells (st : Int) (sp : List Bool) (sl rg : List ByteArray) (fi : Value) : Array Value :=
  (.int .i64 st :: (sp.map Value.bool ++ (sl.map Value.string ++ (rg.map Value.string ++ [fi])))).toArray
structure Drv (w : World) (g : Nat) (st : Int) (sp : List Bool) (sl rg : List ByteArray) (ns : List (Nat × Pt)) : Prop where
  blk : w.heap[g]? = some (.cells (dcells st sp sl rg (toN ns (.pointer none))) 80 (0, 0))
  seg : Seg w g ns (.pointer none)
  lsp : sp.length = 12
  lsl : sl.length = 12
  lrg : rg.length = 2
section
variable {st : Int} {sp : List Bool} {sl rg : List ByteArray} {fi : Value}
theorem dc_st : (dcells st sp sl rg fi)[0]? = some (.int .i64 st) := by simp [dcells]
theorem dc_sp (hsp : sp.length = 12) {i : Nat} (hi : i < 12) : (dcells st sp sl rg fi)[1 + i]? = some (.bool (sp.getD i false)) := by
  have : i < sp.length := by omega
  simp [dcells, Nat.add_comm 1 i, List.getElem?_append, this, List.getD]
theorem dc_sl (hsp : sp.length = 12) (hsl : sl.length = 12) {i : Nat} (hi : i < 12) : (dcells st sp sl rg fi)[13 + i]? = some (.string (sl.getD i ByteArray.empty)) := by
  have h1 : i < sl.length := by omega
  have e : 13 + i = (12 + i) + 1 := by omega
  have h3 : ¬ 12 + i < sp.length := by omega
  have h4 : 12 + i - sp.length = i := by omega
  rw [e]
  simp [dcells, List.getElem?_append, h1, h3, h4, List.getD]
theorem dc_rg (hsp : sp.length = 12) (hsl : sl.length = 12) (hrg : rg.length = 2) {i : Nat} (hi : i < 2) : (dcells st sp sl rg fi)[25 + i]? = some (.string (rg.getD i ByteArray.empty)) := by
  have h1 : i < rg.length := by omega
  have e : 25 + i = (24 + i) + 1 := by omega
  have h3 : ¬ 24 + i < sp.length := by omega
  have h4 : 24 + i - sp.length = 12 + i := by omega
  have h5 : ¬ 12 + i < sl.length := by omega
  have h6 : 12 + i - sl.length = i := by omega
  rw [e]
  simp [dcells, List.getElem?_append, h1, h3, h4, h5, h6, List.getD]
theorem dc_fi (hsp : sp.length = 12) (hsl : sl.length = 12) (hrg : rg.length = 2) : (dcells st sp sl rg fi)[27]? = some fi := by
  simp [dcells, hsp, hsl, hrg]
theorem set_fi (hsp : sp.length = 12) (hsl : sl.length = 12) (hrg : rg.length = 2) (v : Value) : (dcells st sp sl rg fi).setIfInBounds 27 v = dcells st sp sl rg v := by
  simp [dcells, hsp, hsl, hrg]
end
def linkOf (g : Nat) : List (Nat × Pt) → Addr
  | [] => ⟨g, 27, none⟩
  | x :: r => ⟨lastN x.1 r, 3, none⟩
theorem Drv.keep {w w' : World} {g : Nat} {st : Int} {sp : List Bool} {sl rg : List ByteArray} {ns : List (Nat × Pt)} (h : Drv w g st sp sl rg ns) (hk : ∀ k, g ≤ k → k < w.heap.size → w'.heap[k]? = w.heap[k]?) : Drv w' g st sp sl rg ns :=
  ⟨(hk g (Nat.le_refl _) (blk_lt h.blk)).trans h.blk, h.seg.keep (fun k h1 h2 => hk k (Nat.le_of_lt h1) (Nat.lt_of_le_of_lt h2 (h.seg.lt (blk_lt h.blk)))), h.lsp, h.lsl, h.lrg⟩
theorem Drv.below {w w' : World} {g : Nat} {st : Int} {sp : List Bool} {sl rg : List ByteArray} {ns : List (Nat × Pt)} (h : Drv w g st sp sl rg ns) (hk : Below w.heap.size w w') : Drv w' g st sp sl rg ns :=
  h.keep fun k _ h2 => hk.block k h2
theorem Drv.own {w : World} {g : Nat} {st : Int} {sp : List Bool} {sl rg : List ByteArray} {ns : List (Nat × Pt)} (h : Drv w g st sp sl rg ns) {j : Nat} {v : Value} {sp' : List Bool} {sl' rg' : List ByteArray} {ms : List (Nat × Pt)}
    (e : (dcells st sp sl rg (toN ns (.pointer none))).setIfInBounds j v = dcells st sp' sl' rg' (toN ms (.pointer none))) (hs : Seg w g ms (.pointer none)) (h1 : sp'.length = 12) (h2 : sl'.length = 12) (h3 : rg'.length = 2) :
    Drv (w.setCell ⟨g, j, none⟩ v) g st sp' sl' rg' ms :=
  ⟨e ▸ blk_set h.blk j v, hs.keep (fun k h1 _ => Below.heap_setCell w ⟨g, j, none⟩ v k (by show k ≠ g; omega)), h1, h2, h3⟩
theorem Drv.drop {w : World} {g : Nat} {st : Int} {sp : List Bool} {sl rg : List ByteArray} {x : Nat × Pt} {ns : List (Nat × Pt)} (h : Drv w g st sp sl rg (x :: ns)) : Drv (w.setCell ⟨g, 27, none⟩ (toN ns (.pointer none))) g st sp sl rg ns :=
  h.own (set_fi h.lsp h.lsl h.lrg _) (h.seg.2.2.mono (Nat.le_of_lt h.seg.1)) h.lsp h.lsl h.lrg
theorem Drv.link {w : World} {g : Nat} {st : Int} {sp : List Bool} {sl rg : List ByteArray} {ns ms : List (Nat × Pt)} (h : Drv w g st sp sl rg (ns ++ ms)) : w.cell? (linkOf g ns) = some (toN ms (.pointer none)) := by
  rcases List.eq_nil_or_concat ns with rfl | ⟨r, x, rfl⟩
  · exact (blk_cell h.blk 27).trans (dc_fi h.lsp h.lsl h.lrg)
  · have hs := (Seg.append.1 h.seg).1
    have hx := (Seg.append.1 (by simpa using hs : Seg w g (r ++ [x]) _)).2
    have e : linkOf g (r ++ [x]) = ⟨x.1, 3, none⟩ := by
      cases r with
      | nil => rfl
      | cons y r => exact congrArg (fun b => (⟨b, 3, none⟩ : Addr)) (lastN_snoc x y.1 r)
    simp only [List.concat_eq_append, e]
    exact (blk_cell hx.2.1 3).trans rfl
theorem Drv.linkFree {w : World} {g : Nat} {st : Int} {sp : List Bool} {sl rg : List ByteArray} {ns ms : List (Nat × Pt)} (h : Drv w g st sp sl rg (ns ++ ms)) : w.frozen? (linkOf g ns) = false := by
  rcases List.eq_nil_or_concat ns with rfl | ⟨r, x, rfl⟩
  · exact blk_frozen h.blk 27
  · have hs := (Seg.append.1 h.seg).1
    have hx := (Seg.append.1 (by simpa using hs : Seg w g (r ++ [x]) _)).2
    have e : linkOf g (r ++ [x]) = ⟨x.1, 3, none⟩ := by
      cases r with
      | nil => rfl
      | cons y r => exact congrArg (fun b => (⟨b, 3, none⟩ : Addr)) (lastN_snoc x y.1 r)
    simp only [List.concat_eq_append, e]
    exact blk_frozen hx.2.1 3
theorem Drv.hang {w : World} {g n : Nat} {p : Pt} {st : Int} {sp : List Bool} {sl rg : List ByteArray} {ns : List (Nat × Pt)} (h : Drv w g st sp sl rg ns) (hn : Node w n p (.pointer none)) (hl : lastN g ns < n) :
    Drv (w.setCell (linkOf g ns) (.pointer (some ⟨n, 0, none⟩))) g st sp sl rg (ns ++ [(n, p)]) := by
  rcases List.eq_nil_or_concat ns with rfl | ⟨r, x, rfl⟩
  · refine ⟨?_, ⟨hl, (Below.heap_setCell w _ _ n (by show n ≠ g; have : g < n := hl; omega)).trans hn, trivial⟩, h.lsp, h.lsl, h.lrg⟩
    have := blk_set h.blk 27 (.pointer (some ⟨n, 0, none⟩))
    rw [set_fi h.lsp h.lsl h.lrg] at this
    exact this
  · simp only [List.concat_eq_append] at h hl ⊢
    have e : linkOf g (r ++ [x]) = ⟨x.1, 3, none⟩ := by
      cases r with
      | nil => rfl
      | cons y r => exact congrArg (fun b => (⟨b, 3, none⟩ : Addr)) (lastN_snoc x y.1 r)
    rw [lastN_snoc] at hl
    obtain ⟨h1, h2⟩ := Seg.append.1 h.seg
    have hg : g ≤ lastN g r := h1.le
    have hx : lastN g r < x.1 := h2.1
    have far : ∀ k, k ≠ x.1 → (w.setCell (linkOf g (r ++ [x])) (.pointer (some ⟨n, 0, none⟩))).heap[k]? = w.heap[k]? := fun k hk => by
      rw [e]
      exact Below.heap_setCell w _ _ k hk
    refine ⟨(far g (by omega)).trans ?_, Seg.append.2 ⟨Seg.append.2 ⟨h1.keep fun k _ hk => far k (by omega), hx, ?_, trivial⟩, ?_, (far n (by omega)).trans hn, trivial⟩, h.lsp, h.lsl, h.lrg⟩
    · have := h.blk
      simp only [toN_append] at this ⊢
      exact this
    · rw [e]
      exact blk_set h2.2.1 3 _
    · rw [lastN_snoc]
      exact hl
theorem linkOf_block (g : Nat) (ns : List (Nat × Pt)) : (linkOf g ns).block = lastN g ns := by cases ns <;> rfl
theorem linkOf_snoc (g n : Nat) (p : Pt) (ns : List (Nat × Pt)) : linkOf g (ns ++ [(n, p)]) = ⟨n, 3, none⟩ := by
  cases ns with
  | nil => rfl
  | cons y r => exact congrArg (fun b => (⟨b, 3, none⟩ : Addr)) (lastN_snoc (n, p) y.1 r)
theorem Drv.keepL {w w' : World} {g : Nat} {st : Int} {sp : List Bool} {sl rg : List ByteArray} {ns : List (Nat × Pt)} (h : Drv w g st sp sl rg ns) (hk : ∀ k, g ≤ k → k ≤ lastN g ns → w'.heap[k]? = w.heap[k]?) : Drv w' g st sp sl rg ns :=
  ⟨(hk g (Nat.le_refl _) h.seg.le).trans h.blk, h.seg.keep (fun k h1 h2 => hk k (Nat.le_of_lt h1) h2), h.lsp, h.lsl, h.lrg⟩
theorem Drv.far {w : World} {g : Nat} {st : Int} {sp : List Bool} {sl rg : List ByteArray} {ns : List (Nat × Pt)} (h : Drv w g st sp sl rg ns) {p : Addr} (hp : lastN g ns < p.block) (v : Value) : Drv (w.setCell p v) g st sp sl rg ns :=
  h.keepL fun k _ hk => Below.heap_setCell w p v k (by omega)
theorem Drv.last_lt {w : World} {g : Nat} {st : Int} {sp : List Bool} {sl rg : List ByteArray} {ns : List (Nat × Pt)} (h : Drv w g st sp sl rg ns) : lastN g ns < w.heap.size := h.seg.lt (blk_lt h.blk)
theorem Drv.linkE {w : World} {g : Nat} {st : Int} {sp : List Bool} {sl rg : List ByteArray} {ns : List (Nat × Pt)} (h : Drv w g st sp sl rg ns) : w.cell? (linkOf g ns) = some (.pointer none) := Drv.link (ms := []) (by rw [List.append_nil]; exact h)
theorem Drv.linkFreeE {w : World} {g : Nat} {st : Int} {sp : List Bool} {sl rg : List ByteArray} {ns : List (Nat × Pt)} (h : Drv w g st sp sl rg ns) : w.frozen? (linkOf g ns) = false := Drv.linkFree (ms := []) (by rw [List.append_nil]; exact h)
theorem eqItems_strs {P : Program} {e : TypeId} (he : P.underlying e = some .string) (hc : P.cellsOf e = 1) (d : Nat) (w : World) (xs ys : List ByteArray) : ∀ is : List Nat, (∀ i ∈ is, i < xs.length ∧ i < ys.length) →
    (Op.eqItems (d + 1) e (P.cellsOf e) (xs.map Value.string).toArray (ys.map Value.string).toArray is).run P w = .ok (is.all fun i => (xs.getD i ByteArray.empty).toList == (ys.getD i ByteArray.empty).toList) w
  | [], _ => by simp [Op.eqItems]
  | i :: is, h => by
    obtain ⟨h1, h2⟩ := h i (by simp)
    have hk : P.plainKey e = true := by simp [Program.plainKey, he]
    have p1 : (part e (xs.map Value.string).toArray (i * P.cellsOf e)).run P w = .ok (.string (xs.getD i ByteArray.empty)) w := run_part_plain w hk (by simp [hc, h1, List.getD])
    have p2 : (part e (ys.map Value.string).toArray (i * P.cellsOf e)).run P w = .ok (.string (ys.getD i ByteArray.empty)) w := run_part_plain w hk (by simp [hc, h2, List.getD])
    simp only [Op.eqItems, Sem.run_bind, p1, p2, Result.andThen_ok, run_equalIn_string w d e _ _ he, List.all_cons]
    generalize hb : ((xs.getD i ByteArray.empty).toList == (ys.getD i ByteArray.empty).toList) = b
    cases b
    · simp
    · simpa using eqItems_strs he hc d w xs ys is (fun j hj => h j (by simp [hj]))
theorem equal_strs {P : Program} {t e : TypeId} {n : Nat} (ht : P.underlying t = some (.array n e)) (he : P.underlying e = some .string) (hc : P.cellsOf e = 1) (w : World) (xs : List ByteArray) (hx : xs.length = n) :
    (Op.equalIn 10000 t (.agg (xs.map Value.string).toArray) (.agg ((List.replicate n ByteArray.empty).map Value.string).toArray)).run P w = .ok (xs.all fun s => s.size == 0) w := by
  obtain ⟨i, hi⟩ := info_of_underlying he
  rw [run_equalIn_array w 9999 _ _ ht hi, eqItems_strs he hc 9998 w xs _ (List.range n) (fun i hi => by simp at hi; simp; omega)]
  congr 1
  rw [Bool.eq_iff_iff, List.all_eq_true, List.all_eq_true]
  constructor
  · intro h s hs
    obtain ⟨j, hj, rfl⟩ := List.getElem_of_mem hs
    have := h j (by simp; omega)
    have hj2 : j < n := by omega
    simp [List.getD, hj, hj2, ByteArray.toList_eq] at this
    simp [ByteArray.size, this]
  · intro h j hj
    simp only [List.mem_range] at hj
    have hj1 : j < xs.length := by omega
    have := h _ (List.getElem_mem hj1)
    have h2 : xs[j] = ByteArray.empty := by
      have : xs[j].size = 0 := by simpa using this
      exact ByteArray.ext (Array.eq_empty_of_size_eq_zero this)
    simp [List.getD, hj1, hj, h2]
end Go.Proofs.Ytkgpnloghmbmlaa.Drv
namespace Go.Proofs.Ytkgpnloghmbmlaa.Print
open Go.RowKit Go.Proofs.YtkgpnloghmbmlaaW.PrintWords Go.Proofs.YtkgpnloghmbmlaaW.PrintLast Go.Proofs.YtkgpnloghmbmlaaW.PrintMore Go.Proofs.Ytkgpnloghmbmlaa.Drv
set_option linter.unusedVariables false
set_option linter.unusedSimpArgs false
def Shaped (st : Int) (sl rg : List ByteArray) (sp : List Bool) (wt : List S54) : Prop := (0 ≤ st ∧ st ≤ 2) ∧ sl.length = 12 ∧ rg.length = 2 ∧ sp.length = 12 ∧ wt.length ≤ 40
instance (st : Int) (sl rg : List ByteArray) (sp : List Bool) (wt : List S54) : Decidable (Shaped st sl rg sp wt) := by unfold Shaped; infer_instance
theorem shaped_eq (st : Int) (sl rg : List ByteArray) (sp : List Bool) (wt : List S54) : impl_Disk_shaped.f st sl rg sp wt = some (decide (Shaped st sl rg sp wt)) := by
  unfold impl_Disk_shaped.f impl_isState.f
  by_cases h0 : st ≥ 0
  · rw [if_pos h0]
    simp only [Option.bind_some]
    by_cases h1 : st ≤ 2
    · rw [if_pos (decide_eq_true h1)]
      by_cases h2 : (sl.length : Int) = 12
      · rw [if_pos h2]
        by_cases h3 : (rg.length : Int) = 2
        · rw [if_pos h3]
          by_cases h4 : (sp.length : Int) = 12
          · rw [if_pos h4]
            congr 1
            rw [Bool.eq_iff_iff, decide_eq_true_iff, decide_eq_true_iff]
            unfold Shaped
            omega
          · rw [if_neg h4, decide_eq_false (by unfold Shaped; omega)]
        · rw [if_neg h3, decide_eq_false (by unfold Shaped; omega)]
      · rw [if_neg h2, decide_eq_false (by unfold Shaped; omega)]
    · rw [decide_eq_false h1, if_neg (by decide), decide_eq_false (by unfold Shaped; omega)]
  · rw [if_neg h0]
    simp only [Option.bind_some]
    rw [if_neg (by decide), decide_eq_false (by unfold Shaped; omega)]
def badSlot (t : ByteArray) (s : Bool) : Bool := if t.size = 0 then s else decide (t.size ≠ 3)
structure Good (st : Int) (sl rg : List ByteArray) (sp : List Bool) (wt : List S54) : Prop where
  sh : Shaped st sl rg sp wt
  wa : wt.any (fun x => !putB x) = false
  so : ∀ i, i < 12 → badSlot (sl.getD i ByteArray.empty) (sp.getD i false) = false
  ro : rg.any (fun x : ByteArray => decide ((x.size : Int) > 700)) = false
  go : st = 1 → sl.all (fun x => x.size == 0) = true ∧ rg.all (fun x => x.size == 0) = true ∧ wt.length = 0
set_option maxHeartbeats 4000000 in
set_option maxRecDepth 100000 in
theorem readDisk_shape (st : Int) (A1 : Option Addr) (c1 : Nat) (sl : List ByteArray) (A2 : Option Addr) (c2 : Nat) (rg : List ByteArray) (A3 : Option Addr) (c3 : Nat) (sp : List Bool) (A4 : Option Addr) (c4 : Nat) (wt : List S54) (w : World) (hr1 : Kd.C Kd.string w A1 sl.length sl) (hc1 : sl.length ≤ c1) (hr2 : Kd.C Kd.string w A2 rg.length rg) (hc2 : rg.length ≤ c2) (hr3 : Kd.C Kd.bool w A3 sp.length sp) (hc3 : sp.length ≤ c3) (hr4 : Kd.C k54 w A4 wt.length wt) (hc4 : wt.length ≤ c4) (hbad : ¬ Shaped st sl rg sp wt) :
    Calls Try.prog 52 #[.agg #[.int .i64 st, .slice A1 sl.length c1, .slice A2 rg.length c2, .slice A3 sp.length c3, .slice A4 wt.length c4]] w fun e w' => e = .returned (.tuple #[.pointer none, .bool false]) ∧ Below w.heap.size w w' := by
  have hu28 := Try.underlying28
  have HS := Aside0.mk (fun (W : World) (hb : Below w.heap.size w W) => impl_Disk_shaped.calls st _ _ sl _ _ rg _ _ sp _ _ wt _ W (Kd.C_below hr1 hb) hc1 (Kd.C_below hr2 hb) hc2 (Kd.C_below hr3 hb) hc3 (Kd.C_below hr4 hb) hc4 (shaped_eq st sl rg sp wt))
  have HW := Aside0.mk (fun (W : World) (hb : Below w.heap.size w W) => containsPut A4 c4 wt W (Kd.C_below hr4 hb) hc4)
  have HG := Aside0.mk (fun (W : World) (hb : Below w.heap.size w W) => containsText A2 c2 rg W (Kd.C_below hr2 hb) hc2)
  have HR1 := Aside0.mk hr1
  have HR2 := Aside0.mk hr2
  have HR3 := Aside0.mk hr3
  have HR4 := Aside0.mk hr4
  have HM := Aside0.mk (Kd.C_max hr4)
  clear hr1 hr2 hr3 hr4 hc1 hc2 hc3 hc4
  have HB := Aside0.mk (Below.refl w.heap.size w)
  rw [decide_eq_false hbad] at HS
  clear hbad
  go_enter Try.func52, Try.ntmps52
  go_wp2_with (first | ((with_reducible refine gate_dst (N := 1) rfl ?_); refine box_event ?hg (N := 1) ?hd (cs := #[.int .i64 st, .slice A1 sl.length c1, .slice A2 rg.length c2, .slice A3 sp.length c3, .slice A4 wt.length c4]) (t := 28) ?hr ?_; (case hd => rfl); (case hg => rfl); (case hr => first | (go_simp; done) | (go_simp; rfl)); intro gb hg w1 hbox hb; have n0_ := Aside0.mk (below_step (by repeat (first | (with_reducible first | exact HB.out | apply below_alloc | apply pw_below_drewN | apply below_drew1) | exact HB.out)) hb); have n1_ := Aside0.mk hbox; clear HB; have HB := n0_; have BK := n1_; clear n0_ n1_ hb hbox hg; have hcz_0 : w1.cell? ⟨gb, 0, none⟩ = some (.int .i64 st) := (blk_cell BK.out 0).trans rfl; have hcz_1 : w1.cell? ⟨gb, 1, none⟩ = some (.slice A1 sl.length c1) := (blk_cell BK.out 1).trans rfl; have hcz_2 : w1.cell? ⟨gb, 2, none⟩ = some (.slice A2 rg.length c2) := (blk_cell BK.out 2).trans rfl; have hcz_3 : w1.cell? ⟨gb, 3, none⟩ = some (.slice A3 sp.length c3) := (blk_cell BK.out 3).trans rfl; have hcz_4 : w1.cell? ⟨gb, 4, none⟩ = some (.slice A4 wt.length c4) := (blk_cell BK.out 4).trans rfl) | (go_at_call 91; refine (HS.out _ (by repeat (first | (with_reducible first | exact HB.out | apply below_alloc | apply pw_below_drewN | apply below_drew1) | exact HB.out))).mono ?_; rintro e w9 ⟨rfl, hb⟩; have n0_ := Aside0.mk (below_step (by repeat (first | (with_reducible first | exact HB.out | apply below_alloc | apply pw_below_drewN | apply below_drew1) | exact HB.out)) hb); have n1_ := Aside0.mk (blk_below (g := gb) (o := .cells #[.int .i64 st, .slice A1 sl.length c1, .slice A2 rg.length c2, .slice A3 sp.length c3, .slice A4 wt.length c4] 28 (0, 0)) (by (with_reducible repeat (first | refine blk_drewN ?_ _ | refine blk_drew ?_ | refine blk_alloc ?_ _)); exact BK.out) hb); clear HB BK; have HB := n0_; have BK := n1_; clear n0_ n1_ hb; have hcz_0 : w9.cell? ⟨gb, 0, none⟩ = some (.int .i64 st) := (blk_cell BK.out 0).trans rfl; have hcz_1 : w9.cell? ⟨gb, 1, none⟩ = some (.slice A1 sl.length c1) := (blk_cell BK.out 1).trans rfl; have hcz_2 : w9.cell? ⟨gb, 2, none⟩ = some (.slice A2 rg.length c2) := (blk_cell BK.out 2).trans rfl; have hcz_3 : w9.cell? ⟨gb, 3, none⟩ = some (.slice A3 sp.length c3) := (blk_cell BK.out 3).trans rfl; have hcz_4 : w9.cell? ⟨gb, 4, none⟩ = some (.slice A4 wt.length c4) := (blk_cell BK.out 4).trans rfl))
  go_ret2
  exact ⟨rfl, (by repeat (first | (with_reducible first | exact HB.out | apply below_alloc | apply pw_below_drewN | apply below_drew1) | exact HB.out))⟩
set_option maxHeartbeats 4000000 in
set_option maxRecDepth 100000 in
theorem readDisk_wait (st : Int) (A1 : Option Addr) (c1 : Nat) (sl : List ByteArray) (A2 : Option Addr) (c2 : Nat) (rg : List ByteArray) (A3 : Option Addr) (c3 : Nat) (sp : List Bool) (A4 : Option Addr) (c4 : Nat) (wt : List S54) (w : World) (hr1 : Kd.C Kd.string w A1 sl.length sl) (hc1 : sl.length ≤ c1) (hr2 : Kd.C Kd.string w A2 rg.length rg) (hc2 : rg.length ≤ c2) (hr3 : Kd.C Kd.bool w A3 sp.length sp) (hc3 : sp.length ≤ c3) (hr4 : Kd.C k54 w A4 wt.length wt) (hc4 : wt.length ≤ c4) (hs : Shaped st sl rg sp wt) (hbad : wt.any (fun x => !putB x) = true) :
    Calls Try.prog 52 #[.agg #[.int .i64 st, .slice A1 sl.length c1, .slice A2 rg.length c2, .slice A3 sp.length c3, .slice A4 wt.length c4]] w fun e w' => e = .returned (.tuple #[.pointer none, .bool false]) ∧ Below w.heap.size w w' := by
  have hu28 := Try.underlying28
  have HS := Aside0.mk (fun (W : World) (hb : Below w.heap.size w W) => impl_Disk_shaped.calls st _ _ sl _ _ rg _ _ sp _ _ wt _ W (Kd.C_below hr1 hb) hc1 (Kd.C_below hr2 hb) hc2 (Kd.C_below hr3 hb) hc3 (Kd.C_below hr4 hb) hc4 (shaped_eq st sl rg sp wt))
  have HW := Aside0.mk (fun (W : World) (hb : Below w.heap.size w W) => containsPut A4 c4 wt W (Kd.C_below hr4 hb) hc4)
  have HG := Aside0.mk (fun (W : World) (hb : Below w.heap.size w W) => containsText A2 c2 rg W (Kd.C_below hr2 hb) hc2)
  have HR1 := Aside0.mk hr1
  have HR2 := Aside0.mk hr2
  have HR3 := Aside0.mk hr3
  have HR4 := Aside0.mk hr4
  have HM := Aside0.mk (Kd.C_max hr4)
  clear hr1 hr2 hr3 hr4 hc1 hc2 hc3 hc4
  have HB := Aside0.mk (Below.refl w.heap.size w)
  rw [decide_eq_true hs] at HS
  rw [hbad] at HW
  clear hbad hs
  go_enter Try.func52, Try.ntmps52
  go_wp2_with (first | ((with_reducible refine gate_dst (N := 1) rfl ?_); refine box_event ?hg (N := 1) ?hd (cs := #[.int .i64 st, .slice A1 sl.length c1, .slice A2 rg.length c2, .slice A3 sp.length c3, .slice A4 wt.length c4]) (t := 28) ?hr ?_; (case hd => rfl); (case hg => rfl); (case hr => first | (go_simp; done) | (go_simp; rfl)); intro gb hg w1 hbox hb; have n0_ := Aside0.mk (below_step (by repeat (first | (with_reducible first | exact HB.out | apply below_alloc | apply pw_below_drewN | apply below_drew1) | exact HB.out)) hb); have n1_ := Aside0.mk hbox; clear HB; have HB := n0_; have BK := n1_; clear n0_ n1_ hb hbox hg; have hcz_0 : w1.cell? ⟨gb, 0, none⟩ = some (.int .i64 st) := (blk_cell BK.out 0).trans rfl; have hcz_1 : w1.cell? ⟨gb, 1, none⟩ = some (.slice A1 sl.length c1) := (blk_cell BK.out 1).trans rfl; have hcz_2 : w1.cell? ⟨gb, 2, none⟩ = some (.slice A2 rg.length c2) := (blk_cell BK.out 2).trans rfl; have hcz_3 : w1.cell? ⟨gb, 3, none⟩ = some (.slice A3 sp.length c3) := (blk_cell BK.out 3).trans rfl; have hcz_4 : w1.cell? ⟨gb, 4, none⟩ = some (.slice A4 wt.length c4) := (blk_cell BK.out 4).trans rfl) | (go_at_call 91; refine (HS.out _ (by repeat (first | (with_reducible first | exact HB.out | apply below_alloc | apply pw_below_drewN | apply below_drew1) | exact HB.out))).mono ?_; rintro e w9 ⟨rfl, hb⟩; have n0_ := Aside0.mk (below_step (by repeat (first | (with_reducible first | exact HB.out | apply below_alloc | apply pw_below_drewN | apply below_drew1) | exact HB.out)) hb); have n1_ := Aside0.mk (blk_below (g := gb) (o := .cells #[.int .i64 st, .slice A1 sl.length c1, .slice A2 rg.length c2, .slice A3 sp.length c3, .slice A4 wt.length c4] 28 (0, 0)) (by (with_reducible repeat (first | refine blk_drewN ?_ _ | refine blk_drew ?_ | refine blk_alloc ?_ _)); exact BK.out) hb); clear HB BK; have HB := n0_; have BK := n1_; clear n0_ n1_ hb; have hcz_0 : w9.cell? ⟨gb, 0, none⟩ = some (.int .i64 st) := (blk_cell BK.out 0).trans rfl; have hcz_1 : w9.cell? ⟨gb, 1, none⟩ = some (.slice A1 sl.length c1) := (blk_cell BK.out 1).trans rfl; have hcz_2 : w9.cell? ⟨gb, 2, none⟩ = some (.slice A2 rg.length c2) := (blk_cell BK.out 2).trans rfl; have hcz_3 : w9.cell? ⟨gb, 3, none⟩ = some (.slice A3 sp.length c3) := (blk_cell BK.out 3).trans rfl; have hcz_4 : w9.cell? ⟨gb, 4, none⟩ = some (.slice A4 wt.length c4) := (blk_cell BK.out 4).trans rfl) | (go_at_call 92; refine (HW.out _ (by repeat (first | (with_reducible first | exact HB.out | apply below_alloc | apply pw_below_drewN | apply below_drew1) | exact HB.out))).mono ?_; rintro e w10 ⟨rfl, hb⟩; have n0_ := Aside0.mk (below_step (by repeat (first | (with_reducible first | exact HB.out | apply below_alloc | apply pw_below_drewN | apply below_drew1) | exact HB.out)) hb); have n1_ := Aside0.mk (blk_below (g := gb) (o := .cells #[.int .i64 st, .slice A1 sl.length c1, .slice A2 rg.length c2, .slice A3 sp.length c3, .slice A4 wt.length c4] 28 (0, 0)) (by (with_reducible repeat (first | refine blk_drewN ?_ _ | refine blk_drew ?_ | refine blk_alloc ?_ _)); exact BK.out) hb); clear HB BK; have HB := n0_; have BK := n1_; clear n0_ n1_ hb; have hcz_0 : w10.cell? ⟨gb, 0, none⟩ = some (.int .i64 st) := (blk_cell BK.out 0).trans rfl; have hcz_1 : w10.cell? ⟨gb, 1, none⟩ = some (.slice A1 sl.length c1) := (blk_cell BK.out 1).trans rfl; have hcz_2 : w10.cell? ⟨gb, 2, none⟩ = some (.slice A2 rg.length c2) := (blk_cell BK.out 2).trans rfl; have hcz_3 : w10.cell? ⟨gb, 3, none⟩ = some (.slice A3 sp.length c3) := (blk_cell BK.out 3).trans rfl; have hcz_4 : w10.cell? ⟨gb, 4, none⟩ = some (.slice A4 wt.length c4) := (blk_cell BK.out 4).trans rfl))
  go_ret2
  exact ⟨rfl, (by repeat (first | (with_reducible first | exact HB.out | apply below_alloc | apply pw_below_drewN | apply below_drew1) | exact HB.out))⟩
theorem loadAt_list {P : Program} (W : World) (ad : Addr) (ty : TypeId) (cs : List Value) (d : TypeDesc) (hc : ∀ j v, cs[j]? = some v → W.cell? (ad.add j) = some v)
    (hu : P.underlying ty = some d) (hd : (match d with | .struct _ | .array _ _ => true | _ => false) = true) (hi : (P.info? ty).map (·.size) = some cs.length) :
    (Instr.loadAt ty (.pointer (some ad))).run P W = .ok (.agg cs.toArray) W := by
  have hl : (loadCells ad cs.length).run P W = .ok cs.toArray W := run_loadCells_list (P := P) W ad cs hc
  cases hq : P.info? ty with
  | none => simp [hq] at hi
  | some i =>
    have hs : i.size = cs.length := by simpa [hq] using hi
    have hagg : (isAgg ty).run P W = .ok true W := by
      unfold isAgg
      rw [Sem.run_bind, run_underlying hu W]
      cases d <;> simp_all
    simp [Instr.loadAt, Instr.sureAddr, loadVar, Sem.run_bind, hagg, sizeOf, typeInfo, hq, hs, hl]
theorem strs_at {w : World} {A : Option Addr} {l : List ByteArray} (h : Kd.C Kd.string w A l.length l) (h0 : 0 < l.length) : ∃ ad, A = some ad ∧ ∀ j v, (l.map Value.string)[j]? = some v → w.cell? (ad.add j) = some v := by
  obtain ⟨ad, e, _⟩ := Kd.at_string h 0 (by omega) (by omega)
  refine ⟨ad, e, fun j v hv => ?_⟩
  simp only [List.getElem?_map, Option.map_eq_some_iff] at hv
  obtain ⟨s, hs, rfl⟩ := hv
  have hj := (List.getElem?_eq_some_iff.1 hs).1
  obtain ⟨ad', e', hx⟩ := Kd.at_string h (j : Int) (by omega) (by omega)
  obtain rfl : ad = ad' := by rw [e] at e'; exact Option.some.inj e'
  simpa [rdOf, List.getD, hs] using hx
theorem bools_at {w : World} {A : Option Addr} {l : List Bool} (h : Kd.C Kd.bool w A l.length l) (h0 : 0 < l.length) : ∃ ad, A = some ad ∧ ∀ j v, (l.map Value.bool)[j]? = some v → w.cell? (ad.add j) = some v := by
  obtain ⟨ad, e, _⟩ := Kd.at_bool h 0 (by omega) (by omega)
  refine ⟨ad, e, fun j v hv => ?_⟩
  simp only [List.getElem?_map, Option.map_eq_some_iff] at hv
  obtain ⟨s, hs, rfl⟩ := hv
  have hj := (List.getElem?_eq_some_iff.1 hs).1
  obtain ⟨ad', e', hx⟩ := Kd.at_bool h (j : Int) (by omega) (by omega)
  obtain rfl : ad = ad' := by rw [e] at e'; exact Option.some.inj e'
  simpa [rdOf, List.getD, hs] using hx
theorem run_arrayAt {P : Program} {arr e : TypeId} {n : Nat} (hu : P.underlying arr = some (.array n e)) (ad : Addr) (len c : Nat) (h : n ≤ len) (w : World) : (Instr.arrayAt arr (.slice (some ad) len c)).run P w = .ok (.pointer (some ad)) w := by
  simp [Instr.arrayAt, run_underlying hu, Nat.not_lt.2 h]
theorem yields_load {P : Program} {op : Oper} {a : Act} {w : World} (ty : TypeId) (x : Operand) (ho : op.op = .load ty x) (ad : Addr) (hx : a.eval x = .pointer (some ad)) (v : Value)
    (hS : (Instr.loadAt ty (.pointer (some ad))).run P w = .ok v w) : (execOp a.eval op).run P w = .ok (.value v) w := by
  unfold execOp
  simp only [ho, hx, Sem.run_bind, hS, Result.andThen_ok, Sem.run_pure]
def ReadPost (st : Int) (sl rg : List ByteArray) (sp : List Bool) (wt : List S54) (w : World) (e : Ending) (w' : World) : Prop :=
  (¬ Good st sl rg sp wt ∧ e = .returned (.tuple #[.pointer none, .bool false]) ∧ Below w.heap.size w w') ∨ (Good st sl rg sp wt ∧ ∃ g ns, e = .returned (.tuple #[.pointer (some ⟨g, 0, none⟩), .bool true]) ∧ w.heap.size ≤ g ∧ Drv w' g st sp sl rg ns ∧ ns.map (·.2) = wt ∧ Below w.heap.size w w')
theorem neq_ev {P : Program} {ops : Array Oper} {rest : List Oper} {o : Oper} {a : Act} {w : World} {Q : Exit → Act → World → Prop} {t rt : TypeId} {x y : Operand} {xs ys : Array Value} {b : Bool} (hgd : o.guard = none) (ho : o.op = .binOp .neq t x y rt)
    (hx : a.eval x = .agg xs) (hy : a.eval y = .agg ys) (hg : P.eqGuardType P.depth t = false) (he : (Op.equalIn 10000 t (.agg xs) (.agg ys)).run P w = .ok b w) (h : wpList P ops Q rest (a.put o.dst (.bool (!b))) w) : wpList P ops Q (o :: rest) a w :=
  Kd.event_run hgd (by unfold execOp; simp only [ho, hx, hy, Sem.run_bind, run_eqGuard_agg w .neq t x y xs ys hg, Result.andThen_ok, run_neq_struct, he, Sem.run_pure]) h
theorem drv_load {W : World} {g : Nat} {st : Int} {sp : List Bool} {sl rg : List ByteArray} {ns : List (Nat × Pt)} (h : Drv W g st sp sl rg ns) {o : Nat} {l : List ByteArray} {ty : TypeId} {d : TypeDesc}
    (hc : ∀ i, i < l.length → W.cell? ⟨g, o + i, none⟩ = some (.string (l.getD i ByteArray.empty))) (hu : Try.prog.underlying ty = some d) (hd : d.isRow = true) (hi : (Try.prog.info? ty).map (·.size) = some l.length) :
    (Instr.loadAt ty (.pointer (some ⟨g, o, none⟩))).run Try.prog W = .ok (.agg (l.map Value.string).toArray) W :=
  loadAt_list W ⟨g, o, none⟩ ty (l.map Value.string) d (fun j v hv => by
    simp only [List.getElem?_map, Option.map_eq_some_iff] at hv
    obtain ⟨s, hs, rfl⟩ := hv
    rw [show (⟨g, o, none⟩ : Addr).add j = ⟨g, o + j, none⟩ by (unfold Addr.add; split <;> simp_all), hc j (List.getElem?_eq_some_iff.1 hs).1]
    simp [List.getD, hs]) hu (by cases d <;> simp_all [TypeDesc.isRow]) (by simpa using hi)
theorem load_ev {P : Program} {ops : Array Oper} {rest : List Oper} {o : Oper} {a : Act} {w : World} {Q : Exit → Act → World → Prop} {ty : TypeId} {x : Operand} {ad : Addr} (hgd : o.guard = none) (ho : o.op = .load ty x) (v : Value)
    (hl : (Instr.loadAt ty (.pointer (some ad))).run P w = .ok v w) (hx : a.eval x = .pointer (some ad)) (h : wpList P ops Q rest (a.put o.dst v) w) : wpList P ops Q (o :: rest) a w :=
  Kd.event_run hgd (yields_load ty x ho ad hx v hl) h
theorem _root_.ByteArray.size_toList_x (x : ByteArray) : x.toList.length = x.size := by rw [ByteArray.toList_eq, Array.length_toList]; rfl
theorem drv_drewN {W : World} {g : Nat} {st : Int} {sp : List Bool} {sl rg : List ByteArray} {ns : List (Nat × Pt)} (h : Drv W g st sp sl rg ns) (n : Nat) : Drv (W.drewN n) g st sp sl rg ns := h.keep fun _ _ _ => rfl
theorem drv_drew {W : World} {g : Nat} {st : Int} {sp : List Bool} {sl rg : List ByteArray} {ns : List (Nat × Pt)} (h : Drv W g st sp sl rg ns) : Drv W.drew g st sp sl rg ns := h.keep fun _ _ _ => rfl
set_option maxHeartbeats 8000000 in
set_option maxRecDepth 100000 in
theorem readDisk_main (st : Int) (ad1 ad2 ad3 : Addr) (A4 : Option Addr) (c1 c2 c3 c4 : Nat) (s0 s1 s2 s3 s4 s5 s6 s7 s8 s9 s10 s11 : ByteArray) (r0 r1 : ByteArray) (b0 b1 b2 b3 b4 b5 b6 b7 b8 b9 b10 b11 : Bool) (sl rg : List ByteArray) (sp : List Bool) (wt : List S54) (w : World) (esl : sl = [s0, s1, s2, s3, s4, s5, s6, s7, s8, s9, s10, s11]) (erg : rg = [r0, r1]) (esp : sp = [b0, b1, b2, b3, b4, b5, b6, b7, b8, b9, b10, b11])
    (hl1 : ∀ W : World, Below w.heap.size w W → (Instr.loadAt 76 (.pointer (some ad1))).run Try.prog W = .ok (.agg #[.string s0, .string s1, .string s2, .string s3, .string s4, .string s5, .string s6, .string s7, .string s8, .string s9, .string s10, .string s11]) W)
    (hl2 : ∀ W : World, Below w.heap.size w W → (Instr.loadAt 77 (.pointer (some ad2))).run Try.prog W = .ok (.agg #[.string r0, .string r1]) W)
    (hl3 : ∀ W : World, Below w.heap.size w W → (Instr.loadAt 73 (.pointer (some ad3))).run Try.prog W = .ok (.agg #[.bool b0, .bool b1, .bool b2, .bool b3, .bool b4, .bool b5, .bool b6, .bool b7, .bool b8, .bool b9, .bool b10, .bool b11]) W)
    (hcs : ∀ W : World, Below w.heap.size w W → Calls Try.prog 91 #[.agg #[.int .i64 st, .slice (some ad1) 12 c1, .slice (some ad2) 2 c2, .slice (some ad3) 12 c3, .slice A4 wt.length c4]] W fun e w' => e = .returned (.bool true) ∧ Below W.heap.size W w')
    (hcw : ∀ W : World, Below w.heap.size w W → Calls Try.prog 92 #[.slice A4 wt.length c4, .func (.func 93) #[] #[]] W fun e w' => e = .returned (.bool false) ∧ Below W.heap.size W w')
    (hcg : ∀ W : World, Below w.heap.size w W → Calls Try.prog 95 #[.slice (some ad2) 2 c2, .func (.func 96) #[] #[]] W fun e w' => e = .returned (.bool (rg.any fun x => decide ((x.size : Int) > 700))) ∧ Below W.heap.size W w')
    (hr1 : Kd.C Kd.string w (some ad1) 12 sl) (hr3 : Kd.C Kd.bool w (some ad3) 12 sp) (hr4 : Kd.C k54 w A4 wt.length wt) (hs : Shaped st sl rg sp wt) (hw : wt.any (fun x => !putB x) = false) :
    Calls Try.prog 52 #[.agg #[.int .i64 st, .slice (some ad1) 12 c1, .slice (some ad2) 2 c2, .slice (some ad3) 12 c3, .slice A4 wt.length c4]] w fun e w' => ReadPost st sl rg sp wt w e w' := by
  have hu28 := Try.underlying28
  have HS := Aside0.mk hcs
  have HW := Aside0.mk hcw
  have HG := Aside0.mk hcg
  have HL1 := Aside0.mk hl1
  have HL2 := Aside0.mk hl2
  have HL3 := Aside0.mk hl3
  have HR1 := Aside0.mk hr1
  have HR3 := Aside0.mk hr3
  have HR4 := Aside0.mk hr4
  have HM := Aside0.mk (Kd.C_max hr4)
  have HSH := Aside0.mk hs
  have HWA := Aside0.mk hw
  have ESL := Aside0.mk esl
  have ERG := Aside0.mk erg
  have ESP := Aside0.mk esp
  clear hr1 hr3 hr4 hl1 hl2 hl3 hs hw hcs hcw hcg esl erg esp
  have HB := Aside0.mk (Below.refl w.heap.size w)
  go_enter Try.func52, Try.ntmps52
  go_wp2_with (first | ((with_reducible refine gate_dst (N := 1) rfl ?_); refine box_event ?hg (N := 1) ?hd (cs := #[.int .i64 st, .slice (some ad1) 12 c1, .slice (some ad2) 2 c2, .slice (some ad3) 12 c3, .slice A4 wt.length c4]) (t := 28) ?hr ?_; (case hd => rfl); (case hg => rfl); (case hr => first | (go_simp; done) | (go_simp; rfl)); intro gb hg w1 hbox hb; have n0_ := Aside0.mk (below_step (by repeat (first | (with_reducible first | exact HB.out | apply below_alloc | apply pw_below_drewN | apply below_drew1) | exact HB.out)) hb); have n1_ := Aside0.mk hbox; clear HB; have HB := n0_; have BK := n1_; clear n0_ n1_ hb hbox hg; have hcz_0 : w1.cell? ⟨gb, 0, none⟩ = some (.int .i64 st) := (blk_cell BK.out 0).trans rfl; have hcz_1 : w1.cell? ⟨gb, 1, none⟩ = some (.slice (some ad1) 12 c1) := (blk_cell BK.out 1).trans rfl; have hcz_2 : w1.cell? ⟨gb, 2, none⟩ = some (.slice (some ad2) 2 c2) := (blk_cell BK.out 2).trans rfl; have hcz_3 : w1.cell? ⟨gb, 3, none⟩ = some (.slice (some ad3) 12 c3) := (blk_cell BK.out 3).trans rfl; have hcz_4 : w1.cell? ⟨gb, 4, none⟩ = some (.slice A4 wt.length c4) := (blk_cell BK.out 4).trans rfl) | (go_at_call 91; refine (HS.out _ (by repeat (first | (with_reducible first | exact HB.out | apply below_alloc | apply pw_below_drewN | apply below_drew1) | exact HB.out))).mono ?_; rintro e w9 ⟨rfl, hb⟩; have n0_ := Aside0.mk (below_step (by repeat (first | (with_reducible first | exact HB.out | apply below_alloc | apply pw_below_drewN | apply below_drew1) | exact HB.out)) hb); have n1_ := Aside0.mk (blk_below (g := gb) (o := .cells #[.int .i64 st, .slice (some ad1) 12 c1, .slice (some ad2) 2 c2, .slice (some ad3) 12 c3, .slice A4 wt.length c4] 28 (0, 0)) (by (with_reducible repeat (first | refine blk_drewN ?_ _ | refine blk_drew ?_ | refine blk_alloc ?_ _)); exact BK.out) hb); clear HB BK; have HB := n0_; have BK := n1_; clear n0_ n1_ hb; have hcz_0 : w9.cell? ⟨gb, 0, none⟩ = some (.int .i64 st) := (blk_cell BK.out 0).trans rfl; have hcz_1 : w9.cell? ⟨gb, 1, none⟩ = some (.slice (some ad1) 12 c1) := (blk_cell BK.out 1).trans rfl; have hcz_2 : w9.cell? ⟨gb, 2, none⟩ = some (.slice (some ad2) 2 c2) := (blk_cell BK.out 2).trans rfl; have hcz_3 : w9.cell? ⟨gb, 3, none⟩ = some (.slice (some ad3) 12 c3) := (blk_cell BK.out 3).trans rfl; have hcz_4 : w9.cell? ⟨gb, 4, none⟩ = some (.slice A4 wt.length c4) := (blk_cell BK.out 4).trans rfl) | (go_at_call 92; refine (HW.out _ (by repeat (first | (with_reducible first | exact HB.out | apply below_alloc | apply pw_below_drewN | apply below_drew1) | exact HB.out))).mono ?_; rintro e w10 ⟨rfl, hb⟩; have n0_ := Aside0.mk (below_step (by repeat (first | (with_reducible first | exact HB.out | apply below_alloc | apply pw_below_drewN | apply below_drew1) | exact HB.out)) hb); have n1_ := Aside0.mk (blk_below (g := gb) (o := .cells #[.int .i64 st, .slice (some ad1) 12 c1, .slice (some ad2) 2 c2, .slice (some ad3) 12 c3, .slice A4 wt.length c4] 28 (0, 0)) (by (with_reducible repeat (first | refine blk_drewN ?_ _ | refine blk_drew ?_ | refine blk_alloc ?_ _)); exact BK.out) hb); clear HB BK; have HB := n0_; have BK := n1_; clear n0_ n1_ hb; have hcz_0 : w10.cell? ⟨gb, 0, none⟩ = some (.int .i64 st) := (blk_cell BK.out 0).trans rfl; have hcz_1 : w10.cell? ⟨gb, 1, none⟩ = some (.slice (some ad1) 12 c1) := (blk_cell BK.out 1).trans rfl; have hcz_2 : w10.cell? ⟨gb, 2, none⟩ = some (.slice (some ad2) 2 c2) := (blk_cell BK.out 2).trans rfl; have hcz_3 : w10.cell? ⟨gb, 3, none⟩ = some (.slice (some ad3) 12 c3) := (blk_cell BK.out 3).trans rfl; have hcz_4 : w10.cell? ⟨gb, 4, none⟩ = some (.slice A4 wt.length c4) := (blk_cell BK.out 4).trans rfl; have hl1 := HL1.out w10 (by repeat (first | (with_reducible first | exact HB.out | apply below_alloc | apply pw_below_drewN | apply below_drew1) | exact HB.out)); have hl2 := HL2.out w10 (by repeat (first | (with_reducible first | exact HB.out | apply below_alloc | apply pw_below_drewN | apply below_drew1) | exact HB.out)); have hl3 := HL3.out w10 (by repeat (first | (with_reducible first | exact HB.out | apply below_alloc | apply pw_below_drewN | apply below_drew1) | exact HB.out))))
  have hB10 : Aside0 (Below w.heap.size w w10.drew) := ⟨(by repeat (first | (with_reducible first | exact HB.out | apply below_alloc | apply pw_below_drewN | apply below_drew1) | exact HB.out))⟩
  refine start_ (n := 18) (S := fun w' => w'.cell? ⟨gb, 0, none⟩ = some (.int .i64 st) ∧ w'.cell? ⟨gb, 1, none⟩ = some (.slice (some ad1) 12 c1) ∧ w'.cell? ⟨gb, 2, none⟩ = some (.slice (some ad2) 2 c2) ∧ w'.cell? ⟨gb, 3, none⟩ = some (.slice (some ad3) 12 c3) ∧ w'.cell? ⟨gb, 4, none⟩ = some (.slice A4 wt.length c4) ∧ (Instr.loadAt 76 (.pointer (some ad1))).run Try.prog w' = .ok (.agg #[.string s0, .string s1, .string s2, .string s3, .string s4, .string s5, .string s6, .string s7, .string s8, .string s9, .string s10, .string s11]) w' ∧ (Instr.loadAt 77 (.pointer (some ad2))).run Try.prog w' = .ok (.agg #[.string r0, .string r1]) w' ∧ (Instr.loadAt 73 (.pointer (some ad3))).run Try.prog w' = .ok (.agg #[.bool b0, .bool b1, .bool b2, .bool b3, .bool b4, .bool b5, .bool b6, .bool b7, .bool b8, .bool b9, .bool b10, .bool b11]) w') (ds := [16]) #[false, false, false, false, false, false, false, false, false, false, false, false, false, false, false, false, false, false] (by kernel_rfl) rfl rfl ⟨(blk_cell BK.out 0).trans rfl, (blk_cell BK.out 1).trans rfl, (blk_cell BK.out 2).trans rfl, (blk_cell BK.out 3).trans rfl, (blk_cell BK.out 4).trans rfl, HL1.out _ hB10.out, HL2.out _ hB10.out, HL3.out _ hB10.out⟩ (fun hHeld => ?_)
  clear hl1 hl2 hl3
  refine pure_ (i := 0) (N := (some 18)) (v := ?_) (a' := ?_) #[true, false, false, false, false, false, false, false, false, false, false, false, false, false, false, false, false, false] rfl rfl (by kernel_rfl) (fun _ _ _ h => h) (Or.inl ⟨by rfl, ?_⟩) ?_ ?_
  rotate_left
  · intro w'
    go_simp
    with_reducible rfl
  rotate_left
  · simp only [Act.put, List.setIfInBounds_toArray, List.set_cons_zero, List.set_cons_succ]
    rfl
  refine take_ (i := 1) (N := (some 19)) (v := ?_) (a' := ?_) #[true, true, false, false, false, false, false, false, false, false, false, false, false, false, false, false, false, false] rfl rfl (by kernel_rfl) (fun _ _ _ h => h) (Or.inl ⟨by rfl, ?_⟩) hHeld ?_ ?_
  rotate_left
  · intro w' hS_
    obtain ⟨s0_, s1_, s2_, s3_, s4_, t1_, t2_, t3_⟩ := hS_
    clear t1_ t2_ t3_
    go_simp
    with_reducible rfl
  rotate_left
  · simp only [Act.put, List.setIfInBounds_toArray, List.set_cons_zero, List.set_cons_succ]
    rfl
  refine pure_ (i := 2) (N := (some 20)) (v := ?_) (a' := ?_) #[true, true, true, false, false, false, false, false, false, false, false, false, false, false, false, false, false, false] rfl rfl (by kernel_rfl) (fun _ _ _ h => h) (Or.inl ⟨by rfl, ?_⟩) ?_ ?_
  rotate_left
  · intro w'
    go_simp
    with_reducible rfl
  rotate_left
  · simp only [Act.put, List.setIfInBounds_toArray, List.set_cons_zero, List.set_cons_succ]
    rfl
  refine take_ (i := 3) (N := (some 21)) (v := ?_) (a' := ?_) #[true, true, true, true, false, false, false, false, false, false, false, false, false, false, false, false, false, false] rfl rfl (by kernel_rfl) (fun _ _ _ h => h) (Or.inl ⟨by rfl, ?_⟩) hHeld ?_ ?_
  rotate_left
  · intro w' hS_
    obtain ⟨s0_, s1_, s2_, s3_, s4_, t1_, t2_, t3_⟩ := hS_
    clear t1_ t2_ t3_
    go_simp
    with_reducible rfl
  rotate_left
  · simp only [Act.put, List.setIfInBounds_toArray, List.set_cons_zero, List.set_cons_succ]
    rfl
  refine pure_ (i := 4) (N := (some 22)) (v := ?_) (a' := ?_) #[true, true, true, true, true, false, false, false, false, false, false, false, false, false, false, false, false, false] rfl rfl (by kernel_rfl) (fun _ _ _ h => h) (Or.inl ⟨by rfl, ?_⟩) ?_ ?_
  rotate_left
  · intro w'
    go_simp
    rw [run_arrayAt Try.underlying73 _ _ _ (by decide)]
    rfl
  rotate_left
  · simp only [Act.put, List.setIfInBounds_toArray, List.set_cons_zero, List.set_cons_succ]
    rfl
  refine take_ (i := 5) (N := (some 23)) (v := .agg #[.bool b0, .bool b1, .bool b2, .bool b3, .bool b4, .bool b5, .bool b6, .bool b7, .bool b8, .bool b9, .bool b10, .bool b11]) (a' := ?_) #[true, true, true, true, true, true, false, false, false, false, false, false, false, false, false, false, false, false] rfl rfl (by kernel_rfl) (fun _ _ _ h => h) (Or.inl ⟨by rfl, fun w' hS_ => yields_load 73 (.tmp 22) rfl ad3 rfl _ hS_.2.2.2.2.2.2.2⟩) hHeld ?_ ?_
  rotate_left
  · simp only [Act.put, List.setIfInBounds_toArray, List.set_cons_zero, List.set_cons_succ]
    rfl
  refine pure_ (i := 6) (N := (some 24)) (v := ?_) (a' := ?_) #[true, true, true, true, true, true, true, false, false, false, false, false, false, false, false, false, false, false] rfl rfl (by kernel_rfl) (fun _ _ _ h => h) (Or.inl ⟨by rfl, ?_⟩) ?_ ?_
  rotate_left
  · intro w'
    have hu73 := Try.underlying73
    have hu75 := Try.underlying75
    go_simp
    with_reducible rfl
  rotate_left
  · simp only [Act.put, List.setIfInBounds_toArray, List.set_cons_zero, List.set_cons_succ]
    rfl
  refine pure_ (i := 7) (N := (some 25)) (v := ?_) (a' := ?_) #[true, true, true, true, true, true, true, true, false, false, false, false, false, false, false, false, false, false] rfl rfl (by kernel_rfl) (fun _ _ _ h => h) (Or.inl ⟨by rfl, ?_⟩) ?_ ?_
  rotate_left
  · intro w'
    go_simp
    with_reducible rfl
  rotate_left
  · simp only [Act.put, List.setIfInBounds_toArray, List.set_cons_zero, List.set_cons_succ]
    rfl
  refine take_ (i := 8) (N := (some 26)) (v := ?_) (a' := ?_) #[true, true, true, true, true, true, true, true, true, false, false, false, false, false, false, false, false, false] rfl rfl (by kernel_rfl) (fun _ _ _ h => h) (Or.inl ⟨by rfl, ?_⟩) hHeld ?_ ?_
  rotate_left
  · intro w' hS_
    obtain ⟨s0_, s1_, s2_, s3_, s4_, t1_, t2_, t3_⟩ := hS_
    clear t1_ t2_ t3_
    go_simp
    with_reducible rfl
  rotate_left
  · simp only [Act.put, List.setIfInBounds_toArray, List.set_cons_zero, List.set_cons_succ]
    rfl
  refine pure_ (i := 9) (N := (some 27)) (v := ?_) (a' := ?_) #[true, true, true, true, true, true, true, true, true, true, false, false, false, false, false, false, false, false] rfl rfl (by kernel_rfl) (fun _ _ _ h => h) (Or.inl ⟨by rfl, ?_⟩) ?_ ?_
  rotate_left
  · intro w'
    go_simp
    rw [run_arrayAt Try.underlying76 _ _ _ (by decide)]
    rfl
  rotate_left
  · simp only [Act.put, List.setIfInBounds_toArray, List.set_cons_zero, List.set_cons_succ]
    rfl
  refine take_ (i := 10) (N := (some 28)) (v := .agg #[.string s0, .string s1, .string s2, .string s3, .string s4, .string s5, .string s6, .string s7, .string s8, .string s9, .string s10, .string s11]) (a' := ?_) #[true, true, true, true, true, true, true, true, true, true, true, false, false, false, false, false, false, false] rfl rfl (by kernel_rfl) (fun _ _ _ h => h) (Or.inl ⟨by rfl, fun w' hS_ => yields_load 76 (.tmp 27) rfl ad1 rfl _ hS_.2.2.2.2.2.1⟩) hHeld ?_ ?_
  rotate_left
  · simp only [Act.put, List.setIfInBounds_toArray, List.set_cons_zero, List.set_cons_succ]
    rfl
  refine pure_ (i := 11) (N := (some 29)) (v := ?_) (a' := ?_) #[true, true, true, true, true, true, true, true, true, true, true, true, false, false, false, false, false, false] rfl rfl (by kernel_rfl) (fun _ _ _ h => h) (Or.inl ⟨by rfl, ?_⟩) ?_ ?_
  rotate_left
  · intro w'
    go_simp
    with_reducible rfl
  rotate_left
  · simp only [Act.put, List.setIfInBounds_toArray, List.set_cons_zero, List.set_cons_succ]
    rfl
  refine take_ (i := 12) (N := (some 30)) (v := ?_) (a' := ?_) #[true, true, true, true, true, true, true, true, true, true, true, true, true, false, false, false, false, false] rfl rfl (by kernel_rfl) (fun _ _ _ h => h) (Or.inl ⟨by rfl, ?_⟩) hHeld ?_ ?_
  rotate_left
  · intro w' hS_
    obtain ⟨s0_, s1_, s2_, s3_, s4_, t1_, t2_, t3_⟩ := hS_
    clear t1_ t2_ t3_
    go_simp
    with_reducible rfl
  rotate_left
  · simp only [Act.put, List.setIfInBounds_toArray, List.set_cons_zero, List.set_cons_succ]
    rfl
  refine pure_ (i := 13) (N := (some 31)) (v := ?_) (a' := ?_) #[true, true, true, true, true, true, true, true, true, true, true, true, true, true, false, false, false, false] rfl rfl (by kernel_rfl) (fun _ _ _ h => h) (Or.inl ⟨by rfl, ?_⟩) ?_ ?_
  rotate_left
  · intro w'
    go_simp
    rw [run_arrayAt Try.underlying77 _ _ _ (by decide)]
    rfl
  rotate_left
  · simp only [Act.put, List.setIfInBounds_toArray, List.set_cons_zero, List.set_cons_succ]
    rfl
  refine take_ (i := 14) (N := (some 32)) (v := .agg #[.string r0, .string r1]) (a' := ?_) #[true, true, true, true, true, true, true, true, true, true, true, true, true, true, true, false, false, false] rfl rfl (by kernel_rfl) (fun _ _ _ h => h) (Or.inl ⟨by rfl, fun w' hS_ => yields_load 77 (.tmp 31) rfl ad2 rfl _ hS_.2.2.2.2.2.2.1⟩) hHeld ?_ ?_
  rotate_left
  · simp only [Act.put, List.setIfInBounds_toArray, List.set_cons_zero, List.set_cons_succ]
    rfl
  refine pure_ (i := 15) (N := (some 33)) (v := ?_) (a' := ?_) #[true, true, true, true, true, true, true, true, true, true, true, true, true, true, true, true, false, false] rfl rfl (by kernel_rfl) (fun _ _ _ h => h) (Or.inl ⟨by rfl, ?_⟩) ?_ ?_
  rotate_left
  · intro w'
    have hu80 := Try.underlying80
    go_simp
    with_reducible rfl
  rotate_left
  · simp only [Act.put, List.setIfInBounds_toArray, List.set_cons_zero, List.set_cons_succ]
    rfl
  refine last_ (i := 16) (N := (some 34)) #[true, true, true, true, true, true, true, true, true, true, true, true, true, true, true, true, true, false] rfl rfl (by kernel_rfl) (by decide) (fun K hK => ?_)
  refine box_step (by rfl) (N := 34) rfl (cs := #[.int .i64 st, .bool b0, .bool b1, .bool b2, .bool b3, .bool b4, .bool b5, .bool b6, .bool b7, .bool b8, .bool b9, .bool b10, .bool b11, .string s0, .string s1, .string s2, .string s3, .string s4, .string s5, .string s6, .string s7, .string s8, .string s9, .string s10, .string s11, .string r0, .string r1, .pointer none]) (t := 80) ?hr ?_
  case hr => first | (go_simp; done) | (go_simp; rfl)
  intro gd hg w11 hbox hb
  have HGG := Aside0.mk hg
  clear hg
  refine hK.out _ _ ?_
  clear hK K
  refine pure_ (i := 17) (N := (some 4)) (v := ?_) (a' := ?_) #[true, true, true, true, true, true, true, true, true, true, true, true, true, true, true, true, true, true] rfl rfl (by kernel_rfl) (fun _ _ _ h => h) (Or.inl ⟨by rfl, ?_⟩) ?_ ?_
  rotate_left
  · intro w'
    go_simp
    with_reducible rfl
  rotate_left
  · simp only [Act.put, List.setIfInBounds_toArray, List.set_cons_zero, List.set_cons_succ]
    rfl
  refine done_ (by kernel_rfl) ?_
  have HD : Aside0 (Drv w11 gd st sp sl rg []) := ⟨⟨by rw [hbox, ESL.out, ERG.out, ESP.out]; rfl, trivial, HSH.out.2.2.2.1, HSH.out.2.1, HSH.out.2.2.1⟩⟩
  have HGD : Aside0 (w.heap.size ≤ gd) := ⟨by rw [HGG.out]; exact hB10.out.size⟩
  have n0_ := Aside0.mk (below_step hB10.out hb)
  have n1_ := Aside0.mk (blk_below (g := gb) (o := .cells #[.int .i64 st, .slice (some ad1) 12 c1, .slice (some ad2) 2 c2, .slice (some ad3) 12 c3, .slice A4 wt.length c4] 28 (0, 0)) (by (with_reducible repeat (first | refine blk_drewN ?_ _ | refine blk_drew ?_ | refine blk_alloc ?_ _)); exact BK.out) hb)
  clear HB BK hHeld
  have HB := n0_
  have BK := n1_
  clear n0_ n1_ hb hbox HGG hB10
  have hcz_0 : w11.cell? ⟨gb, 0, none⟩ = some (.int .i64 st) := (blk_cell BK.out 0).trans rfl; have hcz_1 : w11.cell? ⟨gb, 1, none⟩ = some (.slice (some ad1) 12 c1) := (blk_cell BK.out 1).trans rfl; have hcz_2 : w11.cell? ⟨gb, 2, none⟩ = some (.slice (some ad2) 2 c2) := (blk_cell BK.out 2).trans rfl; have hcz_3 : w11.cell? ⟨gb, 3, none⟩ = some (.slice (some ad3) 12 c3) := (blk_cell BK.out 3).trans rfl; have hcz_4 : w11.cell? ⟨gb, 4, none⟩ = some (.slice A4 wt.length c4) := (blk_cell BK.out 4).trans rfl
  go_wp2
  go_loopg [38] 12 (fun kq v38 w' => ∃ (i : Nat), v38 = .int .i64 (i : Int) ∧ Aside0 (i + kq = 12) ∧ Aside0 (∀ j, j < i → badSlot (sl.getD j ByteArray.empty) (sp.getD j false) = false) ∧ Aside0 (Below w.heap.size w w') ∧ Aside0 (w'.heap[gb]? = some (.cells #[.int .i64 st, .slice (some ad1) 12 c1, .slice (some ad2) 2 c2, .slice (some ad3) 12 c3, .slice A4 wt.length c4] 28 (0, 0))) ∧ Aside0 (Drv w' gd st sp sl rg []))
  case atStart => exact ⟨0, rfl, ⟨Nat.zero_add _⟩, ⟨fun j hj => by omega⟩, ⟨(by repeat (first | (with_reducible first | exact HB.out | apply below_alloc | apply pw_below_drewN | apply below_drew1) | exact HB.out))⟩, ⟨by (with_reducible repeat (first | refine blk_drewN ?_ _ | refine blk_drew ?_ | refine blk_alloc ?_ _)); exact BK.out⟩, ⟨by (with_reducible repeat (first | refine drv_drewN ?_ _ | refine drv_drew ?_)); exact HD.out⟩⟩
  case round =>
    obtain ⟨i, rfl, HI, HF, HB, BK, HD⟩ := hrel
    have hcz_0 : wr.cell? ⟨gb, 0, none⟩ = some (.int .i64 st) := (blk_cell BK.out 0).trans rfl; have hcz_1 : wr.cell? ⟨gb, 1, none⟩ = some (.slice (some ad1) 12 c1) := (blk_cell BK.out 1).trans rfl; have hcz_2 : wr.cell? ⟨gb, 2, none⟩ = some (.slice (some ad2) 2 c2) := (blk_cell BK.out 2).trans rfl; have hcz_3 : wr.cell? ⟨gb, 3, none⟩ = some (.slice (some ad3) 12 c3) := (blk_cell BK.out 3).trans rfl; have hcz_4 : wr.cell? ⟨gb, 4, none⟩ = some (.slice A4 wt.length c4) := (blk_cell BK.out 4).trans rfl
    by_cases c1 : i < 12
    · have c1b0 : decide ((i : Int) < 12) = true := decide_eq_true (by omega)
      have p1 : (0 : Int) ≤ (i : Int) := by omega
      have q1 : (i : Int) < ((12 : Nat) : Int) := by omega
      have HWR := Aside0.mk (show wrap64 ((i : Int) + 1) = ((i + 1 : Nat) : Int) by unfold wrap64; omega)
      have HC1 := Aside0.mk c1
      obtain ⟨ad, e1, hx_0⟩ := Kd.at_string HR1.out (i : Int) p1 q1
      cases e1
      obtain ⟨ad, e1, hy_0⟩ := Kd.at_bool HR3.out (i : Int) p1 q1
      cases e1
      simp only [Int.toNat_natCast, rdOf] at hx_0 hy_0
      replace hx_0 := (HB.out.cell (World.block_lt_of_cell? w _ hx_0)).trans hx_0
      replace hy_0 := (HB.out.cell (World.block_lt_of_cell? w _ hy_0)).trans hy_0
      replace p1 := eq_true p1
      replace q1 := eq_true q1
      have q2 := eq_true (show (i : Int) < 12 by omega)
      clear c1
      obtain ⟨x, hE⟩ : ∃ x, x = sl.getD i ByteArray.empty := ⟨_, rfl⟩
      rw [← hE] at hx_0
      have HE := Aside0.mk hE
      clear hE
      obtain ⟨y, hE⟩ : ∃ y, y = sp.getD i false := ⟨_, rfl⟩
      rw [← hE] at hy_0
      have HY := Aside0.mk hE
      clear hE
      have HNB : badSlot x y = false → Aside0 (∀ j, j < i + 1 → badSlot (sl.getD j ByteArray.empty) (sp.getD j false) = false) := fun h => ⟨fun j hj => by
          by_cases e : j = i
          · rw [e, ← HE.out, ← HY.out]; exact h
          · exact HF.out j (by omega)⟩
      have HBG : badSlot x y = true → Aside0 (¬ Good st sl rg sp wt) := fun h => ⟨fun hg => by
          have := hg.so i HC1.out
          rw [← HE.out, ← HY.out, h] at this
          cases this⟩
      by_cases hx0 : x.size = 0
      · obtain rfl : x = ByteArray.empty := ByteArray.ext (Array.eq_empty_of_size_eq_zero hx0)
        clear hx0
        cases y with
        | true =>
          have HN := HBG rfl
          clear HBG HNB
          go_wp2
          go_ret2
          exact Or.inl ⟨HN.out, rfl, (by repeat (first | (with_reducible first | exact HB.out | apply below_alloc | apply pw_below_drewN | apply below_drew1) | exact HB.out))⟩
        | false =>
          have HF1 := HNB rfl
          clear HBG HNB
          go_wp2
          go_roundg (gk - 1)
          case measure => have := HI.out; have := HC1.out; omega
          case rel => exact ⟨i + 1, by rw [← HWR.out], ⟨by have := HI.out; have := HC1.out; omega⟩, HF1, ⟨(by repeat (first | (with_reducible first | exact HB.out | apply below_alloc | apply pw_below_drewN | apply below_drew1) | exact HB.out))⟩, ⟨by (with_reducible repeat (first | refine blk_drewN ?_ _ | refine blk_drew ?_ | refine blk_alloc ?_ _)); exact BK.out⟩, ⟨by (with_reducible repeat (first | refine drv_drewN ?_ _ | refine drv_drew ?_)); exact HD.out⟩⟩
      · have hz := Aside0.mk hx0
        have hx1 : x.toList ≠ [] := fun h => hx0 (by rw [← ByteArray.size_toList_x, h]; rfl)
        clear hx0
        by_cases hx3 : x.size = 3
        · have HF1 := HNB (by unfold badSlot; rw [if_neg hz.out]; exact decide_eq_false (by omega))
          clear HBG HNB
          have hx3 : ((x.size : Int) == 3) = true := by rw [beq_iff_eq]; omega
          go_wp2_with (first | (go_at_call 94; refine (impl_isColumn.calls x _ _ rfl).mono ?_; rintro e w9 ⟨rfl, ⟨nd, rfl⟩⟩; rw [hx3]))
          go_roundg (gk - 1)
          case measure => have := HI.out; have := HC1.out; omega
          case rel => exact ⟨i + 1, by rw [← HWR.out], ⟨by have := HI.out; have := HC1.out; omega⟩, HF1, ⟨(by repeat (first | (with_reducible first | exact HB.out | apply below_alloc | apply pw_below_drewN | apply below_drew1) | exact HB.out))⟩, ⟨by (with_reducible repeat (first | refine blk_drewN ?_ _ | refine blk_drew ?_ | refine blk_alloc ?_ _)); exact BK.out⟩, ⟨by (with_reducible repeat (first | refine drv_drewN ?_ _ | refine drv_drew ?_)); exact HD.out⟩⟩
        · have HN := HBG (by unfold badSlot; rw [if_neg hz.out]; exact decide_eq_true hx3)
          clear HBG HNB
          have hx3 : ((x.size : Int) == 3) = false := by rw [beq_eq_false_iff_ne]; omega
          go_wp2_with (first | (go_at_call 94; refine (impl_isColumn.calls x _ _ rfl).mono ?_; rintro e w9 ⟨rfl, ⟨nd, rfl⟩⟩; rw [hx3]))
          go_ret2
          exact Or.inl ⟨HN.out, rfl, (by repeat (first | (with_reducible first | exact HB.out | apply below_alloc | apply pw_below_drewN | apply below_drew1) | exact HB.out))⟩
    · have c1b0 : decide ((i : Int) < 12) = false := decide_eq_false (by omega)
      have HSO : Aside0 (∀ j, j < 12 → badSlot (sl.getD j ByteArray.empty) (sp.getD j false) = false) := ⟨fun j hj => HF.out j (by omega)⟩
      clear c1 HF
      by_cases hrg : rg.any (fun x : ByteArray => decide ((x.size : Int) > 700)) = true
      · have HN : Aside0 (¬ Good st sl rg sp wt) := ⟨fun hg => by have := hg.ro; rw [hrg] at this; cases this⟩
        have HRG := Aside0.mk hrg
        clear hrg
        go_wp2_with (first | (go_at_call 95; refine (HG.out _ (by repeat (first | (with_reducible first | exact HB.out | apply below_alloc | apply pw_below_drewN | apply below_drew1) | exact HB.out))).mono ?_; rintro e w12 ⟨rfl, hb⟩; rw [HRG.out]; have n0_ := Aside0.mk (below_step (by repeat (first | (with_reducible first | exact HB.out | apply below_alloc | apply pw_below_drewN | apply below_drew1) | exact HB.out)) hb); have n1_ := Aside0.mk (blk_below (g := gb) (o := .cells #[.int .i64 st, .slice (some ad1) 12 c1, .slice (some ad2) 2 c2, .slice (some ad3) 12 c3, .slice A4 wt.length c4] 28 (0, 0)) (by (with_reducible repeat (first | refine blk_drewN ?_ _ | refine blk_drew ?_ | refine blk_alloc ?_ _)); exact BK.out) hb); have n2_ := Aside0.mk (Drv.below (g := gd) (st := st) (sp := sp) (sl := sl) (rg := rg) (ns := []) (by (with_reducible repeat (first | refine drv_drewN ?_ _ | refine drv_drew ?_)); exact HD.out) hb); clear HB BK HD; have HB := n0_; have BK := n1_; have HD := n2_; clear n0_ n1_ n2_ hb; have hcz_0 : w12.cell? ⟨gb, 0, none⟩ = some (.int .i64 st) := (blk_cell BK.out 0).trans rfl; have hcz_1 : w12.cell? ⟨gb, 1, none⟩ = some (.slice (some ad1) 12 c1) := (blk_cell BK.out 1).trans rfl; have hcz_2 : w12.cell? ⟨gb, 2, none⟩ = some (.slice (some ad2) 2 c2) := (blk_cell BK.out 2).trans rfl; have hcz_3 : w12.cell? ⟨gb, 3, none⟩ = some (.slice (some ad3) 12 c3) := (blk_cell BK.out 3).trans rfl; have hcz_4 : w12.cell? ⟨gb, 4, none⟩ = some (.slice A4 wt.length c4) := (blk_cell BK.out 4).trans rfl))
        go_ret2
        exact Or.inl ⟨HN.out, rfl, (by repeat (first | (with_reducible first | exact HB.out | apply below_alloc | apply pw_below_drewN | apply below_drew1) | exact HB.out))⟩
      · have HRG : Aside0 (rg.any (fun x : ByteArray => decide ((x.size : Int) > 700)) = false) := ⟨by simpa using hrg⟩
        clear hrg
        go_upto_region 12 with (first | (go_at_call 95; refine (HG.out _ (by repeat (first | (with_reducible first | exact HB.out | apply below_alloc | apply pw_below_drewN | apply below_drew1) | exact HB.out))).mono ?_; rintro e w12 ⟨rfl, hb⟩; rw [HRG.out]; have n0_ := Aside0.mk (below_step (by repeat (first | (with_reducible first | exact HB.out | apply below_alloc | apply pw_below_drewN | apply below_drew1) | exact HB.out)) hb); have n1_ := Aside0.mk (blk_below (g := gb) (o := .cells #[.int .i64 st, .slice (some ad1) 12 c1, .slice (some ad2) 2 c2, .slice (some ad3) 12 c3, .slice A4 wt.length c4] 28 (0, 0)) (by (with_reducible repeat (first | refine blk_drewN ?_ _ | refine blk_drew ?_ | refine blk_alloc ?_ _)); exact BK.out) hb); have n2_ := Aside0.mk (Drv.below (g := gd) (st := st) (sp := sp) (sl := sl) (rg := rg) (ns := []) (by (with_reducible repeat (first | refine drv_drewN ?_ _ | refine drv_drew ?_)); exact HD.out) hb); clear HB BK HD; have HB := n0_; have BK := n1_; have HD := n2_; clear n0_ n1_ n2_ hb; have hcz_0 : w12.cell? ⟨gb, 0, none⟩ = some (.int .i64 st) := (blk_cell BK.out 0).trans rfl; have hcz_1 : w12.cell? ⟨gb, 1, none⟩ = some (.slice (some ad1) 12 c1) := (blk_cell BK.out 1).trans rfl; have hcz_2 : w12.cell? ⟨gb, 2, none⟩ = some (.slice (some ad2) 2 c2) := (blk_cell BK.out 2).trans rfl; have hcz_3 : w12.cell? ⟨gb, 3, none⟩ = some (.slice (some ad3) 12 c3) := (blk_cell BK.out 3).trans rfl; have hcz_4 : w12.cell? ⟨gb, 4, none⟩ = some (.slice A4 wt.length c4) := (blk_cell BK.out 4).trans rfl))
        (try simp only [Act.put, List.setIfInBounds_toArray, List.set_cons_zero, List.set_cons_succ])
        go_cut [89] (fun v89 wc => ∃ b : Bool, v89 = .bool b ∧ Aside0 (b = true → ¬ Good st sl rg sp wt) ∧ Aside0 (b = false → Good st sl rg sp wt) ∧ Aside0 (Below w.heap.size w wc) ∧ Aside0 (wc.heap[gb]? = some (.cells #[.int .i64 st, .slice (some ad1) 12 c1, .slice (some ad2) 2 c2, .slice (some ad3) 12 c3, .slice A4 wt.length c4] 28 (0, 0))) ∧ Aside0 (Drv wc gd st sp sl rg []))
        case first =>
          by_cases hst : st = 1
          · subst hst
            have hl1 : ∀ W : World, Drv W gd 1 sp sl rg [] → (Instr.loadAt 76 (.pointer (some ⟨gd, 13, none⟩))).run Try.prog W = .ok (.agg #[.string s0, .string s1, .string s2, .string s3, .string s4, .string s5, .string s6, .string s7, .string s8, .string s9, .string s10, .string s11]) W := fun W h => (by have := drv_load h (o := 13) (l := sl) (ty := 76) (fun i hi => by rw [blk_cell h.blk]; exact dc_sl h.lsp h.lsl (by rw [ESL.out] at hi; exact hi)) Try.underlying76 rfl (by rw [ESL.out]; kernel_rfl); rw [ESL.out] at this; exact this)
            have hl2 : ∀ W : World, Drv W gd 1 sp sl rg [] → (Instr.loadAt 77 (.pointer (some ⟨gd, 25, none⟩))).run Try.prog W = .ok (.agg #[.string r0, .string r1]) W := fun W h => (by have := drv_load h (o := 25) (l := rg) (ty := 77) (fun i hi => by rw [blk_cell h.blk]; exact dc_rg h.lsp h.lsl h.lrg (by rw [ERG.out] at hi; exact hi)) Try.underlying77 rfl (by rw [ERG.out]; kernel_rfl); rw [ERG.out] at this; exact this)
            have HL4 := Aside0.mk (hl1 _ HD.out)
            have HL5 := Aside0.mk (hl2 _ HD.out)
            have he1 : ∀ W : World, (Op.equalIn 10000 76 (.agg #[.string s0, .string s1, .string s2, .string s3, .string s4, .string s5, .string s6, .string s7, .string s8, .string s9, .string s10, .string s11]) (.agg #[.string ByteArray.empty, .string ByteArray.empty, .string ByteArray.empty, .string ByteArray.empty, .string ByteArray.empty, .string ByteArray.empty, .string ByteArray.empty, .string ByteArray.empty, .string ByteArray.empty, .string ByteArray.empty, .string ByteArray.empty, .string ByteArray.empty])).run Try.prog W = .ok (sl.all fun s => s.size == 0) W := fun W => by
              have := equal_strs (P := Try.prog) (t := 76) (e := 9) (n := 12) Try.underlying76 Try.underlying9 (by kernel_rfl) W sl HSH.out.2.1
              rw [ESL.out] at this ⊢
              exact this
            have he2 : ∀ W : World, (Op.equalIn 10000 77 (.agg #[.string r0, .string r1]) (.agg #[.string ByteArray.empty, .string ByteArray.empty])).run Try.prog W = .ok (rg.all fun s => s.size == 0) W := fun W => by
              have := equal_strs (P := Try.prog) (t := 77) (e := 9) (n := 2) Try.underlying77 Try.underlying9 (by kernel_rfl) W rg HSH.out.2.2.1
              rw [ERG.out] at this ⊢
              exact this
            have HE1 := Aside0.mk he1
            have HE2 := Aside0.mk he2
            clear hl1 hl2 he1 he2
            by_cases hz1 : sl.all (fun s => s.size == 0) = true
            · rw [hz1] at HE1
              have HZ1 := Aside0.mk hz1
              clear hz1
              by_cases hz2 : rg.all (fun s => s.size == 0) = true
              · rw [hz2] at HE2
                have HZ2 := Aside0.mk hz2
                clear hz2
                by_cases hz3 : wt.length = 0
                · have hz4 : decide ((wt.length : Int) > 0) = false := decide_eq_false (by omega)
                  have HZ3 := Aside0.mk hz3
                  clear hz3
                  go_wp2_with (first | ((refine gate_guard (by rfl) ?_); dsimp only; refine load_ev rfl rfl (.agg #[.string s0, .string s1, .string s2, .string s3, .string s4, .string s5, .string s6, .string s7, .string s8, .string s9, .string s10, .string s11]) HL4.out rfl ?_) | ((refine gate_guard (by rfl) ?_); dsimp only; refine neq_ev (t := 76) rfl rfl rfl rfl (by kernel_rfl) (HE1.out _) ?_) | ((refine gate_guard (by rfl) ?_); dsimp only; refine load_ev rfl rfl (.agg #[.string r0, .string r1]) HL5.out rfl ?_) | ((refine gate_guard (by rfl) ?_); dsimp only; refine neq_ev (t := 77) rfl rfl rfl rfl (by kernel_rfl) (HE2.out _) ?_))
                  go_meet
                  case rel => exact ⟨false, by rw [decide_eq_false (by have := HZ3.out; omega)], ⟨fun h => by cases h⟩, ⟨fun _ => ⟨HSH.out, HWA.out, HSO.out, HRG.out, fun _ => ⟨HZ1.out, HZ2.out, HZ3.out⟩⟩⟩, ⟨(by repeat (first | (with_reducible first | exact HB.out | apply below_alloc | apply pw_below_drewN | apply below_drew1) | exact HB.out))⟩, ⟨by (with_reducible repeat (first | refine blk_drewN ?_ _ | refine blk_drew ?_ | refine blk_alloc ?_ _)); exact BK.out⟩, ⟨by (with_reducible repeat (first | refine drv_drewN ?_ _ | refine drv_drew ?_)); exact HD.out⟩⟩
                · have hz4 : decide ((wt.length : Int) > 0) = true := decide_eq_true (by omega)
                  have HZ3 := Aside0.mk hz3
                  clear hz3
                  go_wp2_with (first | ((refine gate_guard (by rfl) ?_); dsimp only; refine load_ev rfl rfl (.agg #[.string s0, .string s1, .string s2, .string s3, .string s4, .string s5, .string s6, .string s7, .string s8, .string s9, .string s10, .string s11]) HL4.out rfl ?_) | ((refine gate_guard (by rfl) ?_); dsimp only; refine neq_ev (t := 76) rfl rfl rfl rfl (by kernel_rfl) (HE1.out _) ?_) | ((refine gate_guard (by rfl) ?_); dsimp only; refine load_ev rfl rfl (.agg #[.string r0, .string r1]) HL5.out rfl ?_) | ((refine gate_guard (by rfl) ?_); dsimp only; refine neq_ev (t := 77) rfl rfl rfl rfl (by kernel_rfl) (HE2.out _) ?_))
                  go_meet
                  case rel => exact ⟨true, by rw [decide_eq_true (by have := HZ3.out; omega)], ⟨fun _ hg => HZ3.out (hg.go rfl).2.2⟩, ⟨fun h => by cases h⟩, ⟨(by repeat (first | (with_reducible first | exact HB.out | apply below_alloc | apply pw_below_drewN | apply below_drew1) | exact HB.out))⟩, ⟨by (with_reducible repeat (first | refine blk_drewN ?_ _ | refine blk_drew ?_ | refine blk_alloc ?_ _)); exact BK.out⟩, ⟨by (with_reducible repeat (first | refine drv_drewN ?_ _ | refine drv_drew ?_)); exact HD.out⟩⟩
              · have hz2 : rg.all (fun s => s.size == 0) = false := by simpa using hz2
                rw [hz2] at HE2
                have HZ2 := Aside0.mk hz2
                clear hz2
                go_wp2_with (first | ((refine gate_guard (by rfl) ?_); dsimp only; refine load_ev rfl rfl (.agg #[.string s0, .string s1, .string s2, .string s3, .string s4, .string s5, .string s6, .string s7, .string s8, .string s9, .string s10, .string s11]) HL4.out rfl ?_) | ((refine gate_guard (by rfl) ?_); dsimp only; refine neq_ev (t := 76) rfl rfl rfl rfl (by kernel_rfl) (HE1.out _) ?_) | ((refine gate_guard (by rfl) ?_); dsimp only; refine load_ev rfl rfl (.agg #[.string r0, .string r1]) HL5.out rfl ?_) | ((refine gate_guard (by rfl) ?_); dsimp only; refine neq_ev (t := 77) rfl rfl rfl rfl (by kernel_rfl) (HE2.out _) ?_))
                go_meet
                case rel => exact ⟨true, rfl, ⟨fun _ hg => by have := (hg.go rfl).2.1; rw [HZ2.out] at this; cases this⟩, ⟨fun h => by cases h⟩, ⟨(by repeat (first | (with_reducible first | exact HB.out | apply below_alloc | apply pw_below_drewN | apply below_drew1) | exact HB.out))⟩, ⟨by (with_reducible repeat (first | refine blk_drewN ?_ _ | refine blk_drew ?_ | refine blk_alloc ?_ _)); exact BK.out⟩, ⟨by (with_reducible repeat (first | refine drv_drewN ?_ _ | refine drv_drew ?_)); exact HD.out⟩⟩
            · have hz1 : sl.all (fun s => s.size == 0) = false := by simpa using hz1
              rw [hz1] at HE1
              have HZ1 := Aside0.mk hz1
              clear hz1
              go_wp2_with (first | ((refine gate_guard (by rfl) ?_); dsimp only; refine load_ev rfl rfl (.agg #[.string s0, .string s1, .string s2, .string s3, .string s4, .string s5, .string s6, .string s7, .string s8, .string s9, .string s10, .string s11]) HL4.out rfl ?_) | ((refine gate_guard (by rfl) ?_); dsimp only; refine neq_ev (t := 76) rfl rfl rfl rfl (by kernel_rfl) (HE1.out _) ?_))
              go_meet
              case rel => exact ⟨true, rfl, ⟨fun _ hg => by have := (hg.go rfl).1; rw [HZ1.out] at this; cases this⟩, ⟨fun h => by cases h⟩, ⟨(by repeat (first | (with_reducible first | exact HB.out | apply below_alloc | apply pw_below_drewN | apply below_drew1) | exact HB.out))⟩, ⟨by (with_reducible repeat (first | refine blk_drewN ?_ _ | refine blk_drew ?_ | refine blk_alloc ?_ _)); exact BK.out⟩, ⟨by (with_reducible repeat (first | refine drv_drewN ?_ _ | refine drv_drew ?_)); exact HD.out⟩⟩
          · have hst1 : (st == 1) = false := by rw [beq_eq_false_iff_ne]; exact hst
            have HN : Aside0 (Good st sl rg sp wt) := ⟨⟨HSH.out, HWA.out, HSO.out, HRG.out, fun h => absurd h hst⟩⟩
            clear hst
            go_wp2
            go_meet
            case rel => exact ⟨false, rfl, ⟨fun h => by cases h⟩, ⟨fun _ => HN.out⟩, ⟨(by repeat (first | (with_reducible first | exact HB.out | apply below_alloc | apply pw_below_drewN | apply below_drew1) | exact HB.out))⟩, ⟨by (with_reducible repeat (first | refine blk_drewN ?_ _ | refine blk_drew ?_ | refine blk_alloc ?_ _)); exact BK.out⟩, ⟨by (with_reducible repeat (first | refine drv_drewN ?_ _ | refine drv_drew ?_)); exact HD.out⟩⟩
        case rest =>
          obtain ⟨b, rfl, HT, HFA, HB, BK, HD⟩ := hcut
          have hcz_0 : wc.cell? ⟨gb, 0, none⟩ = some (.int .i64 st) := (blk_cell BK.out 0).trans rfl; have hcz_1 : wc.cell? ⟨gb, 1, none⟩ = some (.slice (some ad1) 12 c1) := (blk_cell BK.out 1).trans rfl; have hcz_2 : wc.cell? ⟨gb, 2, none⟩ = some (.slice (some ad2) 2 c2) := (blk_cell BK.out 2).trans rfl; have hcz_3 : wc.cell? ⟨gb, 3, none⟩ = some (.slice (some ad3) 12 c3) := (blk_cell BK.out 3).trans rfl; have hcz_4 : wc.cell? ⟨gb, 4, none⟩ = some (.slice A4 wt.length c4) := (blk_cell BK.out 4).trans rfl
          cases b with
          | true =>
            have HN := HT.out rfl
            have HN := Aside0.mk HN
            clear HT HFA
            go_wp2
            go_ret2
            exact Or.inl ⟨HN.out, rfl, (by repeat (first | (with_reducible first | exact HB.out | apply below_alloc | apply pw_below_drewN | apply below_drew1) | exact HB.out))⟩
          | false =>
            have HGO := Aside0.mk (HFA.out rfl)
            clear HT HFA
            go_wp2
            go_loopg [96, 7] wt.length (fun kq v96 v7 w' => ∃ (i : Nat) (ns : List (Nat × Pt)), v96 = .int .i64 (i : Int) ∧ v7 = .pointer (some (linkOf gd ns)) ∧ Aside0 (i + kq = wt.length) ∧ Aside0 (ns.map (·.2) = wt.take i) ∧ Aside0 (Below w.heap.size w w') ∧ Aside0 (Drv w' gd st sp sl rg ns))
            case atStart => exact ⟨0, [], rfl, rfl, ⟨Nat.zero_add _⟩, ⟨rfl⟩, ⟨(by repeat (first | (with_reducible first | exact HB.out | apply below_alloc | apply pw_below_drewN | apply below_drew1) | exact HB.out))⟩, ⟨by (with_reducible repeat (first | refine drv_drewN ?_ _ | refine drv_drew ?_)); exact HD.out⟩⟩
            case round =>
              obtain ⟨i, ns, rfl, rfl, HI, HM1, HB, HD⟩ := hrel
              by_cases c1 : i < wt.length
              · have c1b0 : decide ((i : Int) < (wt.length : Int)) = true := decide_eq_true (by omega)
                have p1 : (0 : Int) ≤ (i : Int) := by omega
                have q1 : (i : Int) < (wt.length : Int) := by omega
                have hm := HM.out
                have HWR := Aside0.mk (show wrap64 ((i : Int) + 1) = ((i + 1 : Nat) : Int) by unfold wrap64; omega)
                have HC1 := Aside0.mk c1
                clear hm
                obtain ⟨ad, e1, hx_0, hx_1, hx_2⟩ := at_T54 HR4.out (i : Int) p1 q1
                cases e1
                simp only [Int.toNat_natCast, rd_T54] at hx_0 hx_1 hx_2
                replace hx_0 := (HB.out.cell (World.block_lt_of_cell? w _ hx_0)).trans hx_0
                replace hx_1 := (HB.out.cell (World.block_lt_of_cell? w _ hx_1)).trans hx_1
                replace hx_2 := (HB.out.cell (World.block_lt_of_cell? w _ hx_2)).trans hx_2
                replace p1 := eq_true p1
                replace q1 := eq_true q1
                clear c1
                obtain ⟨x, hE⟩ : ∃ x, x = wt.getD i z54 := ⟨_, rfl⟩
                rw [← hE] at hx_0 hx_1 hx_2
                have HE := Aside0.mk hE
                clear hE
                have hu54 := Try.underlying54
                have hu112 := Try.underlying112
                obtain ⟨lb, lo, hlk0⟩ : ∃ lb lo, (⟨lb, lo, none⟩ : Addr) = linkOf gd ns := by cases ns <;> exact ⟨_, _, rfl⟩
                rw [← hlk0]
                have HLK0 := Aside0.mk hlk0
                have hlk1 : lb = lastN gd ns := (congrArg Addr.block hlk0).trans (linkOf_block gd ns)
                have HLK := Aside0.mk hlk1
                clear hlk1
                clear hlk0
                go_wp2_with (first | ((with_reducible refine gate_dst (N := 9) rfl ?_); refine box_event ?hg (N := 9) ?hd (cs := #[.bool false, .int .i64 0, .string ⟨#[]⟩]) (t := 54) ?hr ?_; (case hd => rfl); (case hg => rfl); (case hr => first | (go_simp; done) | (go_simp; rfl)); intro gp hg w20 hbox hb; have n0_ := Aside0.mk (below_step (by repeat (first | (with_reducible first | exact HB.out | apply below_alloc | apply pw_below_drewN | apply below_drew1) | exact HB.out)) hb); have n2_ := Aside0.mk (Drv.below (g := gd) (st := st) (sp := sp) (sl := sl) (rg := rg) (ns := ns) (by (with_reducible repeat (first | refine drv_drewN ?_ _ | refine drv_drew ?_)); exact HD.out) hb); have HLP : Aside0 (lastN gd ns < gp) := ⟨by rw [hg]; exact Drv.last_lt (st := st) (sp := sp) (sl := sl) (rg := rg) (by (with_reducible repeat (first | refine drv_drewN ?_ _ | refine drv_drew ?_)); exact HD.out)⟩; have HGP : Aside0 (w.heap.size ≤ gp) := ⟨by rw [hg]; exact (below_size (by repeat (first | (with_reducible first | exact HB.out | apply below_alloc | apply pw_below_drewN | apply below_drew1) | exact HB.out)))⟩; clear HB HD; have HB := n0_; have HD := n2_; have BP := Aside0.mk hbox; clear n0_ n2_ hb hbox hg; have hcp_0 : w20.cell? ⟨gp, 0, none⟩ = some (.bool false) := (blk_cell BP.out 0).trans rfl; have hcp_1 : w20.cell? ⟨gp, 1, none⟩ = some (.int .i64 0) := (blk_cell BP.out 1).trans rfl; have hcp_2 : w20.cell? ⟨gp, 2, none⟩ = some (.string ⟨#[]⟩) := (blk_cell BP.out 2).trans rfl; have hfp_0 := blk_frozen BP.out 0; have hfp_1 := blk_frozen BP.out 1; have hfp_2 := blk_frozen BP.out 2) | ((with_reducible refine gate_dst (N := 103) rfl ?_); refine box_event ?hg (N := 103) ?hd (cs := #[.bool x.f0, .int .i64 x.f1, .string x.f2, .pointer none]) (t := 112) ?hr ?_; (case hd => rfl); (case hg => rfl); (case hr => first | (go_simp; done) | (go_simp; rfl)); intro gn hg w21 hbox hb; have n0_ := Aside0.mk (below_step (by repeat (first | (with_reducible first | exact HB.out | apply below_alloc | apply pw_below_drewN | apply below_drew1 | refine below_set ?_ HGP.out) | exact HB.out)) hb); have n2_ := Aside0.mk (Drv.below (g := gd) (st := st) (sp := sp) (sl := sl) (rg := rg) (ns := ns) (by (with_reducible repeat (first | refine drv_drewN ?_ _ | refine drv_drew ?_ | refine Drv.far ?_ HLP.out _)); exact HD.out) hb); have HLN : Aside0 (lastN gd ns < gn) := ⟨by rw [hg]; exact Drv.last_lt (st := st) (sp := sp) (sl := sl) (rg := rg) (by (with_reducible repeat (first | refine drv_drewN ?_ _ | refine drv_drew ?_ | refine Drv.far ?_ HLP.out _)); exact HD.out)⟩; clear HB HD; have HB := n0_; have HD := n2_; have BN : Aside0 (Go.Proofs.Ytkgpnloghmbmlaa.Drv.Node w21 gn x (.pointer none)) := ⟨hbox⟩; clear n0_ n2_ hb hbox hg; have HLB : Aside0 (w.heap.size ≤ lb) := ⟨by rw [HLK.out]; exact Nat.le_trans HGD.out HD.out.seg.le⟩; have hlk : w21.cell? ⟨lb, lo, none⟩ = some (.pointer none) := (HLK0.out.symm ▸ HD.out.linkE); have hlf : w21.frozen? ⟨lb, lo, none⟩ = false := (HLK0.out.symm ▸ HD.out.linkFreeE)))
                go_roundg (gk - 1)
                case measure => have := HI.out; have := HC1.out; omega
                case rel =>
                  exact ⟨i + 1, ns ++ [(gn, x)], by rw [← HWR.out], by rw [linkOf_snoc], ⟨by have := HI.out; have := HC1.out; omega⟩, ⟨by rw [List.map_append, HM1.out, List.take_succ_eq_append_getElem HC1.out]; have h1 := HC1.out; simp [HE.out, List.getD, h1]⟩,
                    ⟨by repeat (first | exact HB.out | refine Below.setCell ?_ HLB.out _ | apply pw_below_drewN | apply below_drew1)⟩, ⟨by (with_reducible repeat (first | refine drv_drewN ?_ _ | refine drv_drew ?_)); rw [HLK0.out]; exact Drv.hang HD.out BN.out HLN.out⟩⟩
              · have c1b0 : decide ((i : Int) < (wt.length : Int)) = false := decide_eq_false (by omega)
                have HI2 : Aside0 (ns.map (·.2) = wt) := ⟨by rw [HM1.out, show i = wt.length by have := HI.out; omega, List.take_length]⟩
                have c1b1 : decide (i < wt.length) = false := decide_eq_false c1
                have c1b2 : ((i : Int) < (wt.length : Int)) = False := eq_false (by omega)
                go_wp2
                go_ret2
                exact Or.inr ⟨HGO.out, gd, ns, rfl, HGD.out, by (with_reducible repeat (first | refine drv_drewN ?_ _ | refine drv_drew ?_)); exact HD.out, HI2.out, (by repeat (first | (with_reducible first | exact HB.out | apply below_alloc | apply pw_below_drewN | apply below_drew1) | exact HB.out))⟩
theorem list12 {α : Type} (l : List α) (h : l.length = 12) : ∃ a0 a1 a2 a3 a4 a5 a6 a7 a8 a9 a10 a11, l = [a0, a1, a2, a3, a4, a5, a6, a7, a8, a9, a10, a11] := by
  match l, h with
  | [a0, a1, a2, a3, a4, a5, a6, a7, a8, a9, a10, a11], _ => exact ⟨a0, a1, a2, a3, a4, a5, a6, a7, a8, a9, a10, a11, rfl⟩
theorem list2 {α : Type} (l : List α) (h : l.length = 2) : ∃ a0 a1, l = [a0, a1] := by
  match l, h with
  | [a0, a1], _ => exact ⟨a0, a1, rfl⟩
theorem readDisk_calls (st : Int) (A1 : Option Addr) (c1 : Nat) (sl : List ByteArray) (A2 : Option Addr) (c2 : Nat) (rg : List ByteArray) (A3 : Option Addr) (c3 : Nat) (sp : List Bool) (A4 : Option Addr) (c4 : Nat) (wt : List S54) (w : World) (hr1 : Kd.C Kd.string w A1 sl.length sl) (hc1 : sl.length ≤ c1) (hr2 : Kd.C Kd.string w A2 rg.length rg) (hc2 : rg.length ≤ c2) (hr3 : Kd.C Kd.bool w A3 sp.length sp) (hc3 : sp.length ≤ c3) (hr4 : Kd.C k54 w A4 wt.length wt) (hc4 : wt.length ≤ c4) :
    Calls Try.prog 52 #[.agg #[.int .i64 st, .slice A1 sl.length c1, .slice A2 rg.length c2, .slice A3 sp.length c3, .slice A4 wt.length c4]] w fun e w' => ReadPost st sl rg sp wt w e w' := by
  by_cases hs : Shaped st sl rg sp wt
  · by_cases hw : wt.any (fun x => !putB x) = true
    · refine (readDisk_wait st A1 c1 sl A2 c2 rg A3 c3 sp A4 c4 wt w hr1 hc1 hr2 hc2 hr3 hc3 hr4 hc4 hs hw).mono fun e w' h => Or.inl ⟨fun hg => ?_, h⟩
      have := hg.wa
      rw [hw] at this
      cases this
    · have hw : wt.any (fun x => !putB x) = false := by simpa using hw
      obtain ⟨s0, s1, s2, s3, s4, s5, s6, s7, s8, s9, s10, s11, esl⟩ := list12 sl hs.2.1
      obtain ⟨r0, r1, erg⟩ := list2 rg hs.2.2.1
      obtain ⟨b0, b1, b2, b3, b4, b5, b6, b7, b8, b9, b10, b11, esp⟩ := list12 sp hs.2.2.2.1
      obtain ⟨ad1, rfl, h1⟩ := strs_at hr1 (by rw [hs.2.1]; omega)
      obtain ⟨ad2, rfl, h2⟩ := strs_at hr2 (by rw [hs.2.2.1]; omega)
      obtain ⟨ad3, rfl, h3⟩ := bools_at hr3 (by rw [hs.2.2.2.1]; omega)
      have l1 : ∀ W : World, Below w.heap.size w W → (Instr.loadAt 76 (.pointer (some ad1))).run Try.prog W = .ok (.agg (sl.map Value.string).toArray) W := fun W hb =>
        loadAt_list W ad1 76 _ _ (fun j v hv => (hb.cell (World.block_lt_of_cell? w _ (h1 j v hv))).trans (h1 j v hv)) Try.underlying76 rfl (by rw [List.length_map, hs.2.1]; kernel_rfl)
      have l2 : ∀ W : World, Below w.heap.size w W → (Instr.loadAt 77 (.pointer (some ad2))).run Try.prog W = .ok (.agg (rg.map Value.string).toArray) W := fun W hb =>
        loadAt_list W ad2 77 _ _ (fun j v hv => (hb.cell (World.block_lt_of_cell? w _ (h2 j v hv))).trans (h2 j v hv)) Try.underlying77 rfl (by rw [List.length_map, hs.2.2.1]; kernel_rfl)
      have l3 : ∀ W : World, Below w.heap.size w W → (Instr.loadAt 73 (.pointer (some ad3))).run Try.prog W = .ok (.agg (sp.map Value.bool).toArray) W := fun W hb =>
        loadAt_list W ad3 73 _ _ (fun j v hv => (hb.cell (World.block_lt_of_cell? w _ (h3 j v hv))).trans (h3 j v hv)) Try.underlying73 rfl (by rw [List.length_map, hs.2.2.2.1]; kernel_rfl)
      have cs : ∀ W : World, Below w.heap.size w W → Calls Try.prog 91 #[.agg #[.int .i64 st, .slice (some ad1) 12 c1, .slice (some ad2) 2 c2, .slice (some ad3) 12 c3, .slice A4 wt.length c4]] W fun e w' => e = .returned (.bool true) ∧ Below W.heap.size W w' := fun W hb => by
        have := impl_Disk_shaped.calls st _ _ sl _ _ rg _ _ sp _ _ wt _ W (Kd.C_below hr1 hb) hc1 (Kd.C_below hr2 hb) hc2 (Kd.C_below hr3 hb) hc3 (Kd.C_below hr4 hb) hc4 (shaped_eq st sl rg sp wt)
        rw [decide_eq_true hs, hs.2.1, hs.2.2.1, hs.2.2.2.1] at this
        exact this
      have cw : ∀ W : World, Below w.heap.size w W → Calls Try.prog 92 #[.slice A4 wt.length c4, .func (.func 93) #[] #[]] W fun e w' => e = .returned (.bool false) ∧ Below W.heap.size W w' := fun W hb => by
        have := containsPut A4 c4 wt W (Kd.C_below hr4 hb) hc4
        rw [hw] at this
        exact this
      have cg : ∀ W : World, Below w.heap.size w W → Calls Try.prog 95 #[.slice (some ad2) 2 c2, .func (.func 96) #[] #[]] W fun e w' => e = .returned (.bool (rg.any fun x => decide ((x.size : Int) > 700))) ∧ Below W.heap.size W w' := fun W hb => by
        have := containsText (some ad2) c2 rg W (Kd.C_below hr2 hb) hc2
        rw [hs.2.2.1] at this
        exact this
      have g1 : Kd.C Kd.string w (some ad1) 12 sl := hs.2.1 ▸ hr1
      have g3 : Kd.C Kd.bool w (some ad3) 12 sp := hs.2.2.2.1 ▸ hr3
      rw [hs.2.1, hs.2.2.1, hs.2.2.2.1]
      exact readDisk_main st ad1 ad2 ad3 A4 c1 c2 c3 c4 s0 s1 s2 s3 s4 s5 s6 s7 s8 s9 s10 s11 r0 r1 b0 b1 b2 b3 b4 b5 b6 b7 b8 b9 b10 b11 sl rg sp wt w esl erg esp (by rw [esl] at l1; exact l1) (by rw [erg] at l2; exact l2) (by rw [esp] at l3; exact l3) cs cw cg g1 g3 hr4 hs hw
  · exact (readDisk_shape st A1 c1 sl A2 c2 rg A3 c3 sp A4 c4 wt w hr1 hc1 hr2 hc2 hr3 hc3 hr4 hc4 hs).mono fun e w' h => Or.inl ⟨fun hg => hs hg.sh, h⟩
end Go.Proofs.Ytkgpnloghmbmlaa.Print
namespace Go.Proofs.Ytkgpnloghmbmlaa.Print
open Go.RowKit Go.Proofs.YtkgpnloghmbmlaaW.PrintWords Go.Proofs.YtkgpnloghmbmlaaW.PrintLast Go.Proofs.YtkgpnloghmbmlaaW.PrintMore Go.Proofs.Ytkgpnloghmbmlaa.Drv
set_option linter.unusedVariables false
set_option linter.unusedSimpArgs false
set_option maxHeartbeats 4000000 in
set_option maxRecDepth 100000 in
theorem waits_calls (g : Nat) (st : Int) (sp : List Bool) (sl rg : List ByteArray) (ns : List (Nat × Pt)) (w : World) (hD : Drv w g st sp sl rg ns) (hn : ns.length ≤ 40) :
    Calls Try.prog 90 #[.pointer (some ⟨g, 0, none⟩)] w fun e w' => ∃ v : Value, e = .returned v ∧ Kd.R k54 54 w' w.heap.size (fun _ => True) v (ns.map (·.2)) ∧ Below w.heap.size w w' := by
  have hu80 := Try.underlying80
  have hu54 := Try.underlying54
  have hu112 := Try.underlying112
  have HD := Aside0.mk hD
  have HN := Aside0.mk hn
  have hfi : w.cell? ⟨g, 27, none⟩ = some (toN ns (.pointer none)) := (blk_cell hD.blk 27).trans (dc_fi hD.lsp hD.lsl hD.lrg)
  obtain ⟨fi, hfi0⟩ : ∃ v, v = toN ns (.pointer none) := ⟨_, rfl⟩
  rw [← hfi0] at hfi
  have HFI := Aside0.mk hfi0
  clear hD hn hfi0
  have HB := Aside0.mk (Below.refl w.heap.size w)
  go_enter Try.func90, Try.ntmps90
  go_wp2
  go_loopg [3, 4] ns.length (fun kq v3 v4 w' => ∃ (dn rs : List (Nat × Pt)), Aside0 (v4 = toN rs (.pointer none)) ∧ Aside0 (ns = dn ++ rs) ∧ Aside0 (rs.length = kq) ∧ Aside0 (Kd.R k54 54 w' w.heap.size (fun _ => True) v3 (dn.map (·.2))) ∧ Aside0 (Below w.heap.size w w'))
  case atStart => exact ⟨[], ns, ⟨HFI.out⟩, ⟨rfl⟩, ⟨rfl⟩, ⟨Kd.R_nil _ _ _ _ _⟩, ⟨(by repeat (first | (with_reducible first | exact HB.out | apply below_alloc | apply pw_below_drewN | apply below_drew1) | exact HB.out))⟩⟩
  case round =>
    clear hfi
    obtain ⟨dn, rs, HV, HE, HI, HO, HB⟩ := hrel
    cases rs with
    | nil =>
      have hv := HV.out
      simp only [toN] at hv
      subst hv
      have HE2 : Aside0 (dn.map (·.2) = ns.map (·.2)) := ⟨by rw [HE.out, List.append_nil]⟩
      go_wp2
      go_ret
      exact ⟨_, rfl, HE2.out ▸ (by (with_reducible repeat (first | apply Kd.R_alloc | apply Kd.R_drewN | apply Kd.R_drew)); exact HO.out), (by repeat (first | (with_reducible first | exact HB.out | apply below_alloc | apply pw_below_drewN | apply below_drew1) | exact HB.out))⟩
    | cons x rs =>
      obtain ⟨b, p⟩ := x
      have hv := HV.out
      simp only [toN] at hv
      subst hv
      have hs := (Seg.append.1 (HE.out ▸ HD.out.seg : Seg w g (dn ++ (b, p) :: rs) _)).2
      have hnd : w.heap[b]? = some (.cells #[.bool p.f0, .int .i64 p.f1, .string p.f2, toN rs (.pointer none)] 112 (0, 0)) := hs.2.1
      obtain ⟨nx, hnx⟩ : ∃ v, v = toN rs (.pointer none) := ⟨_, rfl⟩
      rw [← hnx] at hnd
      have HNX := Aside0.mk hnx
      have HBL := Aside0.mk (blk_lt hnd)
      have hc_0 := (HB.out.cell (p := ⟨b, 0, none⟩) HBL.out).trans (blk_cell hnd 0)
      have hc_1 := (HB.out.cell (p := ⟨b, 1, none⟩) HBL.out).trans (blk_cell hnd 1)
      have hc_2 := (HB.out.cell (p := ⟨b, 2, none⟩) HBL.out).trans (blk_cell hnd 2)
      have HN3 : Aside0 (w.cell? ⟨b, 3, none⟩ = some nx) := ⟨(blk_cell hnd 3).trans rfl⟩
      replace hc_0 : wr.cell? ⟨b, 0, none⟩ = some (.bool p.f0) := hc_0.trans rfl
      replace hc_1 : wr.cell? ⟨b, 1, none⟩ = some (.int .i64 p.f1) := hc_1.trans rfl
      replace hc_2 : wr.cell? ⟨b, 2, none⟩ = some (.string p.f2) := hc_2.trans rfl
      have HLEN : Aside0 (dn.length ≤ 40) := ⟨by have h1 := HN.out; have h2 := congrArg List.length HE.out; rw [List.length_append] at h2; omega⟩
      clear hs hnd hnx
      go_wp2_with (first | ((with_reducible refine gate_builtin (b := .append) (xs := #[.tmp 15, .tmp 20]) rfl ?_); at_builtin; refine Kd.R_append k54 (w0 := w) w.heap.size rfl (.tmp 15) (.tmp 20) 26 54 (.agg #[(.bool false), (.int .i64 0), (.string ⟨#[]⟩)]) 32 rfl Try.underlying26 info54 rfl (by decide) (by omega) u3 (dn.map (·.2)) p [.bool p.f0, .int .i64 p.f1, .string p.f2] (fun _ => True) (fun _ => False) rfl rfl ?aP (fun _ hk => hk.elim) ?aF ?aO ?aB ?aS ?aL ?_; (case aP => exact k54_mkM _ _ _ p); (case aB => exact (by repeat (first | (with_reducible first | exact HB.out | apply below_alloc | apply pw_below_drewN | apply below_drew1) | exact HB.out))); (case aF => exact (fun _ _ => trivial)); (case aO => exact (by (with_reducible repeat (first | apply Kd.R_alloc | apply Kd.R_drewN | apply Kd.R_drew)); exact HO.out)); (case aS => exact (below_size (by repeat (first | (with_reducible first | exact HB.out | apply below_alloc | apply pw_below_drewN | apply below_drew1) | exact HB.out)))); (case aL => have := HLEN.out; rw [List.length_map]; omega); intro v320 w5 ho hb hg hat; have n1_ := Aside0.mk (hb); have n2_ := Aside0.mk (ho); have hn_3 : w5.cell? ⟨b, 3, none⟩ = some nx := (hb.cell HBL.out).trans HN3.out; clear HB HO; have HB := n1_; have HO := n2_; clear n1_ n2_; clear ho hb hg hat))
      go_roundg (gk - 1)
      case measure => have := HI.out; simp only [List.length_cons] at this; omega
      case rel => exact ⟨dn ++ [(b, p)], rs, ⟨HNX.out⟩, ⟨by rw [HE.out, List.append_assoc]; rfl⟩, ⟨by have := HI.out; simp only [List.length_cons] at this; omega⟩, ⟨by rw [List.map_append]; (with_reducible repeat (first | apply Kd.R_alloc | apply Kd.R_drewN | apply Kd.R_drew)); exact HO.out⟩, ⟨(by repeat (first | (with_reducible first | exact HB.out | apply below_alloc | apply pw_below_drewN | apply below_drew1) | exact HB.out))⟩⟩
end Go.Proofs.Ytkgpnloghmbmlaa.Print
namespace Go.Proofs.Ytkgpnloghmbmlaa.Print
open Go.RowKit Go.Proofs.YtkgpnloghmbmlaaW.PrintWords Go.Proofs.YtkgpnloghmbmlaaW.PrintLast Go.Proofs.YtkgpnloghmbmlaaW.PrintMore Go.Proofs.Ytkgpnloghmbmlaa.Drv
set_option linter.unusedVariables false
set_option linter.unusedSimpArgs false
theorem infoC9 : (Try.prog.info? 9).map (fun i => (i.zero, i.size, i.bytes)) = some (some (.string ⟨#[]⟩), 1, 16) := by kernel_rfl
set_option maxHeartbeats 4000000 in
set_option maxRecDepth 100000 in
theorem cloneStr (ad : Addr) (c0 : Nat) (l0 : List ByteArray) (w : World) (hr0 : Kd.C Kd.string w (some ad) l0.length l0) (hlen : l0.length ≤ 4096) :
    Calls Try.prog 88 #[.slice (some ad) l0.length c0] w fun e w' => ∃ v0_ : Value, e = .returned (v0_) ∧ Kd.R Kd.string 9 w' w.heap.size (fun _ => True) v0_ l0 ∧ Below w.heap.size w w' := by
  have heq : ∀ (w : World) (a : Option Addr) (n c : Nat), (binOp .eql 24 (.slice a n c) (.slice none 0 0)).run Try.prog w = .ok (.bool a.isNone) w := fun w a n c => by
    simp only [binOp]
    simp [run_equal_slice_nil w 24 9 a n c Try.underlying24]
  have HR0 := Aside0.mk hr0
  have HLEN := Aside0.mk hlen
  clear hr0 hlen
  have HB := Aside0.mk (Below.refl w.heap.size w)
  go_enter Try.func88, Try.ntmps88
  go_wp2_with (first | ((with_reducible refine gate_dst (N := 5) rfl ?_); refine Kd.R_lit Kd.string _ 9 ?hg (N := 5) ?hd (xs := ([] : List ByteArray)) (inner := []) (ok := fun _ => True) (okp := fun _ => True) ?hr ?hp (fun _ hk => hk) trivial (Below.refl _ _) (Nat.le_refl _) (by simp) ?_; (case hd => rfl); (case hg => rfl); (case hr => first | (go_simp; done) | (go_simp; rfl)); (case hp => exact (Reps.none _ _)); intro v317 w3 ho4 hb hg_ hnew_; clear hg_ hnew_; have n0_ := Aside0.mk (Kd.R_lower ho4 (below_size (by repeat (first | (with_reducible first | exact HB.out | apply below_alloc | apply pw_below_drewN | apply below_drew1) | exact HB.out)))); have n1_ := Aside0.mk (below_step (by repeat (first | (with_reducible first | exact HB.out | apply below_alloc | apply pw_below_drewN | apply below_drew1) | exact HB.out)) hb); clear HB; have HO318 := n0_; have HB := n1_; clear n0_ n1_; clear hb ho4) | ((with_reducible refine gate_builtin (b := .append) (xs := #[.tmp 5, .tmp 6]) rfl ?_); at_builtin; refine Kd.R_append_rows Kd.string (w0 := w) w.heap.size rfl (.tmp 5) (.tmp 6) 24 9 (.string ⟨#[]⟩) 16 rfl Try.underlying24 infoC9 rfl (by decide) (by omega) v317 [] l0 _ _ _ (fun _ => True) (fun _ => False) rfl rfl ?aO ?aR (fun _ _ h => h) (fun _ h => h.elim) ?aF ?aB ?aS ?aL ?_; (case aR => repeat (first | exact (Kd.C_below HR0.out HB.out) | (with_reducible refine Kd.C_alloc ?_ _) | (with_reducible refine Kd.C_drewN ?_ _) | (with_reducible refine Kd.C_drew ?_))); (case aB => exact (by repeat (first | (with_reducible first | exact HB.out | apply below_alloc | apply pw_below_drewN | apply below_drew1) | exact HB.out))); (case aF => exact (fun _ _ => trivial)); (case aO => exact (by (with_reducible repeat (first | apply Kd.R_alloc | apply Kd.R_drewN | apply Kd.R_drew)); exact HO318.out)); (case aS => exact (below_size (by repeat (first | (with_reducible first | exact HB.out | apply below_alloc | apply pw_below_drewN | apply below_drew1) | exact HB.out)))); (case aL => have := HLEN.out; simp only [List.length_nil]; omega); intro v320 w5 ho hb hg hat; have n0_ := Aside0.mk (hb); have n1_ := Aside0.mk (ho); clear HB; clear HO318; have HB := n0_; have HO321 := n1_; clear n0_ n1_; clear ho hb hg hat))
  go_ret
  exact ⟨_, rfl, by (with_reducible repeat (first | apply Kd.R_alloc | apply Kd.R_drewN | apply Kd.R_drew)); exact HO321.out, (by repeat (first | (with_reducible first | exact HB.out | apply below_alloc | apply pw_below_drewN | apply below_drew1) | exact HB.out))⟩
theorem infoC4 : (Try.prog.info? 4).map (fun i => (i.zero, i.size, i.bytes)) = some (some (.bool false), 1, 1) := by kernel_rfl
set_option maxHeartbeats 4000000 in
set_option maxRecDepth 100000 in
theorem cloneBool (ad : Addr) (c0 : Nat) (l0 : List Bool) (w : World) (hr0 : Kd.C Kd.bool w (some ad) l0.length l0) (hlen : l0.length ≤ 4096) :
    Calls Try.prog 89 #[.slice (some ad) l0.length c0] w fun e w' => ∃ v0_ : Value, e = .returned (v0_) ∧ Kd.R Kd.bool 4 w' w.heap.size (fun _ => True) v0_ l0 ∧ Below w.heap.size w w' := by
  have heq : ∀ (w : World) (a : Option Addr) (n c : Nat), (binOp .eql 25 (.slice a n c) (.slice none 0 0)).run Try.prog w = .ok (.bool a.isNone) w := fun w a n c => by
    simp only [binOp]
    simp [run_equal_slice_nil w 25 4 a n c Try.underlying25]
  have HR0 := Aside0.mk hr0
  have HLEN := Aside0.mk hlen
  clear hr0 hlen
  have HB := Aside0.mk (Below.refl w.heap.size w)
  go_enter Try.func89, Try.ntmps89
  go_wp2_with (first | ((with_reducible refine gate_dst (N := 5) rfl ?_); refine Kd.R_lit Kd.bool _ 4 ?hg (N := 5) ?hd (xs := ([] : List Bool)) (inner := []) (ok := fun _ => True) (okp := fun _ => True) ?hr ?hp (fun _ hk => hk) trivial (Below.refl _ _) (Nat.le_refl _) (by simp) ?_; (case hd => rfl); (case hg => rfl); (case hr => first | (go_simp; done) | (go_simp; rfl)); (case hp => exact (Reps.none _ _)); intro v317 w3 ho4 hb hg_ hnew_; clear hg_ hnew_; have n0_ := Aside0.mk (Kd.R_lower ho4 (below_size (by repeat (first | (with_reducible first | exact HB.out | apply below_alloc | apply pw_below_drewN | apply below_drew1) | exact HB.out)))); have n1_ := Aside0.mk (below_step (by repeat (first | (with_reducible first | exact HB.out | apply below_alloc | apply pw_below_drewN | apply below_drew1) | exact HB.out)) hb); clear HB; have HO318 := n0_; have HB := n1_; clear n0_ n1_; clear hb ho4) | ((with_reducible refine gate_builtin (b := .append) (xs := #[.tmp 5, .tmp 6]) rfl ?_); at_builtin; refine Kd.R_append_rows Kd.bool (w0 := w) w.heap.size rfl (.tmp 5) (.tmp 6) 25 4 (.bool false) 1 rfl Try.underlying25 infoC4 rfl (by decide) (by omega) v317 [] l0 _ _ _ (fun _ => True) (fun _ => False) rfl rfl ?aO ?aR (fun _ _ h => h) (fun _ h => h.elim) ?aF ?aB ?aS ?aL ?_; (case aR => repeat (first | exact (Kd.C_below HR0.out HB.out) | (with_reducible refine Kd.C_alloc ?_ _) | (with_reducible refine Kd.C_drewN ?_ _) | (with_reducible refine Kd.C_drew ?_))); (case aB => exact (by repeat (first | (with_reducible first | exact HB.out | apply below_alloc | apply pw_below_drewN | apply below_drew1) | exact HB.out))); (case aF => exact (fun _ _ => trivial)); (case aO => exact (by (with_reducible repeat (first | apply Kd.R_alloc | apply Kd.R_drewN | apply Kd.R_drew)); exact HO318.out)); (case aS => exact (below_size (by repeat (first | (with_reducible first | exact HB.out | apply below_alloc | apply pw_below_drewN | apply below_drew1) | exact HB.out)))); (case aL => have := HLEN.out; simp only [List.length_nil]; omega); intro v320 w5 ho hb hg hat; have n0_ := Aside0.mk (hb); have n1_ := Aside0.mk (ho); clear HB; clear HO318; have HB := n0_; have HO321 := n1_; clear n0_ n1_; clear ho hb hg hat))
  go_ret
  exact ⟨_, rfl, by (with_reducible repeat (first | apply Kd.R_alloc | apply Kd.R_drewN | apply Kd.R_drew)); exact HO321.out, (by repeat (first | (with_reducible first | exact HB.out | apply below_alloc | apply pw_below_drewN | apply below_drew1) | exact HB.out))⟩
theorem drv_C_sl {w : World} {g : Nat} {st : Int} {sp : List Bool} {sl rg : List ByteArray} {ns : List (Nat × Pt)} (h : Drv w g st sp sl rg ns) : Kd.C Kd.string w (some ⟨g, 13, none⟩) sl.length sl :=
  Kd.C_of_reads (d := ByteArray.empty) ⟨rfl, by have := h.lsl; omega, fun _ => ⟨_, rfl, fun j hj => by
    rw [show (⟨g, 13, none⟩ : Addr).add j = ⟨g, 13 + j, none⟩ by (unfold Addr.add; split <;> simp_all), blk_cell h.blk]
    exact dc_sl h.lsp h.lsl (by have := h.lsl; omega)⟩⟩
theorem drv_C_rg {w : World} {g : Nat} {st : Int} {sp : List Bool} {sl rg : List ByteArray} {ns : List (Nat × Pt)} (h : Drv w g st sp sl rg ns) : Kd.C Kd.string w (some ⟨g, 25, none⟩) rg.length rg :=
  Kd.C_of_reads (d := ByteArray.empty) ⟨rfl, by have := h.lrg; omega, fun _ => ⟨_, rfl, fun j hj => by
    rw [show (⟨g, 25, none⟩ : Addr).add j = ⟨g, 25 + j, none⟩ by (unfold Addr.add; split <;> simp_all), blk_cell h.blk]
    exact dc_rg h.lsp h.lsl h.lrg (by have := h.lrg; omega)⟩⟩
theorem drv_C_sp {w : World} {g : Nat} {st : Int} {sp : List Bool} {sl rg : List ByteArray} {ns : List (Nat × Pt)} (h : Drv w g st sp sl rg ns) : Kd.C Kd.bool w (some ⟨g, 1, none⟩) sp.length sp :=
  Kd.C_of_reads (d := false) ⟨rfl, by have := h.lsp; omega, fun _ => ⟨_, rfl, fun j hj => by
    rw [show (⟨g, 1, none⟩ : Addr).add j = ⟨g, 1 + j, none⟩ by (unfold Addr.add; split <;> simp_all), blk_cell h.blk]
    exact dc_sp h.lsp (by have := h.lsp; omega)⟩⟩
end Go.Proofs.Ytkgpnloghmbmlaa.Print
namespace Go.Proofs.Ytkgpnloghmbmlaa.Print
open Go.RowKit Go.Proofs.YtkgpnloghmbmlaaW.PrintWords Go.Proofs.YtkgpnloghmbmlaaW.PrintLast Go.Proofs.YtkgpnloghmbmlaaW.PrintMore Go.Proofs.Ytkgpnloghmbmlaa.Drv
set_option linter.unusedVariables false
set_option linter.unusedSimpArgs false
theorem drv_st {W : World} {g : Nat} {st : Int} {sp : List Bool} {sl rg : List ByteArray} {ns : List (Nat × Pt)} (h : Drv W g st sp sl rg ns) : W.cell? ⟨g, 0, none⟩ = some (.int .i64 st) := (blk_cell h.blk 0).trans dc_st
theorem R_setOwn {α : Type} {d : Kd α} {e base g : Nat} {ok : Nat → Prop} {w : World} {v : Value} {xs : List α} (h : d.R e w base ok v xs) (hg : g < base) (j : Nat) (u : Value) : d.R e (w.setCell ⟨g, j, none⟩ u) base ok v xs :=
  Kd.R_mono (Kd.R_keep (Kd.R_bound h) (KeepBut.set_ (KeepBut.refl w g none) j u) (fun k hk => by have := hk.2.1; omega)) (fun k hk => hk.1)
theorem cloneStrN (ad : Addr) (n c0 : Nat) (l0 : List ByteArray) (w : World) (hr0 : Kd.C Kd.string w (some ad) l0.length l0) (hl : l0.length = n) (hlen : n ≤ 4096) :
    Calls Try.prog 88 #[.slice (some ad) n c0] w fun e w' => ∃ v0_ : Value, e = .returned (v0_) ∧ Kd.R Kd.string 9 w' w.heap.size (fun _ => True) v0_ l0 ∧ Below w.heap.size w w' := by
  subst hl
  exact cloneStr ad c0 l0 w hr0 hlen
theorem cloneBoolN (ad : Addr) (n c0 : Nat) (l0 : List Bool) (w : World) (hr0 : Kd.C Kd.bool w (some ad) l0.length l0) (hl : l0.length = n) (hlen : n ≤ 4096) :
    Calls Try.prog 89 #[.slice (some ad) n c0] w fun e w' => ∃ v0_ : Value, e = .returned (v0_) ∧ Kd.R Kd.bool 4 w' w.heap.size (fun _ => True) v0_ l0 ∧ Below w.heap.size w w' := by
  subst hl
  exact cloneBool ad c0 l0 w hr0 hlen
set_option maxHeartbeats 4000000 in
set_option maxRecDepth 100000 in
theorem disk_calls (g : Nat) (st : Int) (sp : List Bool) (sl rg : List ByteArray) (ns : List (Nat × Pt)) (w : World) (hD : Drv w g st sp sl rg ns) (hn : ns.length ≤ 40) :
    Calls Try.prog 50 #[.pointer (some ⟨g, 0, none⟩)] w fun e w' => ∃ v1 v2 v3 v4 : Value, e = .returned (.agg #[.int .i64 st, v1, v2, v3, v4]) ∧ Kd.R Kd.string 9 w' w.heap.size (fun k_ => some k_ ≠ v2.ownBlock) v1 sl ∧ Kd.R Kd.string 9 w' w.heap.size (fun k_ => some k_ ≠ v1.ownBlock) v2 rg ∧ Kd.R Kd.bool 4 w' w.heap.size (fun _ => True) v3 sp ∧ Kd.R k54 54 w' w.heap.size (fun _ => True) v4 (ns.map (·.2)) ∧ Below w.heap.size w w' := by
  have hu28 := Try.underlying28
  have hu80 := Try.underlying80
  have hu75 := Try.underlying75
  have hu76 := Try.underlying76
  have hu77 := Try.underlying77
  have hu73 := Try.underlying73
  have HD := Aside0.mk hD
  have HN := Aside0.mk hn
  clear hD hn
  have HB := Aside0.mk (Below.refl w.heap.size w)
  go_enter Try.func50, Try.ntmps50
  go_wp2_with (first | ((with_reducible refine gate_dst (N := 2) rfl ?_); refine box_event ?hg (N := 2) ?hd (cs := #[.int .i64 0, .slice none 0 0, .slice none 0 0, .slice none 0 0, .slice none 0 0]) (t := 28) ?hr ?_; (case hd => rfl); (case hg => rfl); (case hr => first | (go_simp; done) | (go_simp; rfl)); intro gr hg w1 hbox hb; have n0_ := Aside0.mk (below_step (by repeat (first | (with_reducible first | exact HB.out | apply below_alloc | apply pw_below_drewN | apply below_drew1) | exact HB.out)) hb); have n1_ := Aside0.mk hbox; have n2_ := Aside0.mk (Drv.below (g := g) (st := st) (sp := sp) (sl := sl) (rg := rg) (ns := ns) (by (with_reducible repeat (first | refine drv_drewN ?_ _ | refine drv_drew ?_)); exact HD.out) hb); have HGR : Aside0 (w.heap.size ≤ gr) := ⟨by rw [hg]; exact (below_size (by repeat (first | (with_reducible first | exact HB.out | apply below_alloc | apply pw_below_drewN | apply below_drew1) | exact HB.out)))⟩; clear HB HD; have HB := n0_; have BK := n1_; have HD := n2_; clear n0_ n1_ n2_ hb hbox hg))
  have nb_ := Aside0.mk (below_drew1 HB.out)
  have nd_ := Aside0.mk (drv_drew HD.out)
  have nk_ := Aside0.mk (blk_drew BK.out)
  clear HB HD BK
  have HB := nb_
  have HD := nd_
  have BK := nk_
  clear nb_ nd_ nk_
  refine start_ (n := 25) (S := fun w' => w'.cell? ⟨g, 0, none⟩ = some (.int .i64 st)) (ds := [24]) #[false, false, false, false, false, false, false, false, false, false, false, false, false, false, false, false, false, false, false, false, false, false, false, false, false] (by kernel_rfl) rfl rfl (drv_st HD.out) (fun hHeld => ?_)
  generalize w1.drew = w3 at HB HD BK hHeld ⊢
  refine pure_ (i := 0) (N := (some 3)) (v := ?_) (a' := ?_) #[true, false, false, false, false, false, false, false, false, false, false, false, false, false, false, false, false, false, false, false, false, false, false, false, false] rfl rfl (by kernel_rfl) (fun _ _ _ h => h) (Or.inl ⟨by rfl, ?_⟩) ?_ ?_
  rotate_left
  · intro w'
    go_simp
    with_reducible rfl
  rotate_left
  · simp only [Act.put, List.setIfInBounds_toArray, List.set_cons_zero, List.set_cons_succ]
    rfl
  refine pure_ (i := 1) (N := (some 4)) (v := ?_) (a' := ?_) #[true, true, false, false, false, false, false, false, false, false, false, false, false, false, false, false, false, false, false, false, false, false, false, false, false] rfl rfl (by kernel_rfl) (fun _ _ _ h => h) (Or.inl ⟨by rfl, ?_⟩) ?_ ?_
  rotate_left
  · intro w'
    go_simp
    with_reducible rfl
  rotate_left
  · simp only [Act.put, List.setIfInBounds_toArray, List.set_cons_zero, List.set_cons_succ]
    rfl
  refine pure_ (i := 2) (N := (some 5)) (v := ?_) (a' := ?_) #[true, true, true, false, false, false, false, false, false, false, false, false, false, false, false, false, false, false, false, false, false, false, false, false, false] rfl rfl (by kernel_rfl) (fun _ _ _ h => h) (Or.inl ⟨by rfl, ?_⟩) ?_ ?_
  rotate_left
  · intro w'
    go_simp
    with_reducible rfl
  rotate_left
  · simp only [Act.put, List.setIfInBounds_toArray, List.set_cons_zero, List.set_cons_succ]
    rfl
  refine pure_ (i := 3) (N := (some 6)) (v := ?_) (a' := ?_) #[true, true, true, true, false, false, false, false, false, false, false, false, false, false, false, false, false, false, false, false, false, false, false, false, false] rfl rfl (by kernel_rfl) (fun _ _ _ h => h) (Or.inl ⟨by rfl, ?_⟩) ?_ ?_
  rotate_left
  · intro w'
    go_simp
    with_reducible rfl
  rotate_left
  · simp only [Act.put, List.setIfInBounds_toArray, List.set_cons_zero, List.set_cons_succ]
    rfl
  refine take_ (i := 4) (N := (some 7)) (v := ?_) (a' := ?_) #[true, true, true, true, true, false, false, false, false, false, false, false, false, false, false, false, false, false, false, false, false, false, false, false, false] rfl rfl (by kernel_rfl) (fun _ _ _ h => h) (Or.inl ⟨by rfl, ?_⟩) hHeld ?_ ?_
  rotate_left
  · intro w' hS_
    go_simp
    with_reducible rfl
  rotate_left
  · simp only [Act.put, List.setIfInBounds_toArray, List.set_cons_zero, List.set_cons_succ]
    rfl
  refine pure_ (i := 5) (N := (some 8)) (v := ?_) (a' := ?_) #[true, true, true, true, true, true, false, false, false, false, false, false, false, false, false, false, false, false, false, false, false, false, false, false, false] rfl rfl (by kernel_rfl) (fun _ _ _ h => h) (Or.inl ⟨by rfl, ?_⟩) ?_ ?_
  rotate_left
  · intro w'
    go_simp
    with_reducible rfl
  rotate_left
  · simp only [Act.put, List.setIfInBounds_toArray, List.set_cons_zero, List.set_cons_succ]
    rfl
  refine pure_ (i := 6) (N := (some 9)) (v := ?_) (a' := ?_) #[true, true, true, true, true, true, true, false, false, false, false, false, false, false, false, false, false, false, false, false, false, false, false, false, false] rfl rfl (by kernel_rfl) (fun _ _ _ h => h) (Or.inl ⟨by rfl, ?_⟩) ?_ ?_
  rotate_left
  · intro w'
    go_simp
    with_reducible rfl
  rotate_left
  · simp only [Act.put, List.setIfInBounds_toArray, List.set_cons_zero, List.set_cons_succ]
    rfl
  refine pure_ (i := 7) (N := (some 10)) (v := ?_) (a' := ?_) #[true, true, true, true, true, true, true, true, false, false, false, false, false, false, false, false, false, false, false, false, false, false, false, false, false] rfl rfl (by kernel_rfl) (fun _ _ _ h => h) (Or.inl ⟨by rfl, ?_⟩) ?_ ?_
  rotate_left
  · intro w'
    go_simp
    with_reducible rfl
  rotate_left
  · simp only [Act.put, List.setIfInBounds_toArray, List.set_cons_zero, List.set_cons_succ]
    rfl
  refine pure_ (i := 8) (N := (some 11)) (v := ?_) (a' := ?_) #[true, true, true, true, true, true, true, true, true, false, false, false, false, false, false, false, false, false, false, false, false, false, false, false, false] rfl rfl (by kernel_rfl) (fun _ _ _ h => h) (Or.inl ⟨by rfl, ?_⟩) ?_ ?_
  rotate_left
  · intro w'
    go_simp
    rfl
  rotate_left
  · simp only [Act.put, List.setIfInBounds_toArray, List.set_cons_zero, List.set_cons_succ]
    rfl
  refine pure_ (i := 10) (N := (some 13)) (v := ?_) (a' := ?_) #[true, true, true, true, true, true, true, true, true, false, true, false, false, false, false, false, false, false, false, false, false, false, false, false, false] rfl rfl (by kernel_rfl) (fun _ _ _ h => h) (Or.inl ⟨by rfl, ?_⟩) ?_ ?_
  rotate_left
  · intro w'
    go_simp
    with_reducible rfl
  rotate_left
  · simp only [Act.put, List.setIfInBounds_toArray, List.set_cons_zero, List.set_cons_succ]
    rfl
  refine pure_ (i := 11) (N := (some 14)) (v := ?_) (a' := ?_) #[true, true, true, true, true, true, true, true, true, false, true, true, false, false, false, false, false, false, false, false, false, false, false, false, false] rfl rfl (by kernel_rfl) (fun _ _ _ h => h) (Or.inl ⟨by rfl, ?_⟩) ?_ ?_
  rotate_left
  · intro w'
    go_simp
    with_reducible rfl
  rotate_left
  · simp only [Act.put, List.setIfInBounds_toArray, List.set_cons_zero, List.set_cons_succ]
    rfl
  refine pure_ (i := 12) (N := (some 15)) (v := ?_) (a' := ?_) #[true, true, true, true, true, true, true, true, true, false, true, true, true, false, false, false, false, false, false, false, false, false, false, false, false] rfl rfl (by kernel_rfl) (fun _ _ _ h => h) (Or.inl ⟨by rfl, ?_⟩) ?_ ?_
  rotate_left
  · intro w'
    go_simp
    with_reducible rfl
  rotate_left
  · simp only [Act.put, List.setIfInBounds_toArray, List.set_cons_zero, List.set_cons_succ]
    rfl
  refine pure_ (i := 13) (N := (some 16)) (v := ?_) (a' := ?_) #[true, true, true, true, true, true, true, true, true, false, true, true, true, true, false, false, false, false, false, false, false, false, false, false, false] rfl rfl (by kernel_rfl) (fun _ _ _ h => h) (Or.inl ⟨by rfl, ?_⟩) ?_ ?_
  rotate_left
  · intro w'
    go_simp
    rfl
  rotate_left
  · simp only [Act.put, List.setIfInBounds_toArray, List.set_cons_zero, List.set_cons_succ]
    rfl
  refine pure_ (i := 15) (N := (some 18)) (v := ?_) (a' := ?_) #[true, true, true, true, true, true, true, true, true, false, true, true, true, true, false, true, false, false, false, false, false, false, false, false, false] rfl rfl (by kernel_rfl) (fun _ _ _ h => h) (Or.inl ⟨by rfl, ?_⟩) ?_ ?_
  rotate_left
  · intro w'
    go_simp
    with_reducible rfl
  rotate_left
  · simp only [Act.put, List.setIfInBounds_toArray, List.set_cons_zero, List.set_cons_succ]
    rfl
  refine pure_ (i := 16) (N := (some 19)) (v := ?_) (a' := ?_) #[true, true, true, true, true, true, true, true, true, false, true, true, true, true, false, true, true, false, false, false, false, false, false, false, false] rfl rfl (by kernel_rfl) (fun _ _ _ h => h) (Or.inl ⟨by rfl, ?_⟩) ?_ ?_
  rotate_left
  · intro w'
    go_simp
    with_reducible rfl
  rotate_left
  · simp only [Act.put, List.setIfInBounds_toArray, List.set_cons_zero, List.set_cons_succ]
    rfl
  refine pure_ (i := 17) (N := (some 20)) (v := ?_) (a' := ?_) #[true, true, true, true, true, true, true, true, true, false, true, true, true, true, false, true, true, true, false, false, false, false, false, false, false] rfl rfl (by kernel_rfl) (fun _ _ _ h => h) (Or.inl ⟨by rfl, ?_⟩) ?_ ?_
  rotate_left
  · intro w'
    go_simp
    with_reducible rfl
  rotate_left
  · simp only [Act.put, List.setIfInBounds_toArray, List.set_cons_zero, List.set_cons_succ]
    rfl
  refine pure_ (i := 18) (N := (some 21)) (v := ?_) (a' := ?_) #[true, true, true, true, true, true, true, true, true, false, true, true, true, true, false, true, true, true, true, false, false, false, false, false, false] rfl rfl (by kernel_rfl) (fun _ _ _ h => h) (Or.inl ⟨by rfl, ?_⟩) ?_ ?_
  rotate_left
  · intro w'
    go_simp
    with_reducible rfl
  rotate_left
  · simp only [Act.put, List.setIfInBounds_toArray, List.set_cons_zero, List.set_cons_succ]
    rfl
  refine pure_ (i := 19) (N := (some 22)) (v := ?_) (a' := ?_) #[true, true, true, true, true, true, true, true, true, false, true, true, true, true, false, true, true, true, true, true, false, false, false, false, false] rfl rfl (by kernel_rfl) (fun _ _ _ h => h) (Or.inl ⟨by rfl, ?_⟩) ?_ ?_
  rotate_left
  · intro w'
    go_simp
    rfl
  rotate_left
  · simp only [Act.put, List.setIfInBounds_toArray, List.set_cons_zero, List.set_cons_succ]
    rfl
  refine pure_ (i := 21) (N := (some 24)) (v := ?_) (a' := ?_) #[true, true, true, true, true, true, true, true, true, false, true, true, true, true, false, true, true, true, true, true, false, true, false, false, false] rfl rfl (by kernel_rfl) (fun _ _ _ h => h) (Or.inl ⟨by rfl, ?_⟩) ?_ ?_
  rotate_left
  · intro w'
    go_simp
    with_reducible rfl
  rotate_left
  · simp only [Act.put, List.setIfInBounds_toArray, List.set_cons_zero, List.set_cons_succ]
    rfl
  refine one_ (i := 9) (N := (some 12)) #[true, true, true, true, true, true, true, true, true, true, true, true, true, true, false, true, true, true, true, true, false, true, false, false, false] rfl rfl (by kernel_rfl) (by decide) (fun K hK => ?_)
  refine goes_ Try.func88 (by kernel_rfl) rfl #[.slice (some ⟨g, 13, none⟩) 12 12] (by rfl) rfl rfl (by (try simp only [List.map_toArray, List.map_cons, List.map_nil]); first | done | rfl) ?_
  refine (cloneStrN ⟨g, 13, none⟩ 12 12 sl _ (drv_C_sl HD.out) HD.out.lsl (by omega)).mono ?_
  rintro e w4 ⟨v1, rfl, ho, hb⟩
  obtain ⟨A1, c1, rfl⟩ := Kd.R_slice ho
  refine ⟨_, rfl, ?_⟩
  have nd_ := Aside0.mk (Drv.below (g := g) (st := st) (sp := sp) (sl := sl) (rg := rg) (ns := ns) HD.out hb)
  have nb_ := Aside0.mk (below_step HB.out hb)
  have nk_ := Aside0.mk (blk_below (g := gr) (o := .cells #[.int .i64 0, .slice none 0 0, .slice none 0 0, .slice none 0 0, .slice none 0 0] 28 (0, 0)) BK.out hb)
  have HV1 : Aside0 (Kd.R Kd.string 9 w4 w3.heap.size (fun _ => True) (.slice A1 sl.length c1) sl) := ⟨ho⟩
  have HG3 : Aside0 (gr < w3.heap.size) := ⟨blk_lt BK.out⟩
  have HS3 : Aside0 (w.heap.size ≤ w3.heap.size) := ⟨below_size HB.out⟩
  clear HD HB BK
  have HD := nd_
  have HB := nb_
  have BK := nk_
  clear nd_ nb_ nk_ ho hb
  refine hK.out _ _ (drv_st HD.out) (fun hHeld => ?_)
  clear hK K
  refine one_ (i := 14) (N := (some 17)) #[true, true, true, true, true, true, true, true, true, true, true, true, true, true, true, true, true, true, true, true, false, true, false, false, false] rfl rfl (by kernel_rfl) (by decide) (fun K hK => ?_)
  refine goes_ Try.func88 (by kernel_rfl) rfl #[.slice (some ⟨g, 25, none⟩) 2 2] (by rfl) rfl rfl (by (try simp only [List.map_toArray, List.map_cons, List.map_nil]); first | done | rfl) ?_
  refine (cloneStrN ⟨g, 25, none⟩ 2 2 rg _ (drv_C_rg HD.out) HD.out.lrg (by omega)).mono ?_
  rintro e w5 ⟨v2, rfl, ho, hb⟩
  obtain ⟨A2, c2, rfl⟩ := Kd.R_slice ho
  refine ⟨_, rfl, ?_⟩
  have nd_ := Aside0.mk (Drv.below (g := g) (st := st) (sp := sp) (sl := sl) (rg := rg) (ns := ns) HD.out hb)
  have nb_ := Aside0.mk (below_step HB.out hb)
  have nk_ := Aside0.mk (blk_below (g := gr) (o := .cells #[.int .i64 0, .slice none 0 0, .slice none 0 0, .slice none 0 0, .slice none 0 0] 28 (0, 0)) BK.out hb)
  have n1_ : Aside0 (Kd.R Kd.string 9 w5 w3.heap.size (fun k_ => some k_ ≠ (Value.slice A2 rg.length c2).ownBlock) (.slice A1 sl.length c1) sl) := ⟨Kd.R_mono (Kd.R_told (Kd.R_old HV1.out hb) (Kd.R_base ho)) (fun _ h => h.1.2)⟩
  have n2_ : Aside0 (Kd.R Kd.string 9 w5 w4.heap.size (fun k_ => some k_ ≠ (Value.slice A1 sl.length c1).ownBlock) (.slice A2 rg.length c2) rg) := ⟨Kd.R_mono (Kd.R_bound ho) (fun k_ hk e_ => by have h1 := Kd.R_lt HV1.out k_ e_.symm; have h2 := hk.2.1; omega)⟩
  have HG4 : Aside0 (gr < w4.heap.size) := ⟨blk_lt BK.out⟩
  have HS4 : Aside0 (w.heap.size ≤ w4.heap.size) := ⟨below_size HB.out⟩
  clear HV1
  have HV1 := n1_
  have HV2 := n2_
  clear n1_ n2_
  clear HD HB BK
  have HD := nd_
  have HB := nb_
  have BK := nk_
  clear nd_ nb_ nk_ ho hb
  refine hK.out _ _ (drv_st HD.out) (fun hHeld => ?_)
  clear hK K
  refine one_ (i := 20) (N := (some 23)) #[true, true, true, true, true, true, true, true, true, true, true, true, true, true, true, true, true, true, true, true, true, true, false, false, false] rfl rfl (by kernel_rfl) (by decide) (fun K hK => ?_)
  refine goes_ Try.func89 (by kernel_rfl) rfl #[.slice (some ⟨g, 1, none⟩) 12 12] (by rfl) rfl rfl (by (try simp only [List.map_toArray, List.map_cons, List.map_nil]); first | done | rfl) ?_
  refine (cloneBoolN ⟨g, 1, none⟩ 12 12 sp _ (drv_C_sp HD.out) HD.out.lsp (by omega)).mono ?_
  rintro e w6 ⟨v3, rfl, ho, hb⟩
  obtain ⟨A3, c3, rfl⟩ := Kd.R_slice ho
  refine ⟨_, rfl, ?_⟩
  have nd_ := Aside0.mk (Drv.below (g := g) (st := st) (sp := sp) (sl := sl) (rg := rg) (ns := ns) HD.out hb)
  have nb_ := Aside0.mk (below_step HB.out hb)
  have nk_ := Aside0.mk (blk_below (g := gr) (o := .cells #[.int .i64 0, .slice none 0 0, .slice none 0 0, .slice none 0 0, .slice none 0 0] 28 (0, 0)) BK.out hb)
  have n1_ := Aside0.mk (Kd.R_below HV1.out hb)
  have n2_ := Aside0.mk (Kd.R_below HV2.out hb)
  have HV3 : Aside0 (Kd.R Kd.bool 4 w6 w5.heap.size (fun _ => True) (.slice A3 sp.length c3) sp) := ⟨ho⟩
  have HG5 : Aside0 (gr < w5.heap.size) := ⟨blk_lt BK.out⟩
  have HS5 : Aside0 (w.heap.size ≤ w5.heap.size) := ⟨below_size HB.out⟩
  clear HV1 HV2
  have HV1 := n1_
  have HV2 := n2_
  clear n1_ n2_
  clear HD HB BK
  have HD := nd_
  have HB := nb_
  have BK := nk_
  clear nd_ nb_ nk_ ho hb
  refine hK.out _ _ (drv_st HD.out) (fun hHeld => ?_)
  clear hK K
  refine one_ (i := 22) (N := (some 25)) #[true, true, true, true, true, true, true, true, true, true, true, true, true, true, true, true, true, true, true, true, true, true, true, false, false] rfl rfl (by kernel_rfl) (by decide) (fun K hK => ?_)
  refine goes_ Try.func90 (by kernel_rfl) rfl #[.pointer (some ⟨g, 0, none⟩)] (by rfl) rfl rfl (by (try simp only [List.map_toArray, List.map_cons, List.map_nil]); first | done | rfl) ?_
  refine (waits_calls g st sp sl rg ns _ HD.out HN.out).mono ?_
  rintro e w7 ⟨v4, rfl, ho, hb⟩
  obtain ⟨A4, c4, rfl⟩ := Kd.R_slice ho
  refine ⟨_, rfl, ?_⟩
  have nd_ := Aside0.mk (Drv.below (g := g) (st := st) (sp := sp) (sl := sl) (rg := rg) (ns := ns) HD.out hb)
  have nb_ := Aside0.mk (below_step HB.out hb)
  have nk_ := Aside0.mk (blk_below (g := gr) (o := .cells #[.int .i64 0, .slice none 0 0, .slice none 0 0, .slice none 0 0, .slice none 0 0] 28 (0, 0)) BK.out hb)
  have n1_ := Aside0.mk (Kd.R_below HV1.out hb)
  have n2_ := Aside0.mk (Kd.R_below HV2.out hb)
  have n3_ := Aside0.mk (Kd.R_below HV3.out hb)
  have HV4 : Aside0 (Kd.R k54 54 w7 w6.heap.size (fun _ => True) (.slice A4 ns.length c4) (ns.map (·.2))) := ⟨by simpa only [List.length_map] using ho⟩
  have HG6 : Aside0 (gr < w6.heap.size) := ⟨blk_lt BK.out⟩
  have HS6 : Aside0 (w.heap.size ≤ w6.heap.size) := ⟨below_size HB.out⟩
  clear HV1 HV2 HV3
  have HV1 := n1_
  have HV2 := n2_
  have HV3 := n3_
  clear n1_ n2_ n3_
  clear HD HB BK
  have HD := nd_
  have HB := nb_
  have BK := nk_
  clear nd_ nb_ nk_ ho hb
  refine hK.out _ _ (drv_st HD.out) (fun hHeld => ?_)
  clear hK K
  refine pure_ (i := 23) (N := (some 26)) (v := ?_) (a' := ?_) #[true, true, true, true, true, true, true, true, true, true, true, true, true, true, true, true, true, true, true, true, true, true, true, true, false] rfl rfl (by kernel_rfl) (fun _ _ _ h => h) (Or.inl ⟨by rfl, ?_⟩) ?_ ?_
  rotate_left
  · intro w'
    go_simp
    with_reducible rfl
  rotate_left
  · simp only [Act.put, List.setIfInBounds_toArray, List.set_cons_zero, List.set_cons_succ]
    rfl
  refine last_ (i := 24) (N := none) #[true, true, true, true, true, true, true, true, true, true, true, true, true, true, true, true, true, true, true, true, true, true, true, true, true] rfl rfl (by kernel_rfl) (by decide) (fun K hK => ?_)
  have hcz_0 : w7.cell? ⟨gr, 0, none⟩ = some (.int .i64 0) := (blk_cell BK.out 0).trans rfl
  have hcz_1 : w7.cell? ⟨gr, 1, none⟩ = some (.slice none 0 0) := (blk_cell BK.out 1).trans rfl
  have hcz_2 : w7.cell? ⟨gr, 2, none⟩ = some (.slice none 0 0) := (blk_cell BK.out 2).trans rfl
  have hcz_3 : w7.cell? ⟨gr, 3, none⟩ = some (.slice none 0 0) := (blk_cell BK.out 3).trans rfl
  have hcz_4 : w7.cell? ⟨gr, 4, none⟩ = some (.slice none 0 0) := (blk_cell BK.out 4).trans rfl
  have hfz_0 := blk_frozen BK.out 0
  have hfz_1 := blk_frozen BK.out 1
  have hfz_2 := blk_frozen BK.out 2
  have hfz_3 := blk_frozen BK.out 3
  have hfz_4 := blk_frozen BK.out 4
  refine skip_ (w1 := ?_) (by rfl) rfl ?_ ?_
  rotate_left
  · go_simp
    rfl
  refine hK.out _ _ ?_
  clear hK K

  refine done_ (by kernel_rfl) ?_
  go_wp2
  refine bodyPost_ret (results_cell_row rfl _ _ gr 28 #[.int .i64 st, .slice A1 sl.length c1, .slice A2 rg.length c2, .slice A3 sp.length c3, .slice A4 ns.length c4] (0, 0) _ rfl (by
    refine blk_put (cs := #[.int .i64 st, .slice A1 sl.length c1, .slice A2 rg.length c2, .slice A3 sp.length c3, .slice none 0 0]) ?_ 4 _ rfl
    refine blk_put (cs := #[.int .i64 st, .slice A1 sl.length c1, .slice A2 rg.length c2, .slice none 0 0, .slice none 0 0]) ?_ 3 _ rfl
    refine blk_put (cs := #[.int .i64 st, .slice A1 sl.length c1, .slice none 0 0, .slice none 0 0, .slice none 0 0]) ?_ 2 _ rfl
    refine blk_put (cs := #[.int .i64 st, .slice none 0 0, .slice none 0 0, .slice none 0 0, .slice none 0 0]) ?_ 1 _ rfl
    refine blk_put (cs := #[.int .i64 0, .slice none 0 0, .slice none 0 0, .slice none 0 0, .slice none 0 0]) ?_ 0 _ rfl
    exact BK.out) Try.underlying28 rfl (by kernel_rfl)) rfl ?_
  have hset : ∀ {W : World} (h : Below w.heap.size w W) (j : Nat) (u : Value), Below w.heap.size w (W.setCell ⟨gr, j, none⟩ u) := fun h j u => below_set h HGR.out
  exact ⟨_, _, _, _, rfl, Kd.R_lower (R_setOwn (R_setOwn (R_setOwn (R_setOwn (R_setOwn HV1.out HG3.out 0 _) HG3.out 1 _) HG3.out 2 _) HG3.out 3 _) HG3.out 4 _) HS3.out,
    Kd.R_lower (R_setOwn (R_setOwn (R_setOwn (R_setOwn (R_setOwn HV2.out HG4.out 0 _) HG4.out 1 _) HG4.out 2 _) HG4.out 3 _) HG4.out 4 _) HS4.out,
    Kd.R_lower (R_setOwn (R_setOwn (R_setOwn (R_setOwn (R_setOwn HV3.out HG5.out 0 _) HG5.out 1 _) HG5.out 2 _) HG5.out 3 _) HG5.out 4 _) HS5.out,
    Kd.R_lower (R_setOwn (R_setOwn (R_setOwn (R_setOwn (R_setOwn HV4.out HG6.out 0 _) HG6.out 1 _) HG6.out 2 _) HG6.out 3 _) HG6.out 4 _) HS6.out,
    hset (hset (hset (hset (hset HB.out 0 _) 1 _) 2 _) 3 _) 4 _⟩
end Go.Proofs.Ytkgpnloghmbmlaa.Print
