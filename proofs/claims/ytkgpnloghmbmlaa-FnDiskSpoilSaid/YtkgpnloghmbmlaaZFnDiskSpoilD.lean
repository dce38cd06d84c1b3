/- Proved, with what follows on it: the row of the law FnDiskSpoil. Conditions: the row's alone. Texts of this session and words that the kit's print laid for this seat, merged and cut by shrink.py, a program of this session. -/
import Derived.Test.YtkgpnloghmbmlaaZFnDiskSpoilC
namespace Go.Proofs.Ytkgpnloghmbmlaa.Print
open Go.RowKit Go.Proofs.YtkgpnloghmbmlaaW.PrintWords Go.Proofs.YtkgpnloghmbmlaaW.PrintLast Go.Proofs.YtkgpnloghmbmlaaW.PrintMore
attribute [local go_sem] max2_int min2_int max_two min_two max_three min_three max_four min_four   -- for this text's walks alone
set_option linter.unusedVariables false
set_option linter.unusedSimpArgs false
mutual
def spec_DiskOk.j0 : Nat → Bool → Int → List ByteArray → List ByteArray → List Bool → List (S54) → Option (Bool)
 | 0, _, _, _, _, _, _ => none
 | k + 1, x34, x129000, x129001, x129002, x129003, x129004 => if x34 = true then (some false) else (spec_DiskOk.l0 k 0 x129000 x129001 x129002 x129003 x129004)
def spec_DiskOk.l0 : Nat → Int → Int → List ByteArray → List ByteArray → List Bool → List (S54) → Option (Bool)
 | 0, _, _, _, _, _, _ => none
 | k + 1, x3, x129000, x129001, x129002, x129003, x129004 => if x3 < (x129001.length : Int) then (if 0 ≤ x3 then (if ((rdOf ByteArray.empty x129001 x3).size : Int) = 0 then (if x3 < (x129003.length : Int) then (if rdOf false x129003 x3 = true then (some false) else (if x129000 = 1 then (if ((rdOf ByteArray.empty x129001 x3).size : Int) > 0 then (some false) else (spec_DiskOk.l0 k (wrap64 (x3 + 1)) x129000 x129001 x129002 x129003 x129004)) else (spec_DiskOk.l0 k (wrap64 (x3 + 1)) x129000 x129001 x129002 x129003 x129004))) else (none)) else (if ((rdOf ByteArray.empty x129001 x3).size : Int) = 3 then (if x3 < (x129003.length : Int) then (if rdOf false x129003 x3 = true then (if x129000 = 1 then (if ((rdOf ByteArray.empty x129001 x3).size : Int) > 0 then (some false) else (spec_DiskOk.l0 k (wrap64 (x3 + 1)) x129000 x129001 x129002 x129003 x129004)) else (spec_DiskOk.l0 k (wrap64 (x3 + 1)) x129000 x129001 x129002 x129003 x129004)) else (if x129000 = 1 then (if ((rdOf ByteArray.empty x129001 x3).size : Int) > 0 then (some false) else (spec_DiskOk.l0 k (wrap64 (x3 + 1)) x129000 x129001 x129002 x129003 x129004)) else (spec_DiskOk.l0 k (wrap64 (x3 + 1)) x129000 x129001 x129002 x129003 x129004))) else (none)) else (some false))) else (none)) else (spec_DiskOk.l1 k 0 x129000 x129001 x129002 x129003 x129004)
def spec_DiskOk.l1 : Nat → Int → Int → List ByteArray → List ByteArray → List Bool → List (S54) → Option (Bool)
 | 0, _, _, _, _, _, _ => none
 | k + 1, x5, x129000, x129001, x129002, x129003, x129004 => if x5 < (x129002.length : Int) then (if 0 ≤ x5 then (if ((rdOf ByteArray.empty x129002 x5).size : Int) > 700 then (some false) else (if x129000 = 1 then (if ((rdOf ByteArray.empty x129002 x5).size : Int) > 0 then (some false) else (spec_DiskOk.l1 k (wrap64 (x5 + 1)) x129000 x129001 x129002 x129003 x129004)) else (spec_DiskOk.l1 k (wrap64 (x5 + 1)) x129000 x129001 x129002 x129003 x129004))) else (none)) else (spec_DiskOk.l2 k 0 x129000 x129001 x129002 x129003 x129004)
def spec_DiskOk.l2 : Nat → Int → Int → List ByteArray → List ByteArray → List Bool → List (S54) → Option (Bool)
 | 0, _, _, _, _, _, _ => none
 | k + 1, x6, x129000, x129001, x129002, x129003, x129004 => if x6 < (x129004.length : Int) then (if 0 ≤ x6 then ((spec_l3Put.f ((rd_T54 x129004 x6).f0) ((rd_T54 x129004 x6).f1) ((rd_T54 x129004 x6).f2)).bind fun t136 => (if t136 = true then (spec_DiskOk.l2 k (wrap64 (x6 + 1)) x129000 x129001 x129002 x129003 x129004) else (some false))) else (none)) else (if x129000 = 1 then (some ((x129004.length : Int) == 0)) else (some true))
end
def spec_DiskOk.f (k : Nat) (a0_0 : Int) (l0_1 : List ByteArray) (l0_2 : List ByteArray) (l0_3 : List Bool) (l0_4 : List (S54)) : Option (Bool) := (spec_l6In.f a0_0 0 2).bind fun t129 => (if t129 = true then (if (l0_1.length : Int) = 12 then (if (l0_2.length : Int) = 2 then (if (l0_3.length : Int) = 12 then (spec_DiskOk.j0 k (decide ((l0_4.length : Int) > 40)) a0_0 l0_1 l0_2 l0_3 l0_4) else (spec_DiskOk.j0 k true a0_0 l0_1 l0_2 l0_3 l0_4)) else (spec_DiskOk.j0 k true a0_0 l0_1 l0_2 l0_3 l0_4)) else (spec_DiskOk.j0 k true a0_0 l0_1 l0_2 l0_3 l0_4)) else (spec_DiskOk.j0 k true a0_0 l0_1 l0_2 l0_3 l0_4))
set_option maxHeartbeats 8000000 in
set_option maxRecDepth 100000 in
theorem spec_DiskOk.calls (k : Nat) (a0_0 : Int) (A0_1 : Option Addr) (c0_1 : Nat) (l0_1 : List ByteArray) (A0_2 : Option Addr) (c0_2 : Nat) (l0_2 : List ByteArray) (A0_3 : Option Addr) (c0_3 : Nat) (l0_3 : List Bool) (A0_4 : Option Addr) (c0_4 : Nat) (l0_4 : List (S54)) (r : Bool) (w : World) (hr0_1 : Kd.C Kd.string w A0_1 l0_1.length l0_1) (hc0_1 : l0_1.length ≤ c0_1) (hr0_2 : Kd.C Kd.string w A0_2 l0_2.length l0_2) (hc0_2 : l0_2.length ≤ c0_2) (hr0_3 : Kd.C Kd.bool w A0_3 l0_3.length l0_3) (hc0_3 : l0_3.length ≤ c0_3) (hr0_4 : Kd.C k54 w A0_4 l0_4.length l0_4) (hc0_4 : l0_4.length ≤ c0_4) (h : spec_DiskOk.f k a0_0 l0_1 l0_2 l0_3 l0_4 = some r) :
  Calls Try.prog 26 #[.agg #[.int .i64 a0_0, .slice A0_1 l0_1.length c0_1, .slice A0_2 l0_2.length c0_2, .slice A0_3 l0_3.length c0_3, .slice A0_4 l0_4.length c0_4]] w fun e w' => e = .returned (.bool r) ∧ Below w.heap.size w w' := by
 have hu28 := Try.underlying28
 have hu54 := Try.underlying54
 have HR0_1 := Az.mk hr0_1
 have HC0_1 := Az.mk hc0_1
 clear hr0_1 hc0_1
 have HR0_2 := Az.mk hr0_2
 have HC0_2 := Az.mk hc0_2
 clear hr0_2 hc0_2
 have HR0_3 := Az.mk hr0_3
 have HC0_3 := Az.mk hc0_3
 clear hr0_3 hc0_3
 have HR0_4 := Az.mk hr0_4
 have HC0_4 := Az.mk hc0_4
 clear hr0_4 hc0_4
 have HB := Az.mk (Below.refl w.heap.size w)
 have H : ((spec_l6In.f a0_0 0 2).bind fun t129 => (if t129 = true then (if (l0_1.length : Int) = 12 then (if (l0_2.length : Int) = 2 then (if (l0_3.length : Int) = 12 then (spec_DiskOk.j0 k (decide ((l0_4.length : Int) > 40)) a0_0 l0_1 l0_2 l0_3 l0_4) else (spec_DiskOk.j0 k true a0_0 l0_1 l0_2 l0_3 l0_4)) else (spec_DiskOk.j0 k true a0_0 l0_1 l0_2 l0_3 l0_4)) else (spec_DiskOk.j0 k true a0_0 l0_1 l0_2 l0_3 l0_4)) else (spec_DiskOk.j0 k true a0_0 l0_1 l0_2 l0_3 l0_4))) = some r := h
 clear h
 have HC2 := Az.mk H
 clear H
 go_enter Try.func26, Try.ntmps26
 go_upto_region 1 with (first | ((with_reducible refine zqg (N := 1) rfl ?_); (try (refine gate_guard (by rfl) ?_; dsimp only)); refine zqb ?hg (N := 1) ?hd (cs := #[.int .i64 a0_0, .slice A0_1 l0_1.length c0_1, .slice A0_2 l0_2.length c0_2, .slice A0_3 l0_3.length c0_3, .slice A0_4 l0_4.length c0_4]) (t := 28) ?hr ?_; (case hd => rfl); (case hg => rfl); (case hr => first | (go_simp; done) | (go_simp; rfl)); intro gb128 hg w3 hbox hb; have n0_ := Az.mk (below_step (by repeat (first | (with_reducible first | exact HB.out | apply zq2 | apply zq1 | apply zqd) | exact HB.out)) hb); have n1_ := Az.mk (hbox); have n2_ := Az.mk ((by rw [hg]; exact (below_size (by repeat (first | (with_reducible first | exact HB.out | apply zq2 | apply zq1 | apply zqd) | exact HB.out))) : w.heap.size ≤ gb128)); have n3_ := Az.mk ((by rw [hg]; exact (below_size (by repeat (first | (with_reducible first | exact HB.out | apply zq2 | apply zq1 | apply zqd) | exact HB.out))) : w.heap.size ≤ gb128)); clear HB; have HB := n0_; have BK128 := n1_; have GW128 := n2_; have GE128 := n3_; clear n0_ n1_ n2_ n3_; clear hb hbox hg))
 (try simp only [Act.put, List.setIfInBounds_toArray, List.set_cons_zero, List.set_cons_succ])
 go_cut [34] (fun v34 wc => ∃ (kq : Nat) (x34_1 : Bool), v34 = .bool x34_1 ∧ Az (spec_DiskOk.j0 kq x34_1 a0_0 l0_1 l0_2 l0_3 l0_4 = some r) ∧ Az (kq ≤ k) ∧ Az (wc.heap[gb128]? = some (.cells #[.int .i64 a0_0, (.slice A0_1 l0_1.length c0_1), (.slice A0_2 l0_2.length c0_2), (.slice A0_3 l0_3.length c0_3), (.slice A0_4 l0_4.length c0_4)] 28 (0, 0))) ∧ Az (Below w.heap.size w wc))
 case first =>
  have H := HC2.out
  clear HC2
  replace H := Option.bind_eq_some_iff.mp H
  obtain ⟨t129, A40, H⟩ := H
  replace H : (if t129 = true then (if (l0_1.length : Int) = 12 then (if (l0_2.length : Int) = 2 then (if (l0_3.length : Int) = 12 then (spec_DiskOk.j0 k (decide ((l0_4.length : Int) > 40)) a0_0 l0_1 l0_2 l0_3 l0_4) else (spec_DiskOk.j0 k true a0_0 l0_1 l0_2 l0_3 l0_4)) else (spec_DiskOk.j0 k true a0_0 l0_1 l0_2 l0_3 l0_4)) else (spec_DiskOk.j0 k true a0_0 l0_1 l0_2 l0_3 l0_4)) else (spec_DiskOk.j0 k true a0_0 l0_1 l0_2 l0_3 l0_4)) = some r := H
  have A4 := Az.mk A40
  clear A40
  by_cases c5 : t129 = true
  ·subst c5
   have H1 : (if (l0_1.length : Int) = 12 then (if (l0_2.length : Int) = 2 then (if (l0_3.length : Int) = 12 then (spec_DiskOk.j0 k (decide ((l0_4.length : Int) > 40)) a0_0 l0_1 l0_2 l0_3 l0_4) else (spec_DiskOk.j0 k true a0_0 l0_1 l0_2 l0_3 l0_4)) else (spec_DiskOk.j0 k true a0_0 l0_1 l0_2 l0_3 l0_4)) else (spec_DiskOk.j0 k true a0_0 l0_1 l0_2 l0_3 l0_4)) = some r := by rw [if_pos rfl] at H; exact H
   clear H
   have H := H1
   clear H1
   by_cases c6 : (l0_1.length : Int) = 12
   ·rw [if_pos c6] at H
    have c6b0 : ((l0_1.length : Int) == 12) = true := beq_iff_eq.mpr c6
    have c6b1 : ((l0_1.length : Int) != 12) = false := bne_eq_false_iff_eq.mpr c6
    clear c6
    (first | rw [c6b0] | (simp only [i64_w, i32_w]; rw [c6b0]) | skip)
    by_cases c7 : (l0_2.length : Int) = 2
    ·rw [if_pos c7] at H
     have c7b0 : ((l0_2.length : Int) == 2) = true := beq_iff_eq.mpr c7
     have c7b1 : ((l0_2.length : Int) != 2) = false := bne_eq_false_iff_eq.mpr c7
     clear c7
     by_cases c8 : (l0_3.length : Int) = 12
     ·rw [if_pos c8] at H
      have c8b0 : ((l0_3.length : Int) == 12) = true := beq_iff_eq.mpr c8
      have c8b1 : ((l0_3.length : Int) != 12) = false := bne_eq_false_iff_eq.mpr c8
      clear c8
      have H' := Az.mk H
      clear H
      have hcz9_0 : w3.cell? ⟨gb128, 0, none⟩ = some (.int .i64 a0_0) := (zq4 BK128.out 0).trans rfl
      have hcz9_1 : w3.cell? ⟨gb128, 1, none⟩ = some (.slice A0_1 l0_1.length c0_1) := (zq4 BK128.out 1).trans rfl
      have hcz9_2 : w3.cell? ⟨gb128, 2, none⟩ = some (.slice A0_2 l0_2.length c0_2) := (zq4 BK128.out 2).trans rfl
      have hcz9_3 : w3.cell? ⟨gb128, 3, none⟩ = some (.slice A0_3 l0_3.length c0_3) := (zq4 BK128.out 3).trans rfl
      have hcz9_4 : w3.cell? ⟨gb128, 4, none⟩ = some (.slice A0_4 l0_4.length c0_4) := (zq4 BK128.out 4).trans rfl
      have hfz9_0 := zq5 BK128.out 0
      have hfz9_1 := zq5 BK128.out 1
      have hfz9_2 := zq5 BK128.out 2
      have hfz9_3 := zq5 BK128.out 3
      have hfz9_4 := zq5 BK128.out 4
      go_wp2_with (first | ((with_reducible refine gate_callee (f := 51) rfl ?_); refine zq9 (some 9) rfl rfl Try.func51 (by kernel_rfl) rfl #[.int .i64 a0_0, .int .i64 0, .int .i64 2] rfl (by (try simp only [List.map_toArray, List.map_cons, List.map_nil]); first | done | rfl | (simp only [List.length_drop, List.length_take]; rfl)) ?_; (with_reducible refine (spec_l6In.calls a0_0 0 2 true _ A4.out).mono ?_); rintro e w' ⟨rfl, ⟨nd, rfl⟩⟩; refine ⟨_, rfl, ?_⟩))
      go_meet
      case rel => exact ⟨_, (decide ((l0_4.length : Int) > 40)), (by first | rfl | (simp; done) | (simp [*]; done)), H', ⟨by first | omega | exact Nat.le_refl _⟩, ⟨by (with_reducible repeat (first | refine zq6 ?_ _ | refine zq8 ?_ | refine zq7 ?_ _)); exact BK128.out⟩, ⟨by repeat (first | (with_reducible first | exact HB.out | apply zq2 | apply zq1 | apply zqd | refine zq3 ?_ GE128.out) | exact HB.out)⟩⟩
     ·rw [if_neg c8] at H
      have c8b0 : ((l0_3.length : Int) == 12) = false := beq_eq_false_iff_ne.mpr c8
      have c8b1 : ((l0_3.length : Int) != 12) = true := bne_iff_ne.mpr c8
      have H' := Az.mk H
      clear H
      have hcz10_0 : w3.cell? ⟨gb128, 0, none⟩ = some (.int .i64 a0_0) := (zq4 BK128.out 0).trans rfl
      have hcz10_1 : w3.cell? ⟨gb128, 1, none⟩ = some (.slice A0_1 l0_1.length c0_1) := (zq4 BK128.out 1).trans rfl
      have hcz10_2 : w3.cell? ⟨gb128, 2, none⟩ = some (.slice A0_2 l0_2.length c0_2) := (zq4 BK128.out 2).trans rfl
      have hcz10_3 : w3.cell? ⟨gb128, 3, none⟩ = some (.slice A0_3 l0_3.length c0_3) := (zq4 BK128.out 3).trans rfl
      have hcz10_4 : w3.cell? ⟨gb128, 4, none⟩ = some (.slice A0_4 l0_4.length c0_4) := (zq4 BK128.out 4).trans rfl
      have hfz10_0 := zq5 BK128.out 0
      have hfz10_1 := zq5 BK128.out 1
      have hfz10_2 := zq5 BK128.out 2
      have hfz10_3 := zq5 BK128.out 3
      have hfz10_4 := zq5 BK128.out 4
      go_wp2_with (first | ((with_reducible refine gate_callee (f := 51) rfl ?_); refine zq9 (some 9) rfl rfl Try.func51 (by kernel_rfl) rfl #[.int .i64 a0_0, .int .i64 0, .int .i64 2] rfl (by (try simp only [List.map_toArray, List.map_cons, List.map_nil]); first | done | rfl | (simp only [List.length_drop, List.length_take]; rfl)) ?_; (with_reducible refine (spec_l6In.calls a0_0 0 2 true _ A4.out).mono ?_); rintro e w' ⟨rfl, ⟨nd, rfl⟩⟩; refine ⟨_, rfl, ?_⟩))
      go_meet
      case rel => exact ⟨_, (true), (by first | rfl | (simp; done) | (simp [*]; done)), H', ⟨by first | omega | exact Nat.le_refl _⟩, ⟨by (with_reducible repeat (first | refine zq6 ?_ _ | refine zq8 ?_ | refine zq7 ?_ _)); exact BK128.out⟩, ⟨by repeat (first | (with_reducible first | exact HB.out | apply zq2 | apply zq1 | apply zqd | refine zq3 ?_ GE128.out) | exact HB.out)⟩⟩
    ·rw [if_neg c7] at H
     have c7b0 : ((l0_2.length : Int) == 2) = false := beq_eq_false_iff_ne.mpr c7
     have c7b1 : ((l0_2.length : Int) != 2) = true := bne_iff_ne.mpr c7
     have H' := Az.mk H
     clear H
     have hcz11_0 : w3.cell? ⟨gb128, 0, none⟩ = some (.int .i64 a0_0) := (zq4 BK128.out 0).trans rfl
     have hcz11_1 : w3.cell? ⟨gb128, 1, none⟩ = some (.slice A0_1 l0_1.length c0_1) := (zq4 BK128.out 1).trans rfl
     have hcz11_2 : w3.cell? ⟨gb128, 2, none⟩ = some (.slice A0_2 l0_2.length c0_2) := (zq4 BK128.out 2).trans rfl
     have hcz11_3 : w3.cell? ⟨gb128, 3, none⟩ = some (.slice A0_3 l0_3.length c0_3) := (zq4 BK128.out 3).trans rfl
     have hcz11_4 : w3.cell? ⟨gb128, 4, none⟩ = some (.slice A0_4 l0_4.length c0_4) := (zq4 BK128.out 4).trans rfl
     have hfz11_0 := zq5 BK128.out 0
     have hfz11_1 := zq5 BK128.out 1
     have hfz11_2 := zq5 BK128.out 2
     have hfz11_3 := zq5 BK128.out 3
     have hfz11_4 := zq5 BK128.out 4
     go_wp2_with (first | ((with_reducible refine gate_callee (f := 51) rfl ?_); refine zq9 (some 9) rfl rfl Try.func51 (by kernel_rfl) rfl #[.int .i64 a0_0, .int .i64 0, .int .i64 2] rfl (by (try simp only [List.map_toArray, List.map_cons, List.map_nil]); first | done | rfl | (simp only [List.length_drop, List.length_take]; rfl)) ?_; (with_reducible refine (spec_l6In.calls a0_0 0 2 true _ A4.out).mono ?_); rintro e w' ⟨rfl, ⟨nd, rfl⟩⟩; refine ⟨_, rfl, ?_⟩))
     go_meet
     case rel => exact ⟨_, (true), (by first | rfl | (simp; done) | (simp [*]; done)), H', ⟨by first | omega | exact Nat.le_refl _⟩, ⟨by (with_reducible repeat (first | refine zq6 ?_ _ | refine zq8 ?_ | refine zq7 ?_ _)); exact BK128.out⟩, ⟨by repeat (first | (with_reducible first | exact HB.out | apply zq2 | apply zq1 | apply zqd | refine zq3 ?_ GE128.out) | exact HB.out)⟩⟩
   ·rw [if_neg c6] at H
    have c6b0 : ((l0_1.length : Int) == 12) = false := beq_eq_false_iff_ne.mpr c6
    have c6b1 : ((l0_1.length : Int) != 12) = true := bne_iff_ne.mpr c6
    (first | rw [c6b0] | (simp only [i64_w, i32_w]; rw [c6b0]) | skip)
    have H' := Az.mk H
    clear H
    have hcz12_0 : w3.cell? ⟨gb128, 0, none⟩ = some (.int .i64 a0_0) := (zq4 BK128.out 0).trans rfl
    have hcz12_1 : w3.cell? ⟨gb128, 1, none⟩ = some (.slice A0_1 l0_1.length c0_1) := (zq4 BK128.out 1).trans rfl
    have hcz12_2 : w3.cell? ⟨gb128, 2, none⟩ = some (.slice A0_2 l0_2.length c0_2) := (zq4 BK128.out 2).trans rfl
    have hcz12_3 : w3.cell? ⟨gb128, 3, none⟩ = some (.slice A0_3 l0_3.length c0_3) := (zq4 BK128.out 3).trans rfl
    have hcz12_4 : w3.cell? ⟨gb128, 4, none⟩ = some (.slice A0_4 l0_4.length c0_4) := (zq4 BK128.out 4).trans rfl
    have hfz12_0 := zq5 BK128.out 0
    have hfz12_1 := zq5 BK128.out 1
    have hfz12_2 := zq5 BK128.out 2
    have hfz12_3 := zq5 BK128.out 3
    have hfz12_4 := zq5 BK128.out 4
    go_wp2_with (first | ((with_reducible refine gate_callee (f := 51) rfl ?_); refine zq9 (some 9) rfl rfl Try.func51 (by kernel_rfl) rfl #[.int .i64 a0_0, .int .i64 0, .int .i64 2] rfl (by (try simp only [List.map_toArray, List.map_cons, List.map_nil]); first | done | rfl | (simp only [List.length_drop, List.length_take]; rfl)) ?_; (with_reducible refine (spec_l6In.calls a0_0 0 2 true _ A4.out).mono ?_); rintro e w' ⟨rfl, ⟨nd, rfl⟩⟩; refine ⟨_, rfl, ?_⟩))
    go_meet
    case rel => exact ⟨_, (true), (by first | rfl | (simp; done) | (simp [*]; done)), H', ⟨by first | omega | exact Nat.le_refl _⟩, ⟨by (with_reducible repeat (first | refine zq6 ?_ _ | refine zq8 ?_ | refine zq7 ?_ _)); exact BK128.out⟩, ⟨by repeat (first | (with_reducible first | exact HB.out | apply zq2 | apply zq1 | apply zqd | refine zq3 ?_ GE128.out) | exact HB.out)⟩⟩
  ·replace c5 := Bool.eq_false_iff.mpr c5
   subst c5
   have H1 : (spec_DiskOk.j0 k true a0_0 l0_1 l0_2 l0_3 l0_4) = some r := by rw [if_neg (show ¬ (false = true) by decide)] at H; exact H
   clear H
   have H := H1
   clear H1
   have H' := Az.mk H
   clear H
   have hcz13_0 : w3.cell? ⟨gb128, 0, none⟩ = some (.int .i64 a0_0) := (zq4 BK128.out 0).trans rfl
   have hcz13_1 : w3.cell? ⟨gb128, 1, none⟩ = some (.slice A0_1 l0_1.length c0_1) := (zq4 BK128.out 1).trans rfl
   have hcz13_2 : w3.cell? ⟨gb128, 2, none⟩ = some (.slice A0_2 l0_2.length c0_2) := (zq4 BK128.out 2).trans rfl
   have hcz13_3 : w3.cell? ⟨gb128, 3, none⟩ = some (.slice A0_3 l0_3.length c0_3) := (zq4 BK128.out 3).trans rfl
   have hcz13_4 : w3.cell? ⟨gb128, 4, none⟩ = some (.slice A0_4 l0_4.length c0_4) := (zq4 BK128.out 4).trans rfl
   have hfz13_0 := zq5 BK128.out 0
   have hfz13_1 := zq5 BK128.out 1
   have hfz13_2 := zq5 BK128.out 2
   have hfz13_3 := zq5 BK128.out 3
   have hfz13_4 := zq5 BK128.out 4
   go_wp2_with (first | ((with_reducible refine gate_callee (f := 51) rfl ?_); refine zq9 (some 9) rfl rfl Try.func51 (by kernel_rfl) rfl #[.int .i64 a0_0, .int .i64 0, .int .i64 2] rfl (by (try simp only [List.map_toArray, List.map_cons, List.map_nil]); first | done | rfl | (simp only [List.length_drop, List.length_take]; rfl)) ?_; (with_reducible refine (spec_l6In.calls a0_0 0 2 false _ A4.out).mono ?_); rintro e w' ⟨rfl, ⟨nd, rfl⟩⟩; refine ⟨_, rfl, ?_⟩))
   go_meet
   case rel => exact ⟨_, (true), (by first | rfl | (simp; done) | (simp [*]; done)), H', ⟨by first | omega | exact Nat.le_refl _⟩, ⟨by (with_reducible repeat (first | refine zq6 ?_ _ | refine zq8 ?_ | refine zq7 ?_ _)); exact BK128.out⟩, ⟨by repeat (first | (with_reducible first | exact HB.out | apply zq2 | apply zq1 | apply zqd | refine zq3 ?_ GE128.out) | exact HB.out)⟩⟩
 case rest =>
  clear HC2
  try clear c2
  try clear p2
  try clear c5
  try clear c6
  try clear c6b0
  try clear c6b1
  try clear c7
  try clear c7b0
  try clear c7b1
  try clear c8
  try clear c8b0
  try clear c8b1
  try clear hcz10_0
  try clear hcz10_1
  try clear hcz10_2
  try clear hcz10_3
  try clear hcz10_4
  try clear hcz11_0
  try clear hcz11_1
  try clear hcz11_2
  try clear hcz11_3
  try clear hcz11_4
  try clear hcz12_0
  try clear hcz12_1
  try clear hcz12_2
  try clear hcz12_3
  try clear hcz12_4
  try clear hcz13_0
  try clear hcz13_1
  try clear hcz13_2
  try clear hcz13_3
  try clear hcz13_4
  try clear hcz9_0
  try clear hcz9_1
  try clear hcz9_2
  try clear hcz9_3
  try clear hcz9_4
  try clear hfz10_0
  try clear hfz10_1
  try clear hfz10_2
  try clear hfz10_3
  try clear hfz10_4
  try clear hfz11_0
  try clear hfz11_1
  try clear hfz11_2
  try clear hfz11_3
  try clear hfz11_4
  try clear hfz12_0
  try clear hfz12_1
  try clear hfz12_2
  try clear hfz12_3
  try clear hfz12_4
  try clear hfz13_0
  try clear hfz13_1
  try clear hfz13_2
  try clear hfz13_3
  try clear hfz13_4
  try clear hfz9_0
  try clear hfz9_1
  try clear hfz9_2
  try clear hfz9_3
  try clear hfz9_4
  obtain ⟨kq, x34_1, rfl, HA, HJ1, BK128, HB⟩ := hcut
  cases kq with
  | zero => exact absurd HA.out (by simp [spec_DiskOk.j0])
  | succ kj1 =>
   have H := HA.out
   clear HA
   simp only [spec_DiskOk.j0] at H
   by_cases c14 : x34_1 = true
   ·subst c14
    have H1 : (some false) = some r := by rw [if_pos rfl] at H; exact H
    clear H
    have H := H1
    clear H1
    obtain rfl := Option.some.inj H
    go_wp2
    go_ret
    exact ⟨by first | rfl | (simp [errW_none, errW_some] <;> rfl) | (simp [*, errW_none, errW_some] <;> rfl), by repeat (first | (with_reducible first | exact HB.out | apply zq2 | apply zq1 | apply zqd | refine zq3 ?_ GE128.out) | exact HB.out)⟩
   ·replace c14 := Bool.eq_false_iff.mpr c14
    subst c14
    have H1 : (spec_DiskOk.l0 kj1 0 a0_0 l0_1 l0_2 l0_3 l0_4) = some r := by rw [if_neg (show ¬ (false = true) by decide)] at H; exact H
    clear H
    have H := H1
    clear H1
    have H' := Az.mk H
    clear H
    go_wp2
    go_loopg [3] kj1 (fun kq v3 w' => ∃ (x3_2 : Int), v3 = .int .i64 x3_2 ∧ Az (spec_DiskOk.l0 kq x3_2 a0_0 l0_1 l0_2 l0_3 l0_4 = some r) ∧ Az (kq ≤ kj1) ∧ Az (w'.heap[gb128]? = some (.cells #[.int .i64 a0_0, (.slice A0_1 l0_1.length c0_1), (.slice A0_2 l0_2.length c0_2), (.slice A0_3 l0_3.length c0_3), (.slice A0_4 l0_4.length c0_4)] 28 (0, 0))) ∧ Az (Below w.heap.size w w'))
    case atStart => exact ⟨(0), (by first | rfl | (simp; done) | (simp [*]; done)), H', ⟨Nat.le_refl _⟩, ⟨by (with_reducible repeat (first | refine zq6 ?_ _ | refine zq8 ?_ | refine zq7 ?_ _)); exact BK128.out⟩, ⟨by repeat (first | (with_reducible first | exact HB.out | apply zq2 | apply zq1 | apply zqd | refine zq3 ?_ GE128.out) | exact HB.out)⟩⟩
    case round =>
     clear H'
     try clear c1
     try clear c2
     try clear p2
     try clear c5
     try clear c6
     try clear c6b0
     try clear c6b1
     try clear c7
     try clear c7b0
     try clear c7b1
     try clear c8
     try clear c8b0
     try clear c8b1
     try clear c14
     try clear hcz10_0
     try clear hcz10_1
     try clear hcz10_2
     try clear hcz10_3
     try clear hcz10_4
     try clear hcz11_0
     try clear hcz11_1
     try clear hcz11_2
     try clear hcz11_3
     try clear hcz11_4
     try clear hcz12_0
     try clear hcz12_1
     try clear hcz12_2
     try clear hcz12_3
     try clear hcz12_4
     try clear hcz13_0
     try clear hcz13_1
     try clear hcz13_2
     try clear hcz13_3
     try clear hcz13_4
     try clear hcz9_0
     try clear hcz9_1
     try clear hcz9_2
     try clear hcz9_3
     try clear hcz9_4
     try clear hfz10_0
     try clear hfz10_1
     try clear hfz10_2
     try clear hfz10_3
     try clear hfz10_4
     try clear hfz11_0
     try clear hfz11_1
     try clear hfz11_2
     try clear hfz11_3
     try clear hfz11_4
     try clear hfz12_0
     try clear hfz12_1
     try clear hfz12_2
     try clear hfz12_3
     try clear hfz12_4
     try clear hfz13_0
     try clear hfz13_1
     try clear hfz13_2
     try clear hfz13_3
     try clear hfz13_4
     try clear hfz9_0
     try clear hfz9_1
     try clear hfz9_2
     try clear hfz9_3
     try clear hfz9_4
     try clear p2
     obtain ⟨x3_2, rfl, HA, HK2, BK128, HB⟩ := hrel
     cases gk with
     | zero => exact absurd HA.out (by simp [spec_DiskOk.l0])
     | succ k2 =>
      have H := HA.out
      clear HA
      simp only [spec_DiskOk.l0] at H
      by_cases c15 : x3_2 < (l0_1.length : Int)
      ·rw [if_pos c15] at H
       have c15b0 : decide (x3_2 < (l0_1.length : Int)) = true := decide_eq_true c15
       clear c15
       by_cases c16 : 0 ≤ x3_2
       ·rw [if_pos c16] at H
        have c16b0 : decide (0 ≤ x3_2) = true := decide_eq_true c16
        clear c16
        by_cases c17 : ((rdOf ByteArray.empty l0_1 x3_2).size : Int) = 0
        ·rw [if_pos c17] at H
         have c17b0 : (((rdOf ByteArray.empty l0_1 x3_2).size : Int) == 0) = true := beq_iff_eq.mpr c17
         have c17b1 : (((rdOf ByteArray.empty l0_1 x3_2).size : Int) != 0) = false := bne_eq_false_iff_eq.mpr c17
         clear c17
         by_cases c18 : x3_2 < (l0_3.length : Int)
         ·rw [if_pos c18] at H
          have c18b0 : decide (x3_2 < (l0_3.length : Int)) = true := decide_eq_true c18
          clear c18
          obtain ⟨bq19, hbq19⟩ : ∃ b_ : Bool, b_ = (rdOf false l0_3 x3_2) := ⟨_, rfl⟩
          replace H : (if bq19 = true then (some false) else (if a0_0 = 1 then (if ((rdOf ByteArray.empty l0_1 x3_2).size : Int) > 0 then (some false) else (spec_DiskOk.l0 k2 (wrap64 (x3_2 + 1)) a0_0 l0_1 l0_2 l0_3 l0_4)) else (spec_DiskOk.l0 k2 (wrap64 (x3_2 + 1)) a0_0 l0_1 l0_2 l0_3 l0_4))) = some r := by rw [← hbq19] at H; exact H
          have Nbq19 := Az.mk hbq19
          clear hbq19
          by_cases c20 : bq19 = true
          ·subst c20
           have H1 : (some false) = some r := by rw [if_pos rfl] at H; exact H
           clear H
           have H := H1
           clear H1
           obtain rfl := Option.some.inj H
           have hcz21_0 : wr.cell? ⟨gb128, 0, none⟩ = some (.int .i64 a0_0) := (zq4 BK128.out 0).trans rfl
           have hcz21_1 : wr.cell? ⟨gb128, 1, none⟩ = some (.slice A0_1 l0_1.length c0_1) := (zq4 BK128.out 1).trans rfl
           have hcz21_2 : wr.cell? ⟨gb128, 2, none⟩ = some (.slice A0_2 l0_2.length c0_2) := (zq4 BK128.out 2).trans rfl
           have hcz21_3 : wr.cell? ⟨gb128, 3, none⟩ = some (.slice A0_3 l0_3.length c0_3) := (zq4 BK128.out 3).trans rfl
           have hcz21_4 : wr.cell? ⟨gb128, 4, none⟩ = some (.slice A0_4 l0_4.length c0_4) := (zq4 BK128.out 4).trans rfl
           have hfz21_0 := zq5 BK128.out 0
           have hfz21_1 := zq5 BK128.out 1
           have hfz21_2 := zq5 BK128.out 2
           have hfz21_3 := zq5 BK128.out 3
           have hfz21_4 := zq5 BK128.out 4
           have p130 : 0 ≤ (x3_2 : Int) := of_decide_eq_true (by first | (with_reducible assumption) | assumption)
           have q130 : x3_2 < (l0_1.length : Int) := of_decide_eq_true (by first | (with_reducible assumption) | assumption)
           obtain ⟨ad130, e130, hx130_0⟩ := Kd.at_string HR0_1.out x3_2 p130 q130
           cases e130
           replace hx130_0 := (HB.out.cell (World.block_lt_of_cell? w _ hx130_0)).trans hx130_0
           replace p130 := eq_true p130
           replace q130 := eq_true q130
           have p131 : 0 ≤ (x3_2 : Int) := of_decide_eq_true (by first | (with_reducible assumption) | assumption)
           have q131 : x3_2 < (l0_3.length : Int) := of_decide_eq_true (by first | (with_reducible assumption) | assumption)
           obtain ⟨ad131, e131, hx131_0⟩ := Kd.at_bool HR0_3.out x3_2 p131 q131
           (try rw [← Nbq19.out] at hx131_0)
           cases e131
           replace hx131_0 := (HB.out.cell (World.block_lt_of_cell? w _ hx131_0)).trans hx131_0
           replace p131 := eq_true p131
           replace q131 := eq_true q131
           go_wp2
           go_ret
           exact ⟨by first | rfl | (simp [errW_none, errW_some] <;> rfl) | (simp [*, errW_none, errW_some] <;> rfl), by repeat (first | (with_reducible first | exact HB.out | apply zq2 | apply zq1 | apply zqd | refine zq3 ?_ GE128.out) | exact HB.out)⟩
          ·replace c20 := Bool.eq_false_iff.mpr c20
           subst c20
           have H1 : (if a0_0 = 1 then (if ((rdOf ByteArray.empty l0_1 x3_2).size : Int) > 0 then (some false) else (spec_DiskOk.l0 k2 (wrap64 (x3_2 + 1)) a0_0 l0_1 l0_2 l0_3 l0_4)) else (spec_DiskOk.l0 k2 (wrap64 (x3_2 + 1)) a0_0 l0_1 l0_2 l0_3 l0_4)) = some r := by rw [if_neg (show ¬ (false = true) by decide)] at H; exact H
           clear H
           have H := H1
           clear H1
           by_cases c22 : a0_0 = 1
           ·rw [if_pos c22] at H
            have c22b0 : (a0_0 == 1) = true := beq_iff_eq.mpr c22
            have c22b1 : (a0_0 != 1) = false := bne_eq_false_iff_eq.mpr c22
            clear c22
            by_cases c23 : ((rdOf ByteArray.empty l0_1 x3_2).size : Int) > 0
            ·rw [if_pos c23] at H
             have c23b0 : decide (0 < ((rdOf ByteArray.empty l0_1 x3_2).size : Int)) = true := decide_eq_true c23
             have c23b1 : decide (0 < (rdOf ByteArray.empty l0_1 x3_2).size) = true := decide_eq_true (by omega)
             clear c23
             obtain rfl := Option.some.inj H
             have hcz24_0 : wr.cell? ⟨gb128, 0, none⟩ = some (.int .i64 a0_0) := (zq4 BK128.out 0).trans rfl
             have hcz24_1 : wr.cell? ⟨gb128, 1, none⟩ = some (.slice A0_1 l0_1.length c0_1) := (zq4 BK128.out 1).trans rfl
             have hcz24_2 : wr.cell? ⟨gb128, 2, none⟩ = some (.slice A0_2 l0_2.length c0_2) := (zq4 BK128.out 2).trans rfl
             have hcz24_3 : wr.cell? ⟨gb128, 3, none⟩ = some (.slice A0_3 l0_3.length c0_3) := (zq4 BK128.out 3).trans rfl
             have hcz24_4 : wr.cell? ⟨gb128, 4, none⟩ = some (.slice A0_4 l0_4.length c0_4) := (zq4 BK128.out 4).trans rfl
             have hfz24_0 := zq5 BK128.out 0
             have hfz24_1 := zq5 BK128.out 1
             have hfz24_2 := zq5 BK128.out 2
             have hfz24_3 := zq5 BK128.out 3
             have hfz24_4 := zq5 BK128.out 4
             have p130 : 0 ≤ (x3_2 : Int) := of_decide_eq_true (by first | (with_reducible assumption) | assumption)
             have q130 : x3_2 < (l0_1.length : Int) := of_decide_eq_true (by first | (with_reducible assumption) | assumption)
             obtain ⟨ad130, e130, hx130_0⟩ := Kd.at_string HR0_1.out x3_2 p130 q130
             cases e130
             replace hx130_0 := (HB.out.cell (World.block_lt_of_cell? w _ hx130_0)).trans hx130_0
             replace p130 := eq_true p130
             replace q130 := eq_true q130
             have p131 : 0 ≤ (x3_2 : Int) := of_decide_eq_true (by first | (with_reducible assumption) | assumption)
             have q131 : x3_2 < (l0_3.length : Int) := of_decide_eq_true (by first | (with_reducible assumption) | assumption)
             obtain ⟨ad131, e131, hx131_0⟩ := Kd.at_bool HR0_3.out x3_2 p131 q131
             (try rw [← Nbq19.out] at hx131_0)
             cases e131
             replace hx131_0 := (HB.out.cell (World.block_lt_of_cell? w _ hx131_0)).trans hx131_0
             replace p131 := eq_true p131
             replace q131 := eq_true q131
             go_wp2
             go_ret
             exact ⟨by first | rfl | (simp [errW_none, errW_some] <;> rfl) | (simp [*, errW_none, errW_some] <;> rfl), by repeat (first | (with_reducible first | exact HB.out | apply zq2 | apply zq1 | apply zqd | refine zq3 ?_ GE128.out) | exact HB.out)⟩
            ·rw [if_neg c23] at H
             have c23b0 : decide (0 < ((rdOf ByteArray.empty l0_1 x3_2).size : Int)) = false := decide_eq_false c23
             have c23b1 : decide (0 < (rdOf ByteArray.empty l0_1 x3_2).size) = false := decide_eq_false (by omega)
             clear c23
             have H' := Az.mk H
             clear H
             have hcz25_0 : wr.cell? ⟨gb128, 0, none⟩ = some (.int .i64 a0_0) := (zq4 BK128.out 0).trans rfl
             have hcz25_1 : wr.cell? ⟨gb128, 1, none⟩ = some (.slice A0_1 l0_1.length c0_1) := (zq4 BK128.out 1).trans rfl
             have hcz25_2 : wr.cell? ⟨gb128, 2, none⟩ = some (.slice A0_2 l0_2.length c0_2) := (zq4 BK128.out 2).trans rfl
             have hcz25_3 : wr.cell? ⟨gb128, 3, none⟩ = some (.slice A0_3 l0_3.length c0_3) := (zq4 BK128.out 3).trans rfl
             have hcz25_4 : wr.cell? ⟨gb128, 4, none⟩ = some (.slice A0_4 l0_4.length c0_4) := (zq4 BK128.out 4).trans rfl
             have hfz25_0 := zq5 BK128.out 0
             have hfz25_1 := zq5 BK128.out 1
             have hfz25_2 := zq5 BK128.out 2
             have hfz25_3 := zq5 BK128.out 3
             have hfz25_4 := zq5 BK128.out 4
             have p130 : 0 ≤ (x3_2 : Int) := of_decide_eq_true (by first | (with_reducible assumption) | assumption)
             have q130 : x3_2 < (l0_1.length : Int) := of_decide_eq_true (by first | (with_reducible assumption) | assumption)
             obtain ⟨ad130, e130, hx130_0⟩ := Kd.at_string HR0_1.out x3_2 p130 q130
             cases e130
             replace hx130_0 := (HB.out.cell (World.block_lt_of_cell? w _ hx130_0)).trans hx130_0
             replace p130 := eq_true p130
             replace q130 := eq_true q130
             have p131 : 0 ≤ (x3_2 : Int) := of_decide_eq_true (by first | (with_reducible assumption) | assumption)
             have q131 : x3_2 < (l0_3.length : Int) := of_decide_eq_true (by first | (with_reducible assumption) | assumption)
             obtain ⟨ad131, e131, hx131_0⟩ := Kd.at_bool HR0_3.out x3_2 p131 q131
             (try rw [← Nbq19.out] at hx131_0)
             cases e131
             replace hx131_0 := (HB.out.cell (World.block_lt_of_cell? w _ hx131_0)).trans hx131_0
             replace p131 := eq_true p131
             replace q131 := eq_true q131
             go_wp2
             go_roundg k2
             case measure => have := HJ1.out; have := HK2.out; omega
             case rel => exact ⟨(wrap64 (x3_2 + 1)), (by first | rfl | (simp; done) | (simp [*]; done)), H', ⟨by have := HJ1.out; have := HK2.out; omega⟩, ⟨by (with_reducible repeat (first | refine zq6 ?_ _ | refine zq8 ?_ | refine zq7 ?_ _)); exact BK128.out⟩, ⟨by repeat (first | (with_reducible first | exact HB.out | apply zq2 | apply zq1 | apply zqd | refine zq3 ?_ GE128.out) | exact HB.out)⟩⟩
           ·rw [if_neg c22] at H
            have c22b0 : (a0_0 == 1) = false := beq_eq_false_iff_ne.mpr c22
            have c22b1 : (a0_0 != 1) = true := bne_iff_ne.mpr c22
            have H' := Az.mk H
            clear H
            have hcz26_0 : wr.cell? ⟨gb128, 0, none⟩ = some (.int .i64 a0_0) := (zq4 BK128.out 0).trans rfl
            have hcz26_1 : wr.cell? ⟨gb128, 1, none⟩ = some (.slice A0_1 l0_1.length c0_1) := (zq4 BK128.out 1).trans rfl
            have hcz26_2 : wr.cell? ⟨gb128, 2, none⟩ = some (.slice A0_2 l0_2.length c0_2) := (zq4 BK128.out 2).trans rfl
            have hcz26_3 : wr.cell? ⟨gb128, 3, none⟩ = some (.slice A0_3 l0_3.length c0_3) := (zq4 BK128.out 3).trans rfl
            have hcz26_4 : wr.cell? ⟨gb128, 4, none⟩ = some (.slice A0_4 l0_4.length c0_4) := (zq4 BK128.out 4).trans rfl
            have hfz26_0 := zq5 BK128.out 0
            have hfz26_1 := zq5 BK128.out 1
            have hfz26_2 := zq5 BK128.out 2
            have hfz26_3 := zq5 BK128.out 3
            have hfz26_4 := zq5 BK128.out 4
            have p130 : 0 ≤ (x3_2 : Int) := of_decide_eq_true (by first | (with_reducible assumption) | assumption)
            have q130 : x3_2 < (l0_1.length : Int) := of_decide_eq_true (by first | (with_reducible assumption) | assumption)
            obtain ⟨ad130, e130, hx130_0⟩ := Kd.at_string HR0_1.out x3_2 p130 q130
            cases e130
            replace hx130_0 := (HB.out.cell (World.block_lt_of_cell? w _ hx130_0)).trans hx130_0
            replace p130 := eq_true p130
            replace q130 := eq_true q130
            have p131 : 0 ≤ (x3_2 : Int) := of_decide_eq_true (by first | (with_reducible assumption) | assumption)
            have q131 : x3_2 < (l0_3.length : Int) := of_decide_eq_true (by first | (with_reducible assumption) | assumption)
            obtain ⟨ad131, e131, hx131_0⟩ := Kd.at_bool HR0_3.out x3_2 p131 q131
            (try rw [← Nbq19.out] at hx131_0)
            cases e131
            replace hx131_0 := (HB.out.cell (World.block_lt_of_cell? w _ hx131_0)).trans hx131_0
            replace p131 := eq_true p131
            replace q131 := eq_true q131
            go_wp2
            go_roundg k2
            case measure => have := HJ1.out; have := HK2.out; omega
            case rel => exact ⟨(wrap64 (x3_2 + 1)), (by first | rfl | (simp; done) | (simp [*]; done)), H', ⟨by have := HJ1.out; have := HK2.out; omega⟩, ⟨by (with_reducible repeat (first | refine zq6 ?_ _ | refine zq8 ?_ | refine zq7 ?_ _)); exact BK128.out⟩, ⟨by repeat (first | (with_reducible first | exact HB.out | apply zq2 | apply zq1 | apply zqd | refine zq3 ?_ GE128.out) | exact HB.out)⟩⟩
         ·rw [if_neg c18] at H
          exact absurd H (by simp)
        ·rw [if_neg c17] at H
         have c17b0 : (((rdOf ByteArray.empty l0_1 x3_2).size : Int) == 0) = false := beq_eq_false_iff_ne.mpr c17
         have c17b1 : (((rdOf ByteArray.empty l0_1 x3_2).size : Int) != 0) = true := bne_iff_ne.mpr c17
         by_cases c27 : ((rdOf ByteArray.empty l0_1 x3_2).size : Int) = 3
         ·rw [if_pos c27] at H
          have c27b0 : (((rdOf ByteArray.empty l0_1 x3_2).size : Int) == 3) = true := beq_iff_eq.mpr c27
          have c27b1 : (((rdOf ByteArray.empty l0_1 x3_2).size : Int) != 3) = false := bne_eq_false_iff_eq.mpr c27
          clear c27
          by_cases c28 : x3_2 < (l0_3.length : Int)
          ·rw [if_pos c28] at H
           have c28b0 : decide (x3_2 < (l0_3.length : Int)) = true := decide_eq_true c28
           clear c28
           obtain ⟨bq29, hbq29⟩ : ∃ b_ : Bool, b_ = (rdOf false l0_3 x3_2) := ⟨_, rfl⟩
           replace H : (if bq29 = true then (if a0_0 = 1 then (if ((rdOf ByteArray.empty l0_1 x3_2).size : Int) > 0 then (some false) else (spec_DiskOk.l0 k2 (wrap64 (x3_2 + 1)) a0_0 l0_1 l0_2 l0_3 l0_4)) else (spec_DiskOk.l0 k2 (wrap64 (x3_2 + 1)) a0_0 l0_1 l0_2 l0_3 l0_4)) else (if a0_0 = 1 then (if ((rdOf ByteArray.empty l0_1 x3_2).size : Int) > 0 then (some false) else (spec_DiskOk.l0 k2 (wrap64 (x3_2 + 1)) a0_0 l0_1 l0_2 l0_3 l0_4)) else (spec_DiskOk.l0 k2 (wrap64 (x3_2 + 1)) a0_0 l0_1 l0_2 l0_3 l0_4))) = some r := by rw [← hbq29] at H; exact H
           have Nbq29 := Az.mk hbq29
           clear hbq29
           by_cases c30 : bq29 = true
           ·subst c30
            have H1 : (if a0_0 = 1 then (if ((rdOf ByteArray.empty l0_1 x3_2).size : Int) > 0 then (some false) else (spec_DiskOk.l0 k2 (wrap64 (x3_2 + 1)) a0_0 l0_1 l0_2 l0_3 l0_4)) else (spec_DiskOk.l0 k2 (wrap64 (x3_2 + 1)) a0_0 l0_1 l0_2 l0_3 l0_4)) = some r := by rw [if_pos rfl] at H; exact H
            clear H
            have H := H1
            clear H1
            by_cases c31 : a0_0 = 1
            ·rw [if_pos c31] at H
             have c31b0 : (a0_0 == 1) = true := beq_iff_eq.mpr c31
             have c31b1 : (a0_0 != 1) = false := bne_eq_false_iff_eq.mpr c31
             clear c31
             by_cases c32 : ((rdOf ByteArray.empty l0_1 x3_2).size : Int) > 0
             ·rw [if_pos c32] at H
              have c32b0 : decide (0 < ((rdOf ByteArray.empty l0_1 x3_2).size : Int)) = true := decide_eq_true c32
              have c32b1 : decide (0 < (rdOf ByteArray.empty l0_1 x3_2).size) = true := decide_eq_true (by omega)
              clear c32
              obtain rfl := Option.some.inj H
              have hcz33_0 : wr.cell? ⟨gb128, 0, none⟩ = some (.int .i64 a0_0) := (zq4 BK128.out 0).trans rfl
              have hcz33_1 : wr.cell? ⟨gb128, 1, none⟩ = some (.slice A0_1 l0_1.length c0_1) := (zq4 BK128.out 1).trans rfl
              have hcz33_2 : wr.cell? ⟨gb128, 2, none⟩ = some (.slice A0_2 l0_2.length c0_2) := (zq4 BK128.out 2).trans rfl
              have hcz33_3 : wr.cell? ⟨gb128, 3, none⟩ = some (.slice A0_3 l0_3.length c0_3) := (zq4 BK128.out 3).trans rfl
              have hcz33_4 : wr.cell? ⟨gb128, 4, none⟩ = some (.slice A0_4 l0_4.length c0_4) := (zq4 BK128.out 4).trans rfl
              have hfz33_0 := zq5 BK128.out 0
              have hfz33_1 := zq5 BK128.out 1
              have hfz33_2 := zq5 BK128.out 2
              have hfz33_3 := zq5 BK128.out 3
              have hfz33_4 := zq5 BK128.out 4
              have p130 : 0 ≤ (x3_2 : Int) := of_decide_eq_true (by first | (with_reducible assumption) | assumption)
              have q130 : x3_2 < (l0_1.length : Int) := of_decide_eq_true (by first | (with_reducible assumption) | assumption)
              obtain ⟨ad130, e130, hx130_0⟩ := Kd.at_string HR0_1.out x3_2 p130 q130
              cases e130
              replace hx130_0 := (HB.out.cell (World.block_lt_of_cell? w _ hx130_0)).trans hx130_0
              replace p130 := eq_true p130
              replace q130 := eq_true q130
              have p132 : 0 ≤ (x3_2 : Int) := of_decide_eq_true (by first | (with_reducible assumption) | assumption)
              have q132 : x3_2 < (l0_3.length : Int) := of_decide_eq_true (by first | (with_reducible assumption) | assumption)
              obtain ⟨ad132, e132, hx132_0⟩ := Kd.at_bool HR0_3.out x3_2 p132 q132
              (try rw [← Nbq29.out] at hx132_0)
              cases e132
              replace hx132_0 := (HB.out.cell (World.block_lt_of_cell? w _ hx132_0)).trans hx132_0
              replace p132 := eq_true p132
              replace q132 := eq_true q132
              go_wp2
              go_ret
              exact ⟨by first | rfl | (simp [errW_none, errW_some] <;> rfl) | (simp [*, errW_none, errW_some] <;> rfl), by repeat (first | (with_reducible first | exact HB.out | apply zq2 | apply zq1 | apply zqd | refine zq3 ?_ GE128.out) | exact HB.out)⟩
             ·rw [if_neg c32] at H
              have c32b0 : decide (0 < ((rdOf ByteArray.empty l0_1 x3_2).size : Int)) = false := decide_eq_false c32
              have c32b1 : decide (0 < (rdOf ByteArray.empty l0_1 x3_2).size) = false := decide_eq_false (by omega)
              clear c32
              have H' := Az.mk H
              clear H
              have hcz34_0 : wr.cell? ⟨gb128, 0, none⟩ = some (.int .i64 a0_0) := (zq4 BK128.out 0).trans rfl
              have hcz34_1 : wr.cell? ⟨gb128, 1, none⟩ = some (.slice A0_1 l0_1.length c0_1) := (zq4 BK128.out 1).trans rfl
              have hcz34_2 : wr.cell? ⟨gb128, 2, none⟩ = some (.slice A0_2 l0_2.length c0_2) := (zq4 BK128.out 2).trans rfl
              have hcz34_3 : wr.cell? ⟨gb128, 3, none⟩ = some (.slice A0_3 l0_3.length c0_3) := (zq4 BK128.out 3).trans rfl
              have hcz34_4 : wr.cell? ⟨gb128, 4, none⟩ = some (.slice A0_4 l0_4.length c0_4) := (zq4 BK128.out 4).trans rfl
              have hfz34_0 := zq5 BK128.out 0
              have hfz34_1 := zq5 BK128.out 1
              have hfz34_2 := zq5 BK128.out 2
              have hfz34_3 := zq5 BK128.out 3
              have hfz34_4 := zq5 BK128.out 4
              have p130 : 0 ≤ (x3_2 : Int) := of_decide_eq_true (by first | (with_reducible assumption) | assumption)
              have q130 : x3_2 < (l0_1.length : Int) := of_decide_eq_true (by first | (with_reducible assumption) | assumption)
              obtain ⟨ad130, e130, hx130_0⟩ := Kd.at_string HR0_1.out x3_2 p130 q130
              cases e130
              replace hx130_0 := (HB.out.cell (World.block_lt_of_cell? w _ hx130_0)).trans hx130_0
              replace p130 := eq_true p130
              replace q130 := eq_true q130
              have p132 : 0 ≤ (x3_2 : Int) := of_decide_eq_true (by first | (with_reducible assumption) | assumption)
              have q132 : x3_2 < (l0_3.length : Int) := of_decide_eq_true (by first | (with_reducible assumption) | assumption)
              obtain ⟨ad132, e132, hx132_0⟩ := Kd.at_bool HR0_3.out x3_2 p132 q132
              (try rw [← Nbq29.out] at hx132_0)
              cases e132
              replace hx132_0 := (HB.out.cell (World.block_lt_of_cell? w _ hx132_0)).trans hx132_0
              replace p132 := eq_true p132
              replace q132 := eq_true q132
              go_wp2
              go_roundg k2
              case measure => have := HJ1.out; have := HK2.out; omega
              case rel => exact ⟨(wrap64 (x3_2 + 1)), (by first | rfl | (simp; done) | (simp [*]; done)), H', ⟨by have := HJ1.out; have := HK2.out; omega⟩, ⟨by (with_reducible repeat (first | refine zq6 ?_ _ | refine zq8 ?_ | refine zq7 ?_ _)); exact BK128.out⟩, ⟨by repeat (first | (with_reducible first | exact HB.out | apply zq2 | apply zq1 | apply zqd | refine zq3 ?_ GE128.out) | exact HB.out)⟩⟩
            ·rw [if_neg c31] at H
             have c31b0 : (a0_0 == 1) = false := beq_eq_false_iff_ne.mpr c31
             have c31b1 : (a0_0 != 1) = true := bne_iff_ne.mpr c31
             have H' := Az.mk H
             clear H
             have hcz35_0 : wr.cell? ⟨gb128, 0, none⟩ = some (.int .i64 a0_0) := (zq4 BK128.out 0).trans rfl
             have hcz35_1 : wr.cell? ⟨gb128, 1, none⟩ = some (.slice A0_1 l0_1.length c0_1) := (zq4 BK128.out 1).trans rfl
             have hcz35_2 : wr.cell? ⟨gb128, 2, none⟩ = some (.slice A0_2 l0_2.length c0_2) := (zq4 BK128.out 2).trans rfl
             have hcz35_3 : wr.cell? ⟨gb128, 3, none⟩ = some (.slice A0_3 l0_3.length c0_3) := (zq4 BK128.out 3).trans rfl
             have hcz35_4 : wr.cell? ⟨gb128, 4, none⟩ = some (.slice A0_4 l0_4.length c0_4) := (zq4 BK128.out 4).trans rfl
             have hfz35_0 := zq5 BK128.out 0
             have hfz35_1 := zq5 BK128.out 1
             have hfz35_2 := zq5 BK128.out 2
             have hfz35_3 := zq5 BK128.out 3
             have hfz35_4 := zq5 BK128.out 4
             have p130 : 0 ≤ (x3_2 : Int) := of_decide_eq_true (by first | (with_reducible assumption) | assumption)
             have q130 : x3_2 < (l0_1.length : Int) := of_decide_eq_true (by first | (with_reducible assumption) | assumption)
             obtain ⟨ad130, e130, hx130_0⟩ := Kd.at_string HR0_1.out x3_2 p130 q130
             cases e130
             replace hx130_0 := (HB.out.cell (World.block_lt_of_cell? w _ hx130_0)).trans hx130_0
             replace p130 := eq_true p130
             replace q130 := eq_true q130
             have p132 : 0 ≤ (x3_2 : Int) := of_decide_eq_true (by first | (with_reducible assumption) | assumption)
             have q132 : x3_2 < (l0_3.length : Int) := of_decide_eq_true (by first | (with_reducible assumption) | assumption)
             obtain ⟨ad132, e132, hx132_0⟩ := Kd.at_bool HR0_3.out x3_2 p132 q132
             (try rw [← Nbq29.out] at hx132_0)
             cases e132
             replace hx132_0 := (HB.out.cell (World.block_lt_of_cell? w _ hx132_0)).trans hx132_0
             replace p132 := eq_true p132
             replace q132 := eq_true q132
             go_wp2
             go_roundg k2
             case measure => have := HJ1.out; have := HK2.out; omega
             case rel => exact ⟨(wrap64 (x3_2 + 1)), (by first | rfl | (simp; done) | (simp [*]; done)), H', ⟨by have := HJ1.out; have := HK2.out; omega⟩, ⟨by (with_reducible repeat (first | refine zq6 ?_ _ | refine zq8 ?_ | refine zq7 ?_ _)); exact BK128.out⟩, ⟨by repeat (first | (with_reducible first | exact HB.out | apply zq2 | apply zq1 | apply zqd | refine zq3 ?_ GE128.out) | exact HB.out)⟩⟩
           ·replace c30 := Bool.eq_false_iff.mpr c30
            subst c30
            have H1 : (if a0_0 = 1 then (if ((rdOf ByteArray.empty l0_1 x3_2).size : Int) > 0 then (some false) else (spec_DiskOk.l0 k2 (wrap64 (x3_2 + 1)) a0_0 l0_1 l0_2 l0_3 l0_4)) else (spec_DiskOk.l0 k2 (wrap64 (x3_2 + 1)) a0_0 l0_1 l0_2 l0_3 l0_4)) = some r := by rw [if_neg (show ¬ (false = true) by decide)] at H; exact H
            clear H
            have H := H1
            clear H1
            by_cases c36 : a0_0 = 1
            ·rw [if_pos c36] at H
             have c36b0 : (a0_0 == 1) = true := beq_iff_eq.mpr c36
             have c36b1 : (a0_0 != 1) = false := bne_eq_false_iff_eq.mpr c36
             clear c36
             by_cases c37 : ((rdOf ByteArray.empty l0_1 x3_2).size : Int) > 0
             ·rw [if_pos c37] at H
              have c37b0 : decide (0 < ((rdOf ByteArray.empty l0_1 x3_2).size : Int)) = true := decide_eq_true c37
              have c37b1 : decide (0 < (rdOf ByteArray.empty l0_1 x3_2).size) = true := decide_eq_true (by omega)
              clear c37
              obtain rfl := Option.some.inj H
              have hcz38_0 : wr.cell? ⟨gb128, 0, none⟩ = some (.int .i64 a0_0) := (zq4 BK128.out 0).trans rfl
              have hcz38_1 : wr.cell? ⟨gb128, 1, none⟩ = some (.slice A0_1 l0_1.length c0_1) := (zq4 BK128.out 1).trans rfl
              have hcz38_2 : wr.cell? ⟨gb128, 2, none⟩ = some (.slice A0_2 l0_2.length c0_2) := (zq4 BK128.out 2).trans rfl
              have hcz38_3 : wr.cell? ⟨gb128, 3, none⟩ = some (.slice A0_3 l0_3.length c0_3) := (zq4 BK128.out 3).trans rfl
              have hcz38_4 : wr.cell? ⟨gb128, 4, none⟩ = some (.slice A0_4 l0_4.length c0_4) := (zq4 BK128.out 4).trans rfl
              have hfz38_0 := zq5 BK128.out 0
              have hfz38_1 := zq5 BK128.out 1
              have hfz38_2 := zq5 BK128.out 2
              have hfz38_3 := zq5 BK128.out 3
              have hfz38_4 := zq5 BK128.out 4
              have p130 : 0 ≤ (x3_2 : Int) := of_decide_eq_true (by first | (with_reducible assumption) | assumption)
              have q130 : x3_2 < (l0_1.length : Int) := of_decide_eq_true (by first | (with_reducible assumption) | assumption)
              obtain ⟨ad130, e130, hx130_0⟩ := Kd.at_string HR0_1.out x3_2 p130 q130
              cases e130
              replace hx130_0 := (HB.out.cell (World.block_lt_of_cell? w _ hx130_0)).trans hx130_0
              replace p130 := eq_true p130
              replace q130 := eq_true q130
              have p132 : 0 ≤ (x3_2 : Int) := of_decide_eq_true (by first | (with_reducible assumption) | assumption)
              have q132 : x3_2 < (l0_3.length : Int) := of_decide_eq_true (by first | (with_reducible assumption) | assumption)
              obtain ⟨ad132, e132, hx132_0⟩ := Kd.at_bool HR0_3.out x3_2 p132 q132
              (try rw [← Nbq29.out] at hx132_0)
              cases e132
              replace hx132_0 := (HB.out.cell (World.block_lt_of_cell? w _ hx132_0)).trans hx132_0
              replace p132 := eq_true p132
              replace q132 := eq_true q132
              go_wp2
              go_ret
              exact ⟨by first | rfl | (simp [errW_none, errW_some] <;> rfl) | (simp [*, errW_none, errW_some] <;> rfl), by repeat (first | (with_reducible first | exact HB.out | apply zq2 | apply zq1 | apply zqd | refine zq3 ?_ GE128.out) | exact HB.out)⟩
             ·rw [if_neg c37] at H
              have c37b0 : decide (0 < ((rdOf ByteArray.empty l0_1 x3_2).size : Int)) = false := decide_eq_false c37
              have c37b1 : decide (0 < (rdOf ByteArray.empty l0_1 x3_2).size) = false := decide_eq_false (by omega)
              clear c37
              have H' := Az.mk H
              clear H
              have hcz39_0 : wr.cell? ⟨gb128, 0, none⟩ = some (.int .i64 a0_0) := (zq4 BK128.out 0).trans rfl
              have hcz39_1 : wr.cell? ⟨gb128, 1, none⟩ = some (.slice A0_1 l0_1.length c0_1) := (zq4 BK128.out 1).trans rfl
              have hcz39_2 : wr.cell? ⟨gb128, 2, none⟩ = some (.slice A0_2 l0_2.length c0_2) := (zq4 BK128.out 2).trans rfl
              have hcz39_3 : wr.cell? ⟨gb128, 3, none⟩ = some (.slice A0_3 l0_3.length c0_3) := (zq4 BK128.out 3).trans rfl
              have hcz39_4 : wr.cell? ⟨gb128, 4, none⟩ = some (.slice A0_4 l0_4.length c0_4) := (zq4 BK128.out 4).trans rfl
              have hfz39_0 := zq5 BK128.out 0
              have hfz39_1 := zq5 BK128.out 1
              have hfz39_2 := zq5 BK128.out 2
              have hfz39_3 := zq5 BK128.out 3
              have hfz39_4 := zq5 BK128.out 4
              have p130 : 0 ≤ (x3_2 : Int) := of_decide_eq_true (by first | (with_reducible assumption) | assumption)
              have q130 : x3_2 < (l0_1.length : Int) := of_decide_eq_true (by first | (with_reducible assumption) | assumption)
              obtain ⟨ad130, e130, hx130_0⟩ := Kd.at_string HR0_1.out x3_2 p130 q130
              cases e130
              replace hx130_0 := (HB.out.cell (World.block_lt_of_cell? w _ hx130_0)).trans hx130_0
              replace p130 := eq_true p130
              replace q130 := eq_true q130
              have p132 : 0 ≤ (x3_2 : Int) := of_decide_eq_true (by first | (with_reducible assumption) | assumption)
              have q132 : x3_2 < (l0_3.length : Int) := of_decide_eq_true (by first | (with_reducible assumption) | assumption)
              obtain ⟨ad132, e132, hx132_0⟩ := Kd.at_bool HR0_3.out x3_2 p132 q132
              (try rw [← Nbq29.out] at hx132_0)
              cases e132
              replace hx132_0 := (HB.out.cell (World.block_lt_of_cell? w _ hx132_0)).trans hx132_0
              replace p132 := eq_true p132
              replace q132 := eq_true q132
              go_wp2
              go_roundg k2
              case measure => have := HJ1.out; have := HK2.out; omega
              case rel => exact ⟨(wrap64 (x3_2 + 1)), (by first | rfl | (simp; done) | (simp [*]; done)), H', ⟨by have := HJ1.out; have := HK2.out; omega⟩, ⟨by (with_reducible repeat (first | refine zq6 ?_ _ | refine zq8 ?_ | refine zq7 ?_ _)); exact BK128.out⟩, ⟨by repeat (first | (with_reducible first | exact HB.out | apply zq2 | apply zq1 | apply zqd | refine zq3 ?_ GE128.out) | exact HB.out)⟩⟩
            ·rw [if_neg c36] at H
             have c36b0 : (a0_0 == 1) = false := beq_eq_false_iff_ne.mpr c36
             have c36b1 : (a0_0 != 1) = true := bne_iff_ne.mpr c36
             have H' := Az.mk H
             clear H
             have hcz40_0 : wr.cell? ⟨gb128, 0, none⟩ = some (.int .i64 a0_0) := (zq4 BK128.out 0).trans rfl
             have hcz40_1 : wr.cell? ⟨gb128, 1, none⟩ = some (.slice A0_1 l0_1.length c0_1) := (zq4 BK128.out 1).trans rfl
             have hcz40_2 : wr.cell? ⟨gb128, 2, none⟩ = some (.slice A0_2 l0_2.length c0_2) := (zq4 BK128.out 2).trans rfl
             have hcz40_3 : wr.cell? ⟨gb128, 3, none⟩ = some (.slice A0_3 l0_3.length c0_3) := (zq4 BK128.out 3).trans rfl
             have hcz40_4 : wr.cell? ⟨gb128, 4, none⟩ = some (.slice A0_4 l0_4.length c0_4) := (zq4 BK128.out 4).trans rfl
             have hfz40_0 := zq5 BK128.out 0
             have hfz40_1 := zq5 BK128.out 1
             have hfz40_2 := zq5 BK128.out 2
             have hfz40_3 := zq5 BK128.out 3
             have hfz40_4 := zq5 BK128.out 4
             have p130 : 0 ≤ (x3_2 : Int) := of_decide_eq_true (by first | (with_reducible assumption) | assumption)
             have q130 : x3_2 < (l0_1.length : Int) := of_decide_eq_true (by first | (with_reducible assumption) | assumption)
             obtain ⟨ad130, e130, hx130_0⟩ := Kd.at_string HR0_1.out x3_2 p130 q130
             cases e130
             replace hx130_0 := (HB.out.cell (World.block_lt_of_cell? w _ hx130_0)).trans hx130_0
             replace p130 := eq_true p130
             replace q130 := eq_true q130
             have p132 : 0 ≤ (x3_2 : Int) := of_decide_eq_true (by first | (with_reducible assumption) | assumption)
             have q132 : x3_2 < (l0_3.length : Int) := of_decide_eq_true (by first | (with_reducible assumption) | assumption)
             obtain ⟨ad132, e132, hx132_0⟩ := Kd.at_bool HR0_3.out x3_2 p132 q132
             (try rw [← Nbq29.out] at hx132_0)
             cases e132
             replace hx132_0 := (HB.out.cell (World.block_lt_of_cell? w _ hx132_0)).trans hx132_0
             replace p132 := eq_true p132
             replace q132 := eq_true q132
             go_wp2
             go_roundg k2
             case measure => have := HJ1.out; have := HK2.out; omega
             case rel => exact ⟨(wrap64 (x3_2 + 1)), (by first | rfl | (simp; done) | (simp [*]; done)), H', ⟨by have := HJ1.out; have := HK2.out; omega⟩, ⟨by (with_reducible repeat (first | refine zq6 ?_ _ | refine zq8 ?_ | refine zq7 ?_ _)); exact BK128.out⟩, ⟨by repeat (first | (with_reducible first | exact HB.out | apply zq2 | apply zq1 | apply zqd | refine zq3 ?_ GE128.out) | exact HB.out)⟩⟩
          ·rw [if_neg c28] at H
           exact absurd H (by simp)
         ·rw [if_neg c27] at H
          have c27b0 : (((rdOf ByteArray.empty l0_1 x3_2).size : Int) == 3) = false := beq_eq_false_iff_ne.mpr c27
          have c27b1 : (((rdOf ByteArray.empty l0_1 x3_2).size : Int) != 3) = true := bne_iff_ne.mpr c27
          obtain rfl := Option.some.inj H
          have hcz41_0 : wr.cell? ⟨gb128, 0, none⟩ = some (.int .i64 a0_0) := (zq4 BK128.out 0).trans rfl
          have hcz41_1 : wr.cell? ⟨gb128, 1, none⟩ = some (.slice A0_1 l0_1.length c0_1) := (zq4 BK128.out 1).trans rfl
          have hcz41_2 : wr.cell? ⟨gb128, 2, none⟩ = some (.slice A0_2 l0_2.length c0_2) := (zq4 BK128.out 2).trans rfl
          have hcz41_3 : wr.cell? ⟨gb128, 3, none⟩ = some (.slice A0_3 l0_3.length c0_3) := (zq4 BK128.out 3).trans rfl
          have hcz41_4 : wr.cell? ⟨gb128, 4, none⟩ = some (.slice A0_4 l0_4.length c0_4) := (zq4 BK128.out 4).trans rfl
          have hfz41_0 := zq5 BK128.out 0
          have hfz41_1 := zq5 BK128.out 1
          have hfz41_2 := zq5 BK128.out 2
          have hfz41_3 := zq5 BK128.out 3
          have hfz41_4 := zq5 BK128.out 4
          have p130 : 0 ≤ (x3_2 : Int) := of_decide_eq_true (by first | (with_reducible assumption) | assumption)
          have q130 : x3_2 < (l0_1.length : Int) := of_decide_eq_true (by first | (with_reducible assumption) | assumption)
          obtain ⟨ad130, e130, hx130_0⟩ := Kd.at_string HR0_1.out x3_2 p130 q130
          cases e130
          replace hx130_0 := (HB.out.cell (World.block_lt_of_cell? w _ hx130_0)).trans hx130_0
          replace p130 := eq_true p130
          replace q130 := eq_true q130
          go_wp2
          go_ret
          exact ⟨by first | rfl | (simp [errW_none, errW_some] <;> rfl) | (simp [*, errW_none, errW_some] <;> rfl), by repeat (first | (with_reducible first | exact HB.out | apply zq2 | apply zq1 | apply zqd | refine zq3 ?_ GE128.out) | exact HB.out)⟩
       ·rw [if_neg c16] at H
        exact absurd H (by simp)
      ·rw [if_neg c15] at H
       have c15b0 : decide (x3_2 < (l0_1.length : Int)) = false := decide_eq_false c15
       clear c15
       have H' := Az.mk H
       clear H
       have hcz42_0 : wr.cell? ⟨gb128, 0, none⟩ = some (.int .i64 a0_0) := (zq4 BK128.out 0).trans rfl
       have hcz42_1 : wr.cell? ⟨gb128, 1, none⟩ = some (.slice A0_1 l0_1.length c0_1) := (zq4 BK128.out 1).trans rfl
       have hcz42_2 : wr.cell? ⟨gb128, 2, none⟩ = some (.slice A0_2 l0_2.length c0_2) := (zq4 BK128.out 2).trans rfl
       have hcz42_3 : wr.cell? ⟨gb128, 3, none⟩ = some (.slice A0_3 l0_3.length c0_3) := (zq4 BK128.out 3).trans rfl
       have hcz42_4 : wr.cell? ⟨gb128, 4, none⟩ = some (.slice A0_4 l0_4.length c0_4) := (zq4 BK128.out 4).trans rfl
       have hfz42_0 := zq5 BK128.out 0
       have hfz42_1 := zq5 BK128.out 1
       have hfz42_2 := zq5 BK128.out 2
       have hfz42_3 := zq5 BK128.out 3
       have hfz42_4 := zq5 BK128.out 4
       go_wp2
       go_loopg [5] k2 (fun kq v5 w' => ∃ (x5_3 : Int), v5 = .int .i64 x5_3 ∧ Az (spec_DiskOk.l1 kq x5_3 a0_0 l0_1 l0_2 l0_3 l0_4 = some r) ∧ Az (kq ≤ k2) ∧ Az (w'.heap[gb128]? = some (.cells #[.int .i64 a0_0, (.slice A0_1 l0_1.length c0_1), (.slice A0_2 l0_2.length c0_2), (.slice A0_3 l0_3.length c0_3), (.slice A0_4 l0_4.length c0_4)] 28 (0, 0))) ∧ Az (Below w.heap.size w w'))
       case atStart => exact ⟨(0), (by first | rfl | (simp; done) | (simp [*]; done)), H', ⟨Nat.le_refl _⟩, ⟨by (with_reducible repeat (first | refine zq6 ?_ _ | refine zq8 ?_ | refine zq7 ?_ _)); exact BK128.out⟩, ⟨by repeat (first | (with_reducible first | exact HB.out | apply zq2 | apply zq1 | apply zqd | refine zq3 ?_ GE128.out) | exact HB.out)⟩⟩
       case round =>
        clear H'
        try clear c1
        try clear p1
        try clear q1
        try clear hx1
        try clear c2
        try clear p2
        try clear q2
        try clear c3
        try clear c5
        try clear c6
        try clear c6b0
        try clear c6b1
        try clear p6
        try clear c7
        try clear c7b0
        try clear c7b1
        try clear c8
        try clear c8b0
        try clear c8b1
        try clear p13
        try clear q13
        try clear hx13
        try clear c14
        try clear c15
        try clear c15b0
        try clear c16
        try clear c16b0
        try clear c17
        try clear c17b0
        try clear c17b1
        try clear c18
        try clear c18b0
        try clear q19
        try clear c20
        try clear c22
        try clear c22b0
        try clear c22b1
        try clear c23
        try clear c23b0
        try clear c23b1
        try clear c27
        try clear c27b0
        try clear c27b1
        try clear c28
        try clear c28b0
        try clear q29
        try clear c30
        try clear c31
        try clear c31b0
        try clear c31b1
        try clear c32
        try clear c32b0
        try clear c32b1
        try clear c36
        try clear c36b0
        try clear c36b1
        try clear c37
        try clear c37b0
        try clear c37b1
        try clear hcz10_0
        try clear hcz10_1
        try clear hcz10_2
        try clear hcz10_3
        try clear hcz10_4
        try clear hcz11_0
        try clear hcz11_1
        try clear hcz11_2
        try clear hcz11_3
        try clear hcz11_4
        try clear hcz12_0
        try clear hcz12_1
        try clear hcz12_2
        try clear hcz12_3
        try clear hcz12_4
        try clear hcz13_0
        try clear hcz13_1
        try clear hcz13_2
        try clear hcz13_3
        try clear hcz13_4
        try clear hcz21_0
        try clear hcz21_1
        try clear hcz21_2
        try clear hcz21_3
        try clear hcz21_4
        try clear hcz24_0
        try clear hcz24_1
        try clear hcz24_2
        try clear hcz24_3
        try clear hcz24_4
        try clear hcz25_0
        try clear hcz25_1
        try clear hcz25_2
        try clear hcz25_3
        try clear hcz25_4
        try clear hcz26_0
        try clear hcz26_1
        try clear hcz26_2
        try clear hcz26_3
        try clear hcz26_4
        try clear hcz33_0
        try clear hcz33_1
        try clear hcz33_2
        try clear hcz33_3
        try clear hcz33_4
        try clear hcz34_0
        try clear hcz34_1
        try clear hcz34_2
        try clear hcz34_3
        try clear hcz34_4
        try clear hcz35_0
        try clear hcz35_1
        try clear hcz35_2
        try clear hcz35_3
        try clear hcz35_4
        try clear hcz38_0
        try clear hcz38_1
        try clear hcz38_2
        try clear hcz38_3
        try clear hcz38_4
        try clear hcz39_0
        try clear hcz39_1
        try clear hcz39_2
        try clear hcz39_3
        try clear hcz39_4
        try clear hcz40_0
        try clear hcz40_1
        try clear hcz40_2
        try clear hcz40_3
        try clear hcz40_4
        try clear hcz41_0
        try clear hcz41_1
        try clear hcz41_2
        try clear hcz41_3
        try clear hcz41_4
        try clear hcz42_0
        try clear hcz42_1
        try clear hcz42_2
        try clear hcz42_3
        try clear hcz42_4
        try clear hcz9_0
        try clear hcz9_1
        try clear hcz9_2
        try clear hcz9_3
        try clear hcz9_4
        try clear hfz10_0
        try clear hfz10_1
        try clear hfz10_2
        try clear hfz10_3
        try clear hfz10_4
        try clear hfz11_0
        try clear hfz11_1
        try clear hfz11_2
        try clear hfz11_3
        try clear hfz11_4
        try clear hfz12_0
        try clear hfz12_1
        try clear hfz12_2
        try clear hfz12_3
        try clear hfz12_4
        try clear hfz13_0
        try clear hfz13_1
        try clear hfz13_2
        try clear hfz13_3
        try clear hfz13_4
        try clear hfz21_0
        try clear hfz21_1
        try clear hfz21_2
        try clear hfz21_3
        try clear hfz21_4
        try clear hfz24_0
        try clear hfz24_1
        try clear hfz24_2
        try clear hfz24_3
        try clear hfz24_4
        try clear hfz25_0
        try clear hfz25_1
        try clear hfz25_2
        try clear hfz25_3
        try clear hfz25_4
        try clear hfz26_0
        try clear hfz26_1
        try clear hfz26_2
        try clear hfz26_3
        try clear hfz26_4
        try clear hfz33_0
        try clear hfz33_1
        try clear hfz33_2
        try clear hfz33_3
        try clear hfz33_4
        try clear hfz34_0
        try clear hfz34_1
        try clear hfz34_2
        try clear hfz34_3
        try clear hfz34_4
        try clear hfz35_0
        try clear hfz35_1
        try clear hfz35_2
        try clear hfz35_3
        try clear hfz35_4
        try clear hfz38_0
        try clear hfz38_1
        try clear hfz38_2
        try clear hfz38_3
        try clear hfz38_4
        try clear hfz39_0
        try clear hfz39_1
        try clear hfz39_2
        try clear hfz39_3
        try clear hfz39_4
        try clear hfz40_0
        try clear hfz40_1
        try clear hfz40_2
        try clear hfz40_3
        try clear hfz40_4
        try clear hfz41_0
        try clear hfz41_1
        try clear hfz41_2
        try clear hfz41_3
        try clear hfz41_4
        try clear hfz42_0
        try clear hfz42_1
        try clear hfz42_2
        try clear hfz42_3
        try clear hfz42_4
        try clear hfz9_0
        try clear hfz9_1
        try clear hfz9_2
        try clear hfz9_3
        try clear hfz9_4
        try clear hx130_0
        try clear hx131_0
        try clear hx132_0
        try clear p130
        try clear p131
        try clear p132
        try clear p2
        try clear q130
        try clear q131
        try clear q132
        obtain ⟨x5_3, rfl, HA, HK3, BK128, HB⟩ := hrel
        cases gk with
        | zero => exact absurd HA.out (by simp [spec_DiskOk.l1])
        | succ k3 =>
         have H := HA.out
         clear HA
         simp only [spec_DiskOk.l1] at H
         by_cases c43 : x5_3 < (l0_2.length : Int)
         ·rw [if_pos c43] at H
          have c43b0 : decide (x5_3 < (l0_2.length : Int)) = true := decide_eq_true c43
          clear c43
          by_cases c44 : 0 ≤ x5_3
          ·rw [if_pos c44] at H
           have c44b0 : decide (0 ≤ x5_3) = true := decide_eq_true c44
           clear c44
           by_cases c45 : ((rdOf ByteArray.empty l0_2 x5_3).size : Int) > 700
           ·rw [if_pos c45] at H
            have c45b0 : decide (700 < ((rdOf ByteArray.empty l0_2 x5_3).size : Int)) = true := decide_eq_true c45
            have c45b1 : decide (700 < (rdOf ByteArray.empty l0_2 x5_3).size) = true := decide_eq_true (by omega)
            clear c45
            obtain rfl := Option.some.inj H
            have hcz46_0 : wr.cell? ⟨gb128, 0, none⟩ = some (.int .i64 a0_0) := (zq4 BK128.out 0).trans rfl
            have hcz46_1 : wr.cell? ⟨gb128, 1, none⟩ = some (.slice A0_1 l0_1.length c0_1) := (zq4 BK128.out 1).trans rfl
            have hcz46_2 : wr.cell? ⟨gb128, 2, none⟩ = some (.slice A0_2 l0_2.length c0_2) := (zq4 BK128.out 2).trans rfl
            have hcz46_3 : wr.cell? ⟨gb128, 3, none⟩ = some (.slice A0_3 l0_3.length c0_3) := (zq4 BK128.out 3).trans rfl
            have hcz46_4 : wr.cell? ⟨gb128, 4, none⟩ = some (.slice A0_4 l0_4.length c0_4) := (zq4 BK128.out 4).trans rfl
            have hfz46_0 := zq5 BK128.out 0
            have hfz46_1 := zq5 BK128.out 1
            have hfz46_2 := zq5 BK128.out 2
            have hfz46_3 := zq5 BK128.out 3
            have hfz46_4 := zq5 BK128.out 4
            have p133 : 0 ≤ (x5_3 : Int) := of_decide_eq_true (by first | (with_reducible assumption) | assumption)
            have q133 : x5_3 < (l0_2.length : Int) := of_decide_eq_true (by first | (with_reducible assumption) | assumption)
            obtain ⟨ad133, e133, hx133_0⟩ := Kd.at_string HR0_2.out x5_3 p133 q133
            cases e133
            replace hx133_0 := (HB.out.cell (World.block_lt_of_cell? w _ hx133_0)).trans hx133_0
            replace p133 := eq_true p133
            replace q133 := eq_true q133
            go_wp2
            go_ret
            exact ⟨by first | rfl | (simp [errW_none, errW_some] <;> rfl) | (simp [*, errW_none, errW_some] <;> rfl), by repeat (first | (with_reducible first | exact HB.out | apply zq2 | apply zq1 | apply zqd | refine zq3 ?_ GE128.out) | exact HB.out)⟩
           ·rw [if_neg c45] at H
            have c45b0 : decide (700 < ((rdOf ByteArray.empty l0_2 x5_3).size : Int)) = false := decide_eq_false c45
            have c45b1 : decide (700 < (rdOf ByteArray.empty l0_2 x5_3).size) = false := decide_eq_false (by omega)
            clear c45
            by_cases c47 : a0_0 = 1
            ·rw [if_pos c47] at H
             have c47b0 : (a0_0 == 1) = true := beq_iff_eq.mpr c47
             have c47b1 : (a0_0 != 1) = false := bne_eq_false_iff_eq.mpr c47
             clear c47
             by_cases c48 : ((rdOf ByteArray.empty l0_2 x5_3).size : Int) > 0
             ·rw [if_pos c48] at H
              have c48b0 : decide (0 < ((rdOf ByteArray.empty l0_2 x5_3).size : Int)) = true := decide_eq_true c48
              have c48b1 : decide (0 < (rdOf ByteArray.empty l0_2 x5_3).size) = true := decide_eq_true (by omega)
              clear c48
              obtain rfl := Option.some.inj H
              have hcz49_0 : wr.cell? ⟨gb128, 0, none⟩ = some (.int .i64 a0_0) := (zq4 BK128.out 0).trans rfl
              have hcz49_1 : wr.cell? ⟨gb128, 1, none⟩ = some (.slice A0_1 l0_1.length c0_1) := (zq4 BK128.out 1).trans rfl
              have hcz49_2 : wr.cell? ⟨gb128, 2, none⟩ = some (.slice A0_2 l0_2.length c0_2) := (zq4 BK128.out 2).trans rfl
              have hcz49_3 : wr.cell? ⟨gb128, 3, none⟩ = some (.slice A0_3 l0_3.length c0_3) := (zq4 BK128.out 3).trans rfl
              have hcz49_4 : wr.cell? ⟨gb128, 4, none⟩ = some (.slice A0_4 l0_4.length c0_4) := (zq4 BK128.out 4).trans rfl
              have hfz49_0 := zq5 BK128.out 0
              have hfz49_1 := zq5 BK128.out 1
              have hfz49_2 := zq5 BK128.out 2
              have hfz49_3 := zq5 BK128.out 3
              have hfz49_4 := zq5 BK128.out 4
              have p133 : 0 ≤ (x5_3 : Int) := of_decide_eq_true (by first | (with_reducible assumption) | assumption)
              have q133 : x5_3 < (l0_2.length : Int) := of_decide_eq_true (by first | (with_reducible assumption) | assumption)
              obtain ⟨ad133, e133, hx133_0⟩ := Kd.at_string HR0_2.out x5_3 p133 q133
              cases e133
              replace hx133_0 := (HB.out.cell (World.block_lt_of_cell? w _ hx133_0)).trans hx133_0
              replace p133 := eq_true p133
              replace q133 := eq_true q133
              have p134 : 0 ≤ (x5_3 : Int) := of_decide_eq_true (by first | (with_reducible assumption) | assumption)
              have q134 : x5_3 < (l0_2.length : Int) := of_decide_eq_true (by first | (with_reducible assumption) | assumption)
              obtain ⟨ad134, e134, hx134_0⟩ := Kd.at_string HR0_2.out x5_3 p134 q134
              obtain rfl : ad133 = ad134 := (by injection e134)
              replace hx134_0 := (HB.out.cell (World.block_lt_of_cell? w _ hx134_0)).trans hx134_0
              replace p134 := eq_true p134
              replace q134 := eq_true q134
              go_wp2
              go_ret
              exact ⟨by first | rfl | (simp [errW_none, errW_some] <;> rfl) | (simp [*, errW_none, errW_some] <;> rfl), by repeat (first | (with_reducible first | exact HB.out | apply zq2 | apply zq1 | apply zqd | refine zq3 ?_ GE128.out) | exact HB.out)⟩
             ·rw [if_neg c48] at H
              have c48b0 : decide (0 < ((rdOf ByteArray.empty l0_2 x5_3).size : Int)) = false := decide_eq_false c48
              have c48b1 : decide (0 < (rdOf ByteArray.empty l0_2 x5_3).size) = false := decide_eq_false (by omega)
              clear c48
              have H' := Az.mk H
              clear H
              have hcz50_0 : wr.cell? ⟨gb128, 0, none⟩ = some (.int .i64 a0_0) := (zq4 BK128.out 0).trans rfl
              have hcz50_1 : wr.cell? ⟨gb128, 1, none⟩ = some (.slice A0_1 l0_1.length c0_1) := (zq4 BK128.out 1).trans rfl
              have hcz50_2 : wr.cell? ⟨gb128, 2, none⟩ = some (.slice A0_2 l0_2.length c0_2) := (zq4 BK128.out 2).trans rfl
              have hcz50_3 : wr.cell? ⟨gb128, 3, none⟩ = some (.slice A0_3 l0_3.length c0_3) := (zq4 BK128.out 3).trans rfl
              have hcz50_4 : wr.cell? ⟨gb128, 4, none⟩ = some (.slice A0_4 l0_4.length c0_4) := (zq4 BK128.out 4).trans rfl
              have hfz50_0 := zq5 BK128.out 0
              have hfz50_1 := zq5 BK128.out 1
              have hfz50_2 := zq5 BK128.out 2
              have hfz50_3 := zq5 BK128.out 3
              have hfz50_4 := zq5 BK128.out 4
              have p133 : 0 ≤ (x5_3 : Int) := of_decide_eq_true (by first | (with_reducible assumption) | assumption)
              have q133 : x5_3 < (l0_2.length : Int) := of_decide_eq_true (by first | (with_reducible assumption) | assumption)
              obtain ⟨ad133, e133, hx133_0⟩ := Kd.at_string HR0_2.out x5_3 p133 q133
              cases e133
              replace hx133_0 := (HB.out.cell (World.block_lt_of_cell? w _ hx133_0)).trans hx133_0
              replace p133 := eq_true p133
              replace q133 := eq_true q133
              have p134 : 0 ≤ (x5_3 : Int) := of_decide_eq_true (by first | (with_reducible assumption) | assumption)
              have q134 : x5_3 < (l0_2.length : Int) := of_decide_eq_true (by first | (with_reducible assumption) | assumption)
              obtain ⟨ad134, e134, hx134_0⟩ := Kd.at_string HR0_2.out x5_3 p134 q134
              obtain rfl : ad133 = ad134 := (by injection e134)
              replace hx134_0 := (HB.out.cell (World.block_lt_of_cell? w _ hx134_0)).trans hx134_0
              replace p134 := eq_true p134
              replace q134 := eq_true q134
              go_wp2
              go_roundg k3
              case measure => have := HJ1.out; have := HK2.out; have := HK3.out; omega
              case rel => exact ⟨(wrap64 (x5_3 + 1)), (by first | rfl | (simp; done) | (simp [*]; done)), H', ⟨by have := HJ1.out; have := HK2.out; have := HK3.out; omega⟩, ⟨by (with_reducible repeat (first | refine zq6 ?_ _ | refine zq8 ?_ | refine zq7 ?_ _)); exact BK128.out⟩, ⟨by repeat (first | (with_reducible first | exact HB.out | apply zq2 | apply zq1 | apply zqd | refine zq3 ?_ GE128.out) | exact HB.out)⟩⟩
            ·rw [if_neg c47] at H
             have c47b0 : (a0_0 == 1) = false := beq_eq_false_iff_ne.mpr c47
             have c47b1 : (a0_0 != 1) = true := bne_iff_ne.mpr c47
             have H' := Az.mk H
             clear H
             have hcz51_0 : wr.cell? ⟨gb128, 0, none⟩ = some (.int .i64 a0_0) := (zq4 BK128.out 0).trans rfl
             have hcz51_1 : wr.cell? ⟨gb128, 1, none⟩ = some (.slice A0_1 l0_1.length c0_1) := (zq4 BK128.out 1).trans rfl
             have hcz51_2 : wr.cell? ⟨gb128, 2, none⟩ = some (.slice A0_2 l0_2.length c0_2) := (zq4 BK128.out 2).trans rfl
             have hcz51_3 : wr.cell? ⟨gb128, 3, none⟩ = some (.slice A0_3 l0_3.length c0_3) := (zq4 BK128.out 3).trans rfl
             have hcz51_4 : wr.cell? ⟨gb128, 4, none⟩ = some (.slice A0_4 l0_4.length c0_4) := (zq4 BK128.out 4).trans rfl
             have hfz51_0 := zq5 BK128.out 0
             have hfz51_1 := zq5 BK128.out 1
             have hfz51_2 := zq5 BK128.out 2
             have hfz51_3 := zq5 BK128.out 3
             have hfz51_4 := zq5 BK128.out 4
             have p133 : 0 ≤ (x5_3 : Int) := of_decide_eq_true (by first | (with_reducible assumption) | assumption)
             have q133 : x5_3 < (l0_2.length : Int) := of_decide_eq_true (by first | (with_reducible assumption) | assumption)
             obtain ⟨ad133, e133, hx133_0⟩ := Kd.at_string HR0_2.out x5_3 p133 q133
             cases e133
             replace hx133_0 := (HB.out.cell (World.block_lt_of_cell? w _ hx133_0)).trans hx133_0
             replace p133 := eq_true p133
             replace q133 := eq_true q133
             go_wp2
             go_roundg k3
             case measure => have := HJ1.out; have := HK2.out; have := HK3.out; omega
             case rel => exact ⟨(wrap64 (x5_3 + 1)), (by first | rfl | (simp; done) | (simp [*]; done)), H', ⟨by have := HJ1.out; have := HK2.out; have := HK3.out; omega⟩, ⟨by (with_reducible repeat (first | refine zq6 ?_ _ | refine zq8 ?_ | refine zq7 ?_ _)); exact BK128.out⟩, ⟨by repeat (first | (with_reducible first | exact HB.out | apply zq2 | apply zq1 | apply zqd | refine zq3 ?_ GE128.out) | exact HB.out)⟩⟩
          ·rw [if_neg c44] at H
           exact absurd H (by simp)
         ·rw [if_neg c43] at H
          have c43b0 : decide (x5_3 < (l0_2.length : Int)) = false := decide_eq_false c43
          clear c43
          have H' := Az.mk H
          clear H
          have hcz52_0 : wr.cell? ⟨gb128, 0, none⟩ = some (.int .i64 a0_0) := (zq4 BK128.out 0).trans rfl
          have hcz52_1 : wr.cell? ⟨gb128, 1, none⟩ = some (.slice A0_1 l0_1.length c0_1) := (zq4 BK128.out 1).trans rfl
          have hcz52_2 : wr.cell? ⟨gb128, 2, none⟩ = some (.slice A0_2 l0_2.length c0_2) := (zq4 BK128.out 2).trans rfl
          have hcz52_3 : wr.cell? ⟨gb128, 3, none⟩ = some (.slice A0_3 l0_3.length c0_3) := (zq4 BK128.out 3).trans rfl
          have hcz52_4 : wr.cell? ⟨gb128, 4, none⟩ = some (.slice A0_4 l0_4.length c0_4) := (zq4 BK128.out 4).trans rfl
          have hfz52_0 := zq5 BK128.out 0
          have hfz52_1 := zq5 BK128.out 1
          have hfz52_2 := zq5 BK128.out 2
          have hfz52_3 := zq5 BK128.out 3
          have hfz52_4 := zq5 BK128.out 4
          go_wp2
          go_loopg [6] k3 (fun kq v6 w' => ∃ (x6_4 : Int), v6 = .int .i64 x6_4 ∧ Az (spec_DiskOk.l2 kq x6_4 a0_0 l0_1 l0_2 l0_3 l0_4 = some r) ∧ Az (kq ≤ k3) ∧ Az (w'.heap[gb128]? = some (.cells #[.int .i64 a0_0, (.slice A0_1 l0_1.length c0_1), (.slice A0_2 l0_2.length c0_2), (.slice A0_3 l0_3.length c0_3), (.slice A0_4 l0_4.length c0_4)] 28 (0, 0))) ∧ Az (Below w.heap.size w w'))
          case atStart => exact ⟨(0), (by first | rfl | (simp; done) | (simp [*]; done)), H', ⟨Nat.le_refl _⟩, ⟨by (with_reducible repeat (first | refine zq6 ?_ _ | refine zq8 ?_ | refine zq7 ?_ _)); exact BK128.out⟩, ⟨by repeat (first | (with_reducible first | exact HB.out | apply zq2 | apply zq1 | apply zqd | refine zq3 ?_ GE128.out) | exact HB.out)⟩⟩
          case round =>
           clear H'
           try clear c1
           try clear p1
           try clear q1
           try clear hx1
           try clear c2
           try clear p2
           try clear q2
           try clear c3
           try clear c4
           try clear c5
           try clear c6
           try clear c6b0
           try clear c6b1
           try clear p6
           try clear c7
           try clear c7b0
           try clear c7b1
           try clear c8
           try clear c8b0
           try clear c8b1
           try clear p13
           try clear q13
           try clear hx13
           try clear c14
           try clear c15
           try clear c15b0
           try clear c16
           try clear c16b0
           try clear c17
           try clear c17b0
           try clear c17b1
           try clear c18
           try clear c18b0
           try clear q19
           try clear c20
           try clear c22
           try clear c22b0
           try clear c22b1
           try clear c23
           try clear c23b0
           try clear c23b1
           try clear c27
           try clear c27b0
           try clear c27b1
           try clear c28
           try clear c28b0
           try clear q29
           try clear c30
           try clear c31
           try clear c31b0
           try clear c31b1
           try clear c32
           try clear c32b0
           try clear c32b1
           try clear c36
           try clear c36b0
           try clear c36b1
           try clear c37
           try clear c37b0
           try clear c37b1
           try clear c43
           try clear c43b0
           try clear c44
           try clear c44b0
           try clear c45
           try clear c45b0
           try clear c45b1
           try clear c47
           try clear c47b0
           try clear c47b1
           try clear c48
           try clear c48b0
           try clear c48b1
           try clear hcz10_0
           try clear hcz10_1
           try clear hcz10_2
           try clear hcz10_3
           try clear hcz10_4
           try clear hcz11_0
           try clear hcz11_1
           try clear hcz11_2
           try clear hcz11_3
           try clear hcz11_4
           try clear hcz12_0
           try clear hcz12_1
           try clear hcz12_2
           try clear hcz12_3
           try clear hcz12_4
           try clear hcz13_0
           try clear hcz13_1
           try clear hcz13_2
           try clear hcz13_3
           try clear hcz13_4
           try clear hcz21_0
           try clear hcz21_1
           try clear hcz21_2
           try clear hcz21_3
           try clear hcz21_4
           try clear hcz24_0
           try clear hcz24_1
           try clear hcz24_2
           try clear hcz24_3
           try clear hcz24_4
           try clear hcz25_0
           try clear hcz25_1
           try clear hcz25_2
           try clear hcz25_3
           try clear hcz25_4
           try clear hcz26_0
           try clear hcz26_1
           try clear hcz26_2
           try clear hcz26_3
           try clear hcz26_4
           try clear hcz33_0
           try clear hcz33_1
           try clear hcz33_2
           try clear hcz33_3
           try clear hcz33_4
           try clear hcz34_0
           try clear hcz34_1
           try clear hcz34_2
           try clear hcz34_3
           try clear hcz34_4
           try clear hcz35_0
           try clear hcz35_1
           try clear hcz35_2
           try clear hcz35_3
           try clear hcz35_4
           try clear hcz38_0
           try clear hcz38_1
           try clear hcz38_2
           try clear hcz38_3
           try clear hcz38_4
           try clear hcz39_0
           try clear hcz39_1
           try clear hcz39_2
           try clear hcz39_3
           try clear hcz39_4
           try clear hcz40_0
           try clear hcz40_1
           try clear hcz40_2
           try clear hcz40_3
           try clear hcz40_4
           try clear hcz41_0
           try clear hcz41_1
           try clear hcz41_2
           try clear hcz41_3
           try clear hcz41_4
           try clear hcz42_0
           try clear hcz42_1
           try clear hcz42_2
           try clear hcz42_3
           try clear hcz42_4
           try clear hcz46_0
           try clear hcz46_1
           try clear hcz46_2
           try clear hcz46_3
           try clear hcz46_4
           try clear hcz49_0
           try clear hcz49_1
           try clear hcz49_2
           try clear hcz49_3
           try clear hcz49_4
           try clear hcz50_0
           try clear hcz50_1
           try clear hcz50_2
           try clear hcz50_3
           try clear hcz50_4
           try clear hcz51_0
           try clear hcz51_1
           try clear hcz51_2
           try clear hcz51_3
           try clear hcz51_4
           try clear hcz52_0
           try clear hcz52_1
           try clear hcz52_2
           try clear hcz52_3
           try clear hcz52_4
           try clear hcz9_0
           try clear hcz9_1
           try clear hcz9_2
           try clear hcz9_3
           try clear hcz9_4
           try clear hfz10_0
           try clear hfz10_1
           try clear hfz10_2
           try clear hfz10_3
           try clear hfz10_4
           try clear hfz11_0
           try clear hfz11_1
           try clear hfz11_2
           try clear hfz11_3
           try clear hfz11_4
           try clear hfz12_0
           try clear hfz12_1
           try clear hfz12_2
           try clear hfz12_3
           try clear hfz12_4
           try clear hfz13_0
           try clear hfz13_1
           try clear hfz13_2
           try clear hfz13_3
           try clear hfz13_4
           try clear hfz21_0
           try clear hfz21_1
           try clear hfz21_2
           try clear hfz21_3
           try clear hfz21_4
           try clear hfz24_0
           try clear hfz24_1
           try clear hfz24_2
           try clear hfz24_3
           try clear hfz24_4
           try clear hfz25_0
           try clear hfz25_1
           try clear hfz25_2
           try clear hfz25_3
           try clear hfz25_4
           try clear hfz26_0
           try clear hfz26_1
           try clear hfz26_2
           try clear hfz26_3
           try clear hfz26_4
           try clear hfz33_0
           try clear hfz33_1
           try clear hfz33_2
           try clear hfz33_3
           try clear hfz33_4
           try clear hfz34_0
           try clear hfz34_1
           try clear hfz34_2
           try clear hfz34_3
           try clear hfz34_4
           try clear hfz35_0
           try clear hfz35_1
           try clear hfz35_2
           try clear hfz35_3
           try clear hfz35_4
           try clear hfz38_0
           try clear hfz38_1
           try clear hfz38_2
           try clear hfz38_3
           try clear hfz38_4
           try clear hfz39_0
           try clear hfz39_1
           try clear hfz39_2
           try clear hfz39_3
           try clear hfz39_4
           try clear hfz40_0
           try clear hfz40_1
           try clear hfz40_2
           try clear hfz40_3
           try clear hfz40_4
           try clear hfz41_0
           try clear hfz41_1
           try clear hfz41_2
           try clear hfz41_3
           try clear hfz41_4
           try clear hfz42_0
           try clear hfz42_1
           try clear hfz42_2
           try clear hfz42_3
           try clear hfz42_4
           try clear hfz46_0
           try clear hfz46_1
           try clear hfz46_2
           try clear hfz46_3
           try clear hfz46_4
           try clear hfz49_0
           try clear hfz49_1
           try clear hfz49_2
           try clear hfz49_3
           try clear hfz49_4
           try clear hfz50_0
           try clear hfz50_1
           try clear hfz50_2
           try clear hfz50_3
           try clear hfz50_4
           try clear hfz51_0
           try clear hfz51_1
           try clear hfz51_2
           try clear hfz51_3
           try clear hfz51_4
           try clear hfz52_0
           try clear hfz52_1
           try clear hfz52_2
           try clear hfz52_3
           try clear hfz52_4
           try clear hfz9_0
           try clear hfz9_1
           try clear hfz9_2
           try clear hfz9_3
           try clear hfz9_4
           try clear hx130_0
           try clear hx131_0
           try clear hx132_0
           try clear hx133_0
           try clear hx134_0
           try clear p1
           try clear p13
           try clear p130
           try clear p131
           try clear p132
           try clear p133
           try clear p134
           try clear p2
           try clear p6
           try clear q1
           try clear q13
           try clear q130
           try clear q131
           try clear q132
           try clear q133
           try clear q134
           try clear q19
           try clear q2
           try clear q29
           obtain ⟨x6_4, rfl, HA, HK4, BK128, HB⟩ := hrel
           cases gk with
           | zero => exact absurd HA.out (by simp [spec_DiskOk.l2])
           | succ k4 =>
            have H := HA.out
            clear HA
            simp only [spec_DiskOk.l2] at H
            by_cases c53 : x6_4 < (l0_4.length : Int)
            ·rw [if_pos c53] at H
             have c53b0 : decide (x6_4 < (l0_4.length : Int)) = true := decide_eq_true c53
             clear c53
             by_cases c54 : 0 ≤ x6_4
             ·rw [if_pos c54] at H
              have c54b0 : decide (0 ≤ x6_4) = true := decide_eq_true c54
              clear c54
              replace H := Option.bind_eq_some_iff.mp H
              obtain ⟨t136, A550, H⟩ := H
              replace H : (if t136 = true then (spec_DiskOk.l2 k4 (wrap64 (x6_4 + 1)) a0_0 l0_1 l0_2 l0_3 l0_4) else (some false)) = some r := H
              have A55 := Az.mk A550
              clear A550
              by_cases c56 : t136 = true
              ·subst c56
               have H1 : (spec_DiskOk.l2 k4 (wrap64 (x6_4 + 1)) a0_0 l0_1 l0_2 l0_3 l0_4) = some r := by rw [if_pos rfl] at H; exact H
               clear H
               have H := H1
               clear H1
               have H' := Az.mk H
               clear H
               have hcz57_0 : wr.cell? ⟨gb128, 0, none⟩ = some (.int .i64 a0_0) := (zq4 BK128.out 0).trans rfl
               have hcz57_1 : wr.cell? ⟨gb128, 1, none⟩ = some (.slice A0_1 l0_1.length c0_1) := (zq4 BK128.out 1).trans rfl
               have hcz57_2 : wr.cell? ⟨gb128, 2, none⟩ = some (.slice A0_2 l0_2.length c0_2) := (zq4 BK128.out 2).trans rfl
               have hcz57_3 : wr.cell? ⟨gb128, 3, none⟩ = some (.slice A0_3 l0_3.length c0_3) := (zq4 BK128.out 3).trans rfl
               have hcz57_4 : wr.cell? ⟨gb128, 4, none⟩ = some (.slice A0_4 l0_4.length c0_4) := (zq4 BK128.out 4).trans rfl
               have hfz57_0 := zq5 BK128.out 0
               have hfz57_1 := zq5 BK128.out 1
               have hfz57_2 := zq5 BK128.out 2
               have hfz57_3 := zq5 BK128.out 3
               have hfz57_4 := zq5 BK128.out 4
               have p135 : 0 ≤ (x6_4 : Int) := of_decide_eq_true (by first | (with_reducible assumption) | assumption)
               have q135 : x6_4 < (l0_4.length : Int) := of_decide_eq_true (by first | (with_reducible assumption) | assumption)
               obtain ⟨ad135, e135, hx135_0, hx135_1, hx135_2⟩ := at_T54 HR0_4.out x6_4 p135 q135
               cases e135
               replace hx135_0 := (HB.out.cell (World.block_lt_of_cell? w _ hx135_0)).trans hx135_0
               replace hx135_1 := (HB.out.cell (World.block_lt_of_cell? w _ hx135_1)).trans hx135_1
               replace hx135_2 := (HB.out.cell (World.block_lt_of_cell? w _ hx135_2)).trans hx135_2
               replace p135 := eq_true p135
               replace q135 := eq_true q135
               go_wp2_with (first | ((with_reducible refine gate_callee (f := 66) rfl ?_); refine zq9 (some 114) rfl rfl Try.func66 (by kernel_rfl) rfl #[.agg #[.bool ((rd_T54 l0_4 x6_4).f0), .int .i64 ((rd_T54 l0_4 x6_4).f1), .string ((rd_T54 l0_4 x6_4).f2)]] rfl (by (try simp only [List.map_toArray, List.map_cons, List.map_nil]); first | done | rfl | (simp only [List.length_drop, List.length_take]; rfl)) ?_; (with_reducible refine (spec_l3Put.calls ((rd_T54 l0_4 x6_4).f0) ((rd_T54 l0_4 x6_4).f1) ((rd_T54 l0_4 x6_4).f2) true _ A55.out).mono ?_); rintro e w58 ⟨rfl, hb⟩; refine ⟨_, rfl, ?_⟩; have n0_ := Az.mk (blk_below (g := gb128) (o := .cells #[.int .i64 a0_0, .slice A0_1 l0_1.length c0_1, .slice A0_2 l0_2.length c0_2, .slice A0_3 l0_3.length c0_3, .slice (some ad135) l0_4.length c0_4] 28 (0, 0)) (by (with_reducible repeat (first | refine zq6 ?_ _ | refine zq8 ?_ | refine zq7 ?_ _)); exact BK128.out) hb); have n1_ := Az.mk (below_step (by repeat (first | (with_reducible first | exact HB.out | apply zq2 | apply zq1 | apply zqd | refine zq3 ?_ GE128.out) | exact HB.out)) hb); clear BK128; clear HB; have BK128 := n0_; have HB := n1_; clear n0_ n1_; (try clear hb); (try clear hb2); (try clear hk); (try clear hi)))
               go_roundg k4
               case measure => have := HJ1.out; have := HK2.out; have := HK3.out; have := HK4.out; omega
               case rel => exact ⟨(wrap64 (x6_4 + 1)), (by first | rfl | (simp; done) | (simp [*]; done)), H', ⟨by have := HJ1.out; have := HK2.out; have := HK3.out; have := HK4.out; omega⟩, ⟨by (with_reducible repeat (first | refine zq6 ?_ _ | refine zq8 ?_ | refine zq7 ?_ _)); exact BK128.out⟩, ⟨by repeat (first | (with_reducible first | exact HB.out | apply zq2 | apply zq1 | apply zqd | refine zq3 ?_ GE128.out) | exact HB.out)⟩⟩
              ·replace c56 := Bool.eq_false_iff.mpr c56
               subst c56
               have H1 : (some false) = some r := by rw [if_neg (show ¬ (false = true) by decide)] at H; exact H
               clear H
               have H := H1
               clear H1
               obtain rfl := Option.some.inj H
               have hcz59_0 : wr.cell? ⟨gb128, 0, none⟩ = some (.int .i64 a0_0) := (zq4 BK128.out 0).trans rfl
               have hcz59_1 : wr.cell? ⟨gb128, 1, none⟩ = some (.slice A0_1 l0_1.length c0_1) := (zq4 BK128.out 1).trans rfl
               have hcz59_2 : wr.cell? ⟨gb128, 2, none⟩ = some (.slice A0_2 l0_2.length c0_2) := (zq4 BK128.out 2).trans rfl
               have hcz59_3 : wr.cell? ⟨gb128, 3, none⟩ = some (.slice A0_3 l0_3.length c0_3) := (zq4 BK128.out 3).trans rfl
               have hcz59_4 : wr.cell? ⟨gb128, 4, none⟩ = some (.slice A0_4 l0_4.length c0_4) := (zq4 BK128.out 4).trans rfl
               have hfz59_0 := zq5 BK128.out 0
               have hfz59_1 := zq5 BK128.out 1
               have hfz59_2 := zq5 BK128.out 2
               have hfz59_3 := zq5 BK128.out 3
               have hfz59_4 := zq5 BK128.out 4
               have p135 : 0 ≤ (x6_4 : Int) := of_decide_eq_true (by first | (with_reducible assumption) | assumption)
               have q135 : x6_4 < (l0_4.length : Int) := of_decide_eq_true (by first | (with_reducible assumption) | assumption)
               obtain ⟨ad135, e135, hx135_0, hx135_1, hx135_2⟩ := at_T54 HR0_4.out x6_4 p135 q135
               cases e135
               replace hx135_0 := (HB.out.cell (World.block_lt_of_cell? w _ hx135_0)).trans hx135_0
               replace hx135_1 := (HB.out.cell (World.block_lt_of_cell? w _ hx135_1)).trans hx135_1
               replace hx135_2 := (HB.out.cell (World.block_lt_of_cell? w _ hx135_2)).trans hx135_2
               replace p135 := eq_true p135
               replace q135 := eq_true q135
               go_wp2_with (first | ((with_reducible refine gate_callee (f := 66) rfl ?_); refine zq9 (some 114) rfl rfl Try.func66 (by kernel_rfl) rfl #[.agg #[.bool ((rd_T54 l0_4 x6_4).f0), .int .i64 ((rd_T54 l0_4 x6_4).f1), .string ((rd_T54 l0_4 x6_4).f2)]] rfl (by (try simp only [List.map_toArray, List.map_cons, List.map_nil]); first | done | rfl | (simp only [List.length_drop, List.length_take]; rfl)) ?_; (with_reducible refine (spec_l3Put.calls ((rd_T54 l0_4 x6_4).f0) ((rd_T54 l0_4 x6_4).f1) ((rd_T54 l0_4 x6_4).f2) false _ A55.out).mono ?_); rintro e w60 ⟨rfl, hb⟩; refine ⟨_, rfl, ?_⟩; have n0_ := Az.mk (blk_below (g := gb128) (o := .cells #[.int .i64 a0_0, .slice A0_1 l0_1.length c0_1, .slice A0_2 l0_2.length c0_2, .slice A0_3 l0_3.length c0_3, .slice (some ad135) l0_4.length c0_4] 28 (0, 0)) (by (with_reducible repeat (first | refine zq6 ?_ _ | refine zq8 ?_ | refine zq7 ?_ _)); exact BK128.out) hb); have n1_ := Az.mk (below_step (by repeat (first | (with_reducible first | exact HB.out | apply zq2 | apply zq1 | apply zqd | refine zq3 ?_ GE128.out) | exact HB.out)) hb); clear BK128; clear HB; have BK128 := n0_; have HB := n1_; clear n0_ n1_; (try clear hb); (try clear hb2); (try clear hk); (try clear hi)))
               go_ret
               exact ⟨by first | rfl | (simp [errW_none, errW_some] <;> rfl) | (simp [*, errW_none, errW_some] <;> rfl), by repeat (first | (with_reducible first | exact HB.out | apply zq2 | apply zq1 | apply zqd | refine zq3 ?_ GE128.out) | exact HB.out)⟩
             ·rw [if_neg c54] at H
              exact absurd H (by simp)
            ·rw [if_neg c53] at H
             have c53b0 : decide (x6_4 < (l0_4.length : Int)) = false := decide_eq_false c53
             clear c53
             by_cases c61 : a0_0 = 1
             ·rw [if_pos c61] at H
              have c61b0 : (a0_0 == 1) = true := beq_iff_eq.mpr c61
              have c61b1 : (a0_0 != 1) = false := bne_eq_false_iff_eq.mpr c61
              clear c61
              obtain rfl := Option.some.inj H
              have hcz62_0 : wr.cell? ⟨gb128, 0, none⟩ = some (.int .i64 a0_0) := (zq4 BK128.out 0).trans rfl
              have hcz62_1 : wr.cell? ⟨gb128, 1, none⟩ = some (.slice A0_1 l0_1.length c0_1) := (zq4 BK128.out 1).trans rfl
              have hcz62_2 : wr.cell? ⟨gb128, 2, none⟩ = some (.slice A0_2 l0_2.length c0_2) := (zq4 BK128.out 2).trans rfl
              have hcz62_3 : wr.cell? ⟨gb128, 3, none⟩ = some (.slice A0_3 l0_3.length c0_3) := (zq4 BK128.out 3).trans rfl
              have hcz62_4 : wr.cell? ⟨gb128, 4, none⟩ = some (.slice A0_4 l0_4.length c0_4) := (zq4 BK128.out 4).trans rfl
              have hfz62_0 := zq5 BK128.out 0
              have hfz62_1 := zq5 BK128.out 1
              have hfz62_2 := zq5 BK128.out 2
              have hfz62_3 := zq5 BK128.out 3
              have hfz62_4 := zq5 BK128.out 4
              go_wp2
              go_ret
              exact ⟨by first | rfl | (simp [errW_none, errW_some] <;> rfl) | (simp [*, errW_none, errW_some] <;> rfl), by repeat (first | (with_reducible first | exact HB.out | apply zq2 | apply zq1 | apply zqd | refine zq3 ?_ GE128.out) | exact HB.out)⟩
             ·rw [if_neg c61] at H
              have c61b0 : (a0_0 == 1) = false := beq_eq_false_iff_ne.mpr c61
              have c61b1 : (a0_0 != 1) = true := bne_iff_ne.mpr c61
              obtain rfl := Option.some.inj H
              have hcz63_0 : wr.cell? ⟨gb128, 0, none⟩ = some (.int .i64 a0_0) := (zq4 BK128.out 0).trans rfl
              have hcz63_1 : wr.cell? ⟨gb128, 1, none⟩ = some (.slice A0_1 l0_1.length c0_1) := (zq4 BK128.out 1).trans rfl
              have hcz63_2 : wr.cell? ⟨gb128, 2, none⟩ = some (.slice A0_2 l0_2.length c0_2) := (zq4 BK128.out 2).trans rfl
              have hcz63_3 : wr.cell? ⟨gb128, 3, none⟩ = some (.slice A0_3 l0_3.length c0_3) := (zq4 BK128.out 3).trans rfl
              have hcz63_4 : wr.cell? ⟨gb128, 4, none⟩ = some (.slice A0_4 l0_4.length c0_4) := (zq4 BK128.out 4).trans rfl
              have hfz63_0 := zq5 BK128.out 0
              have hfz63_1 := zq5 BK128.out 1
              have hfz63_2 := zq5 BK128.out 2
              have hfz63_3 := zq5 BK128.out 3
              have hfz63_4 := zq5 BK128.out 4
              go_wp2
              go_ret
              exact ⟨by first | rfl | (simp [errW_none, errW_some] <;> rfl) | (simp [*, errW_none, errW_some] <;> rfl), by repeat (first | (with_reducible first | exact HB.out | apply zq2 | apply zq1 | apply zqd | refine zq3 ?_ GE128.out) | exact HB.out)⟩
end Go.Proofs.Ytkgpnloghmbmlaa.Print
namespace Go.Proofs.Ytkgpnloghmbmlaa.Pure
open Go.RowKit Go.Proofs.Ytkgpnloghmbmlaa.Print Go.Proofs.YtkgpnloghmbmlaaW.PrintWords
set_option linter.unusedSimpArgs false
theorem l6In_eq (n lo hi : Int) : spec_l6In.f n lo hi = some (decide (lo ≤ n ∧ n ≤ hi)) := by
  unfold spec_l6In.f
  by_cases h : n ≥ lo
  · rw [if_pos h]
    congr 1
    by_cases h2 : n ≤ hi
    · rw [decide_eq_true h2, decide_eq_true ⟨h, h2⟩]
    · rw [decide_eq_false h2, decide_eq_false (fun h3 => h2 h3.2)]
  · rw [if_neg h, decide_eq_false (fun h3 => h h3.1)]
theorem l3Put_eq (x : S54) : spec_l3Put.f x.f0 x.f1 x.f2 = some (putB x) := by
  unfold spec_l3Put.f putB
  by_cases h0 : x.f0 = true
  · rw [if_pos h0, if_pos h0, l6In_eq]
    simp only [Option.bind_some]
    by_cases h1 : 0 ≤ x.f1 ∧ x.f1 ≤ 1
    · rw [if_pos (decide_eq_true h1)]
      congr 1
      rw [Bool.eq_iff_iff, decide_eq_true_iff, decide_eq_true_iff]
      omega
    · rw [decide_eq_false h1, if_neg (by decide), decide_eq_false (by omega)]
  · rw [if_neg h0, if_neg h0, l6In_eq]
    simp only [Option.bind_some]
    by_cases h1 : 0 ≤ x.f1 ∧ x.f1 ≤ 11
    · rw [if_pos (decide_eq_true h1)]
      congr 1
      rw [Bool.eq_iff_iff, decide_eq_true_iff, beq_iff_eq]
      omega
    · rw [decide_eq_false h1, if_neg (by decide), decide_eq_false (by omega)]
theorem from_step {P : Nat → Prop} {n i : Nat} (_ : i < n) (h : P i) : (∀ j, i ≤ j → j < n → P j) ↔ (∀ j, i + 1 ≤ j → j < n → P j) :=
  ⟨fun k j h1 h2 => k j (by omega) h2, fun k j h1 h2 => by
    by_cases e : j = i
    · rw [e]; exact h
    · exact k j (by omega) h2⟩
open Classical in
theorem dl2_ev {st : Int} {l1 l2 : List ByteArray} {l3 : List Bool} {l4 : List S54} (hl : l4.length ≤ 1048576) (d : Nat) : ∀ i : Nat, i + d = l4.length →
    Ev (fun k => spec_DiskOk.l2 k (i : Int) st l1 l2 l3 l4) (decide ((∀ j, i ≤ j → j < l4.length → putB (l4.getD j z54) = true) ∧ (st = 1 → l4.length = 0))) := by
  induction d with
  | zero =>
    intro i hi
    refine Ev.next ?_
    simp only [spec_DiskOk.l2]
    refine Ev.neg (by omega) ?_
    by_cases h : st = 1
    · refine Ev.pos h (Ev.ret ?_)
      rw [Bool.eq_iff_iff, beq_iff_eq, decide_eq_true_iff]
      exact ⟨fun h1 => ⟨fun j _ _ => by omega, fun _ => by omega⟩, fun h1 => by have := h1.2 h; omega⟩
    · refine Ev.neg h (Ev.ret ?_)
      rw [decide_eq_true]
      exact ⟨fun j _ _ => by omega, fun h1 => absurd h1 h⟩
  | succ d ih =>
    intro i hi
    have hih := ih (i + 1) (by omega)
    have e : wrap64 ((i : Int) + 1) = ((i + 1 : Nat) : Int) := by rw [wrap_ok (by omega)]; omega
    refine Ev.next ?_
    simp only [spec_DiskOk.l2, e]
    clear e
    have hp := l3Put_eq (l4.getD i z54)
    rw [show l4.getD i z54 = rd_T54 l4 (i : Int) by simp [rd_T54]] at hp
    refine Ev.pos (by omega) (Ev.pos (by omega) (Ev.take hp ?_))
    by_cases h : putB (rd_T54 l4 (i : Int)) = true
    · refine Ev.pos h ?_
      rw [show rd_T54 l4 (i : Int) = l4.getD i z54 by simp [rd_T54]] at h
      simp only [from_step (P := fun j => putB (l4.getD j z54) = true) (show i < l4.length by omega) h]
      exact hih
    · refine Ev.neg h (Ev.ret ?_)
      rw [decide_eq_false]
      intro h1
      have := h1.1 i (Nat.le_refl _) (by omega)
      rw [show rd_T54 l4 (i : Int) = l4.getD i z54 by simp [rd_T54]] at h
      exact h this
def Tail2 (st : Int) (l4 : List S54) : Prop := (∀ j, 0 ≤ j → j < l4.length → putB (l4.getD j z54) = true) ∧ (st = 1 → l4.length = 0)
open Classical in
theorem dl1_ev {st : Int} {l1 l2 : List ByteArray} {l3 : List Bool} {l4 : List S54} (hl : l4.length ≤ 1048576) (h2 : l2.length ≤ 1048576) (d : Nat) : ∀ i : Nat, i + d = l2.length →
    Ev (fun k => spec_DiskOk.l1 k (i : Int) st l1 l2 l3 l4) (decide ((∀ j, i ≤ j → j < l2.length → (l2.getD j ByteArray.empty).size ≤ 700 ∧ (st = 1 → (l2.getD j ByteArray.empty).size = 0)) ∧ Tail2 st l4)) := by
  induction d with
  | zero =>
    intro i hi
    have hk := dl2_ev (st := st) (l1 := l1) (l2 := l2) (l3 := l3) hl l4.length 0 (Nat.zero_add _)
    refine Ev.next ?_
    simp only [spec_DiskOk.l1]
    refine Ev.neg (by omega) ?_
    rw [show decide ((∀ j, i ≤ j → j < l2.length → (l2.getD j ByteArray.empty).size ≤ 700 ∧ (st = 1 → (l2.getD j ByteArray.empty).size = 0)) ∧ Tail2 st l4) = decide ((∀ j, 0 ≤ j → j < l4.length → putB (l4.getD j z54) = true) ∧ (st = 1 → l4.length = 0)) from by
      rw [Bool.eq_iff_iff, decide_eq_true_iff, decide_eq_true_iff]
      exact ⟨fun h => h.2, fun h => ⟨fun j _ _ => by omega, h⟩⟩]
    exact hk
  | succ d ih =>
    intro i hi
    have hih := ih (i + 1) (by omega)
    have e : wrap64 ((i : Int) + 1) = ((i + 1 : Nat) : Int) := by rw [wrap_ok (by omega)]; omega
    refine Ev.next ?_
    simp only [spec_DiskOk.l1, e, rdOf_n]
    clear e
    refine Ev.pos (by omega) (Ev.pos (by omega) ?_)
    have bad : ∀ h : ¬ ((l2.getD i ByteArray.empty).size ≤ 700 ∧ (st = 1 → (l2.getD i ByteArray.empty).size = 0)), false = decide ((∀ j, i ≤ j → j < l2.length → (l2.getD j ByteArray.empty).size ≤ 700 ∧ (st = 1 → (l2.getD j ByteArray.empty).size = 0)) ∧ Tail2 st l4) := fun h => by
      rw [decide_eq_false]
      exact fun h1 => h (h1.1 i (Nat.le_refl _) (by omega))
    have good : ∀ h : ((l2.getD i ByteArray.empty).size ≤ 700 ∧ (st = 1 → (l2.getD i ByteArray.empty).size = 0)), Ev (fun k => spec_DiskOk.l1 k ((i + 1 : Nat) : Int) st l1 l2 l3 l4) (decide ((∀ j, i ≤ j → j < l2.length → (l2.getD j ByteArray.empty).size ≤ 700 ∧ (st = 1 → (l2.getD j ByteArray.empty).size = 0)) ∧ Tail2 st l4)) := fun h => by
      simp only [from_step (P := fun j => (l2.getD j ByteArray.empty).size ≤ 700 ∧ (st = 1 → (l2.getD j ByteArray.empty).size = 0)) (show i < l2.length by omega) h]
      exact hih
    by_cases c1 : ((l2.getD i ByteArray.empty).size : Int) > 700
    · exact Ev.pos c1 (Ev.ret (bad (fun h => by omega)))
    · refine Ev.neg c1 ?_
      by_cases c2 : st = 1
      · refine Ev.pos c2 ?_
        by_cases c3 : ((l2.getD i ByteArray.empty).size : Int) > 0
        · exact Ev.pos c3 (Ev.ret (bad (fun h => by have := h.2 c2; omega)))
        · exact Ev.neg c3 (good ⟨by omega, fun _ => by omega⟩)
      · exact Ev.neg c2 (good ⟨by omega, fun h => absurd h c2⟩)
def Tail1 (st : Int) (l2 : List ByteArray) (l4 : List S54) : Prop := (∀ j, 0 ≤ j → j < l2.length → (l2.getD j ByteArray.empty).size ≤ 700 ∧ (st = 1 → (l2.getD j ByteArray.empty).size = 0)) ∧ Tail2 st l4
open Classical in
theorem dl0_ev {st : Int} {l1 l2 : List ByteArray} {l3 : List Bool} {l4 : List S54} (hl : l4.length ≤ 1048576) (h2 : l2.length ≤ 1048576) (h1 : l1.length ≤ 1048576) (h3 : l3.length = l1.length) (d : Nat) : ∀ i : Nat, i + d = l1.length →
    Ev (fun k => spec_DiskOk.l0 k (i : Int) st l1 l2 l3 l4) (decide ((∀ j, i ≤ j → j < l1.length → badSlot (l1.getD j ByteArray.empty) (l3.getD j false) = false ∧ (st = 1 → (l1.getD j ByteArray.empty).size = 0)) ∧ Tail1 st l2 l4)) := by
  induction d with
  | zero =>
    intro i hi
    have hk := dl1_ev (st := st) (l1 := l1) (l2 := l2) (l3 := l3) hl h2 l2.length 0 (Nat.zero_add _)
    refine Ev.next ?_
    simp only [spec_DiskOk.l0]
    refine Ev.neg (by omega) ?_
    rw [show decide ((∀ j, i ≤ j → j < l1.length → badSlot (l1.getD j ByteArray.empty) (l3.getD j false) = false ∧ (st = 1 → (l1.getD j ByteArray.empty).size = 0)) ∧ Tail1 st l2 l4) = decide ((∀ j, 0 ≤ j → j < l2.length → (l2.getD j ByteArray.empty).size ≤ 700 ∧ (st = 1 → (l2.getD j ByteArray.empty).size = 0)) ∧ Tail2 st l4) from by
      rw [Bool.eq_iff_iff, decide_eq_true_iff, decide_eq_true_iff]
      exact ⟨fun h => h.2, fun h => ⟨fun j _ _ => by omega, h⟩⟩]
    exact hk
  | succ d ih =>
    intro i hi
    have hih := ih (i + 1) (by omega)
    have e : wrap64 ((i : Int) + 1) = ((i + 1 : Nat) : Int) := by rw [wrap_ok (by omega)]; omega
    refine Ev.next ?_
    simp only [spec_DiskOk.l0, e, rdOf_n]
    clear e
    have bad : ∀ h : ¬ (badSlot (l1.getD i ByteArray.empty) (l3.getD i false) = false ∧ (st = 1 → (l1.getD i ByteArray.empty).size = 0)), false = decide ((∀ j, i ≤ j → j < l1.length → badSlot (l1.getD j ByteArray.empty) (l3.getD j false) = false ∧ (st = 1 → (l1.getD j ByteArray.empty).size = 0)) ∧ Tail1 st l2 l4) := fun h => by
      rw [decide_eq_false]
      exact fun h1 => h (h1.1 i (Nat.le_refl _) (by omega))
    have good : ∀ h : (badSlot (l1.getD i ByteArray.empty) (l3.getD i false) = false ∧ (st = 1 → (l1.getD i ByteArray.empty).size = 0)), Ev (fun k => spec_DiskOk.l0 k ((i + 1 : Nat) : Int) st l1 l2 l3 l4) (decide ((∀ j, i ≤ j → j < l1.length → badSlot (l1.getD j ByteArray.empty) (l3.getD j false) = false ∧ (st = 1 → (l1.getD j ByteArray.empty).size = 0)) ∧ Tail1 st l2 l4)) := fun h => by
      simp only [from_step (P := fun j => badSlot (l1.getD j ByteArray.empty) (l3.getD j false) = false ∧ (st = 1 → (l1.getD j ByteArray.empty).size = 0)) (show i < l1.length by omega) h]
      exact hih
    have fin : ∀ hb : badSlot (l1.getD i ByteArray.empty) (l3.getD i false) = false, Ev (fun k => if st = 1 then (if ((l1.getD i ByteArray.empty).size : Int) > 0 then (some false) else (spec_DiskOk.l0 k ((i + 1 : Nat) : Int) st l1 l2 l3 l4)) else (spec_DiskOk.l0 k ((i + 1 : Nat) : Int) st l1 l2 l3 l4)) (decide ((∀ j, i ≤ j → j < l1.length → badSlot (l1.getD j ByteArray.empty) (l3.getD j false) = false ∧ (st = 1 → (l1.getD j ByteArray.empty).size = 0)) ∧ Tail1 st l2 l4)) := fun hb => by
      by_cases c2 : st = 1
      · refine Ev.pos c2 ?_
        by_cases c3 : ((l1.getD i ByteArray.empty).size : Int) > 0
        · exact Ev.pos c3 (Ev.ret (bad (fun h => by have := h.2 c2; omega)))
        · exact Ev.neg c3 (good ⟨hb, fun _ => by omega⟩)
      · exact Ev.neg c2 (good ⟨hb, fun h => absurd h c2⟩)
    refine Ev.pos (by omega) (Ev.pos (by omega) ?_)
    by_cases c0 : ((l1.getD i ByteArray.empty).size : Int) = 0
    · have c0' : (l1.getD i ByteArray.empty).size = 0 := by omega
      refine Ev.pos c0 (Ev.pos (by omega) ?_)
      by_cases cs : l3.getD i false = true
      · exact Ev.pos cs (Ev.ret (bad (fun h => by have := h.1; unfold badSlot at this; rw [if_pos c0', cs] at this; cases this)))
      · exact Ev.neg cs (fin (by unfold badSlot; rw [if_pos c0']; simpa using cs))
    · have c0' : ¬ (l1.getD i ByteArray.empty).size = 0 := by omega
      refine Ev.neg c0 ?_
      by_cases c3 : ((l1.getD i ByteArray.empty).size : Int) = 3
      · have hb : badSlot (l1.getD i ByteArray.empty) (l3.getD i false) = false := by unfold badSlot; rw [if_neg c0']; exact decide_eq_false (by omega)
        refine Ev.pos c3 (Ev.pos (by omega) ?_)
        by_cases cs : l3.getD i false = true
        · exact Ev.pos cs (fin hb)
        · exact Ev.neg cs (fin hb)
      · exact Ev.neg c3 (Ev.ret (bad (fun h => by have := h.1; unfold badSlot at this; rw [if_neg c0'] at this; have := of_decide_eq_false this; omega)))
theorem all_getD {α : Type} {z : α} {l : List α} {p : α → Bool} : l.all p = true ↔ ∀ j, j < l.length → p (l.getD j z) = true := by
  rw [List.all_eq_true]
  constructor
  · intro h j hj
    exact h _ (getD_mem hj)
  · intro h x hx
    obtain ⟨j, hj, rfl⟩ := List.getElem_of_mem hx
    have := h j hj
    simpa [List.getD, hj] using this
theorem any_false {α : Type} {z : α} {l : List α} {p : α → Bool} : l.any p = false ↔ ∀ j, j < l.length → p (l.getD j z) = false := by
  rw [List.any_eq_false]
  constructor
  · intro h j hj
    simpa using h _ (getD_mem hj)
  · intro h x hx
    obtain ⟨j, hj, rfl⟩ := List.getElem_of_mem hx
    have := h j hj
    simpa [List.getD, hj] using this
open Classical in
theorem specDiskOk_ev (st : Int) (l1 l2 : List ByteArray) (l3 : List Bool) (l4 : List S54) (hl : l4.length ≤ 1048576) : Ev (fun k => spec_DiskOk.f k st l1 l2 l3 l4) (goodB st l1 l2 l3 l4) := by
  unfold spec_DiskOk.f
  have bad : ∀ h : ¬ Shaped st l1 l2 l3 l4, Ev (fun k => spec_DiskOk.j0 k true st l1 l2 l3 l4) (goodB st l1 l2 l3 l4) := by
    intro h
    refine Ev.next ?_
    simp only [spec_DiskOk.j0]
    exact Ev.pos trivial (Ev.ret (decide_eq_false (fun hg : Print.Good st l1 l2 l3 l4 => h hg.sh)).symm)
  refine Ev.take (l6In_eq _ _ _) ?_
  by_cases c0 : 0 ≤ st ∧ st ≤ 2
  · refine Ev.pos (decide_eq_true c0) ?_
    by_cases c1 : (l1.length : Int) = 12
    · refine Ev.pos c1 ?_
      by_cases c2 : (l2.length : Int) = 2
      · refine Ev.pos c2 ?_
        by_cases c3 : (l3.length : Int) = 12
        · refine Ev.pos c3 ?_
          by_cases c4 : (l4.length : Int) > 40
          · rw [decide_eq_true c4]
            exact bad (fun h => by unfold Shaped at h; omega)
          · rw [decide_eq_false c4]
            refine Ev.next ?_
            simp only [spec_DiskOk.j0]
            refine Ev.neg (by decide) ?_
            have hs : Shaped st l1 l2 l3 l4 := by unfold Shaped; omega
            have hk := dl0_ev (st := st) (l1 := l1) (l2 := l2) (l3 := l3) (l4 := l4) hl (by omega) (by omega) (by omega) l1.length 0 (Nat.zero_add _)
            have e : goodB st l1 l2 l3 l4 = true ↔ ((∀ j, 0 ≤ j → j < l1.length → badSlot (l1.getD j ByteArray.empty) (l3.getD j false) = false ∧ (st = 1 → (l1.getD j ByteArray.empty).size = 0)) ∧ Tail1 st l2 l4) := by
              unfold goodB
              rw [decide_eq_true_iff]
              constructor
              · intro hg
                refine ⟨fun j _ hj => ⟨hg.so j (by omega), fun h1 => ?_⟩, fun j _ hj => ⟨?_, fun h1 => ?_⟩, fun j _ hj => ?_, fun h1 => (hg.go h1).2.2⟩
                · simpa using all_getD.1 (hg.go h1).1 j hj
                · have := (any_false (z := ByteArray.empty)).1 hg.ro j hj
                  have := of_decide_eq_false this
                  omega
                · simpa using (all_getD (z := ByteArray.empty)).1 (hg.go h1).2.1 j hj
                · simpa using (any_false (z := z54)).1 hg.wa j hj
              · rintro ⟨h0, h1, h2, h3⟩
                refine ⟨hs, (any_false (z := z54)).2 fun j hj => by simpa using h2 j (Nat.zero_le _) hj, fun i hi => (h0 i (Nat.zero_le _) (by omega)).1, (any_false (z := ByteArray.empty)).2 fun j hj => decide_eq_false (by have := (h1 j (Nat.zero_le _) hj).1; omega), fun e => ⟨(all_getD (z := ByteArray.empty)).2 fun j hj => by simpa using (h0 j (Nat.zero_le _) hj).2 e, (all_getD (z := ByteArray.empty)).2 fun j hj => by simpa using (h1 j (Nat.zero_le _) hj).2 e, h3 e⟩⟩
            have e2 : goodB st l1 l2 l3 l4 = decide ((∀ j, 0 ≤ j → j < l1.length → badSlot (l1.getD j ByteArray.empty) (l3.getD j false) = false ∧ (st = 1 → (l1.getD j ByteArray.empty).size = 0)) ∧ Tail1 st l2 l4) := by
              rw [Bool.eq_iff_iff, decide_eq_true_iff]
              exact e
            rw [e2]
            exact hk
        · exact Ev.neg c3 (bad (fun h => by unfold Shaped at h; omega))
      · exact Ev.neg c2 (bad (fun h => by unfold Shaped at h; omega))
    · exact Ev.neg c1 (bad (fun h => by unfold Shaped at h; omega))
  · exact Ev.neg (by simpa using c0) (bad (fun h => c0 h.1))
end Go.Proofs.Ytkgpnloghmbmlaa.Pure
namespace Go.Proofs.Ytkgpnloghmbmlaa.Print
open Go.RowKit Go.Proofs.YtkgpnloghmbmlaaW.PrintWords Go.Proofs.YtkgpnloghmbmlaaW.PrintLast Go.Proofs.YtkgpnloghmbmlaaW.PrintMore
attribute [local go_sem] max2_int min2_int max_two min_two max_three min_three max_four min_four   -- for this text's walks alone
set_option linter.unusedVariables false
set_option linter.unusedSimpArgs false
def spec_l3Come.f (a0_0 : Int) (l0_1 : List ByteArray) (l0_2 : List ByteArray) (l0_3 : List Bool) (l0_4 : List (S54)) (a1_0 : Bool) (a1_1 : Int) (a1_2 : ByteArray) : Option (Int × List ByteArray × List ByteArray × List Bool × (List (S54))) := if a1_0 = true then (if 0 ≤ a1_1 then (if a1_1 < (l0_2.length : Int) then (some (a0_0, l0_1, (l0_2.set (a1_1 : Int).toNat a1_2), l0_3, l0_4)) else (none)) else (none)) else (if 0 ≤ a1_1 then (if a1_1 < (l0_1.length : Int) then (if a1_1 < (l0_3.length : Int) then (some (a0_0, (l0_1.set (a1_1 : Int).toNat a1_2), l0_2, (l0_3.set (a1_1 : Int).toNat false), l0_4)) else (none)) else (none)) else (none))
set_option maxHeartbeats 8000000 in
set_option maxRecDepth 100000 in
theorem spec_l3Come.calls (a0_0 : Int) (P0_1_ : Nat → Prop) (u9000_ : Value) (l0_1 : List ByteArray) (P0_2_ : Nat → Prop) (u9001_ : Value) (l0_2 : List ByteArray) (P0_3_ : Nat → Prop) (u9002_ : Value) (l0_3 : List Bool) (P0_4_ : Nat → Prop) (u9003_ : Value) (l0_4 : List (S54)) (a1_0 : Bool) (a1_1 : Int) (a1_2 : ByteArray) (r1 : Int) (r2 : List ByteArray) (r3 : List ByteArray) (r4 : List Bool) (r5 : List (S54)) (w0 w : World) (hB : Below w0.heap.size w0 w) (ho0_1 : Kd.R Kd.string 9 w w0.heap.size P0_1_ u9000_ l0_1) (hp0_1_0_2 : ∀ k_, P0_1_ k_ → ¬ P0_2_ k_) (ho0_2 : Kd.R Kd.string 9 w w0.heap.size P0_2_ u9001_ l0_2) (hp0_2_0_1 : ∀ k_, P0_2_ k_ → ¬ P0_1_ k_) (ho0_3 : Kd.R Kd.bool 4 w w0.heap.size P0_3_ u9002_ l0_3) (ho0_4 : Kd.R k54 54 w w0.heap.size P0_4_ u9003_ l0_4) (h : spec_l3Come.f a0_0 l0_1 l0_2 l0_3 l0_4 a1_0 a1_1 a1_2 = some (r1, r2, r3, r4, r5)) :
  Calls Try.prog 101 #[.agg #[.int .i64 a0_0, u9000_, u9001_, u9002_, u9003_], .agg #[.bool a1_0, .int .i64 a1_1, .string a1_2]] w fun e w' => ∃ v1_ v2_ v3_ v4_ : Value, e = .returned (.agg #[.int .i64 r1, v1_, v2_, v3_, v4_]) ∧ Kd.R Kd.string 9 w' w0.heap.size (fun k_ => ((P0_1_ k_ ∨ P0_2_ k_ ∨ P0_3_ k_ ∨ P0_4_ k_) ∨ w.heap.size ≤ k_) ∧ some k_ ≠ (v2_ : Value).ownBlock) v1_ r2 ∧ Kd.R Kd.string 9 w' w0.heap.size (fun k_ => ((P0_1_ k_ ∨ P0_2_ k_ ∨ P0_3_ k_ ∨ P0_4_ k_) ∨ w.heap.size ≤ k_) ∧ some k_ ≠ (v1_ : Value).ownBlock) v2_ r3 ∧ Kd.R Kd.bool 4 w' w0.heap.size (fun k_ => ((P0_1_ k_ ∨ P0_2_ k_ ∨ P0_3_ k_ ∨ P0_4_ k_) ∨ w.heap.size ≤ k_)) v3_ r4 ∧ Kd.R k54 54 w' w0.heap.size (fun k_ => ((P0_1_ k_ ∨ P0_2_ k_ ∨ P0_3_ k_ ∨ P0_4_ k_) ∨ w.heap.size ≤ k_)) v4_ r5 ∧ Below w0.heap.size w0 w' ∧ Kept w w' (fun k_ => P0_1_ k_ ∨ P0_2_ k_ ∨ P0_3_ k_ ∨ P0_4_ k_) := by
 have hu28 := Try.underlying28
 have hu54 := Try.underlying54
 have HO0_1 := Az.mk (show Kd.R Kd.string 9 w w0.heap.size (fun k_ => ((P0_1_ k_ ∨ P0_2_ k_ ∨ P0_3_ k_ ∨ P0_4_ k_) ∨ w.heap.size ≤ k_) ∧ some k_ ≠ (u9001_ : Value).ownBlock) u9000_ l0_1 from Kd.R_mono ho0_1 (fun k_ hk => ⟨(.inl (.inl hk)), fun e_ => hp0_1_0_2 k_ hk (ho0_2.1 k_ e_.symm)⟩))
 have HO0_2 := Az.mk (show Kd.R Kd.string 9 w w0.heap.size (fun k_ => ((P0_1_ k_ ∨ P0_2_ k_ ∨ P0_3_ k_ ∨ P0_4_ k_) ∨ w.heap.size ≤ k_) ∧ some k_ ≠ (u9000_ : Value).ownBlock) u9001_ l0_2 from Kd.R_mono ho0_2 (fun k_ hk => ⟨(.inl (.inr (.inl hk))), fun e_ => hp0_2_0_1 k_ hk (ho0_1.1 k_ e_.symm)⟩))
 have HO0_3 := Az.mk (show Kd.R Kd.bool 4 w w0.heap.size (fun k_ => ((P0_1_ k_ ∨ P0_2_ k_ ∨ P0_3_ k_ ∨ P0_4_ k_) ∨ w.heap.size ≤ k_)) u9002_ l0_3 from Kd.R_mono ho0_3 (fun k_ hk => (.inl (.inr (.inr (.inl hk))))))
 have HO0_4 := Az.mk (show Kd.R k54 54 w w0.heap.size (fun k_ => ((P0_1_ k_ ∨ P0_2_ k_ ∨ P0_3_ k_ ∨ P0_4_ k_) ∨ w.heap.size ≤ k_)) u9003_ l0_4 from Kd.R_mono ho0_4 (fun k_ hk => (.inl (.inr (.inr (.inr hk))))))
 have HK := Az.mk (Kept.refl w (fun k_ => P0_1_ k_ ∨ P0_2_ k_ ∨ P0_3_ k_ ∨ P0_4_ k_))
 have HW0 := Az.mk hB.size
 have HB := Az.mk hB
 clear hB
 have H : (if a1_0 = true then (if 0 ≤ a1_1 then (if a1_1 < (l0_2.length : Int) then (some (a0_0, l0_1, (l0_2.set (a1_1 : Int).toNat a1_2), l0_3, l0_4)) else (none)) else (none)) else (if 0 ≤ a1_1 then (if a1_1 < (l0_1.length : Int) then (if a1_1 < (l0_3.length : Int) then (some (a0_0, (l0_1.set (a1_1 : Int).toNat a1_2), l0_2, (l0_3.set (a1_1 : Int).toNat false), l0_4)) else (none)) else (none)) else (none))) = some (r1, r2, r3, r4, r5) := h
 clear h
 by_cases c3 : a1_0 = true
 ·subst c3
  have H1 : (if 0 ≤ a1_1 then (if a1_1 < (l0_2.length : Int) then (some (a0_0, l0_1, (l0_2.set (a1_1 : Int).toNat a1_2), l0_3, l0_4)) else (none)) else (none)) = some (r1, r2, r3, r4, r5) := by rw [if_pos rfl] at H; exact H
  clear H
  have H := H1
  clear H1
  by_cases c4 : 0 ≤ a1_1
  ·rw [if_pos c4] at H
   have c4b0 : decide (0 ≤ a1_1) = true := decide_eq_true c4
   clear c4
   by_cases c5 : a1_1 < (l0_2.length : Int)
   ·rw [if_pos c5] at H
    have c5b0 : decide (a1_1 < (l0_2.length : Int)) = true := decide_eq_true c5
    clear c5
    obtain ⟨y485, hy485⟩ : ∃ y_ : List ByteArray, y_ = (l0_2.set (a1_1 : Int).toNat a1_2) := ⟨_, rfl⟩
    replace H : (some (a0_0, l0_1, y485, l0_3, l0_4)) = some (r1, r2, r3, r4, r5) := by first | (rw [hy485]; with_reducible exact H) | (have H2_ := (Option.bind_some _ _).symm.trans H; rw [hy485]; with_reducible exact H2_) | (have H2_ := (Option.bind_some _ _).symm.trans H; with_reducible exact H2_) | with_reducible exact H | (rw [hy485]; exact H) | exact H
    have Ny485 := Az.mk hy485
    clear hy485
    simp only [Option.some.injEq, Prod.mk.injEq] at H
    obtain ⟨rfl, rfl, rfl, rfl, rfl⟩ := H
    obtain ⟨Ao7, co7, eo7⟩ := Kd.R_slice HO0_1.out
    subst eo7
    obtain ⟨Ao8, co8, eo8⟩ := Kd.R_slice HO0_2.out
    subst eo8
    obtain ⟨Ao9, co9, eo9⟩ := Kd.R_slice HO0_3.out
    subst eo9
    obtain ⟨Ao10, co10, eo10⟩ := Kd.R_slice HO0_4.out
    subst eo10
    go_enter Try.func101, Try.ntmps101
    go_wp2_with (first | ((with_reducible refine zqg (N := 2) rfl ?_); refine zqb ?hg (N := 2) ?hd (cs := #[.int .i64 a0_0, .slice Ao7 l0_1.length co7, .slice Ao8 l0_2.length co8, .slice Ao9 l0_3.length co9, .slice Ao10 l0_4.length co10]) (t := 28) ?hr ?_; (case hd => rfl); (case hg => rfl); (case hr => first | (go_simp; done) | (go_simp; rfl)); intro gb482 hg w11 hbox hb; have n0_ := Az.mk (Kd.R_below (by (with_reducible repeat (first | apply Kd.R_alloc | apply Kd.R_drewN | apply Kd.R_drew)); exact HO0_1.out) hb); have n1_ := Az.mk (Kd.R_below (by (with_reducible repeat (first | apply Kd.R_alloc | apply Kd.R_drewN | apply Kd.R_drew)); exact HO0_2.out) hb); have n2_ := Az.mk (Kd.R_below (by (with_reducible repeat (first | apply Kd.R_alloc | apply Kd.R_drewN | apply Kd.R_drew)); exact HO0_3.out) hb); have n3_ := Az.mk (Kd.R_below (by (with_reducible repeat (first | apply Kd.R_alloc | apply Kd.R_drewN | apply Kd.R_drew)); exact HO0_4.out) hb); have n4_ := Az.mk (Kept.below (S := (fun k_ => P0_1_ k_ ∨ P0_2_ k_ ∨ P0_3_ k_ ∨ P0_4_ k_)) (by repeat (first | (with_reducible first | exact HK.out | apply Kept.alloc | apply Kept.drewN | apply Kept.drew) | exact HK.out)) hb); have n5_ := Az.mk (below_step (by repeat (first | (with_reducible first | exact HB.out | apply zq2 | apply zq1 | apply zqd) | exact HB.out)) hb); have n6_ := Az.mk (hbox); have n7_ := Az.mk ((by rw [hg]; exact (by first | exact HK.out.1 | exact (show Kept w _ (fun k_ => P0_1_ k_ ∨ P0_2_ k_ ∨ P0_3_ k_ ∨ P0_4_ k_) from by repeat (first | (with_reducible first | exact HK.out | apply Kept.alloc | apply Kept.drewN | apply Kept.drew) | exact HK.out)).1) : w.heap.size ≤ gb482)); have n8_ := Az.mk ((by rw [hg]; exact (below_size (by repeat (first | (with_reducible first | exact HB.out | apply zq2 | apply zq1 | apply zqd) | exact HB.out))) : w0.heap.size ≤ gb482)); clear HO0_1; clear HO0_2; clear HO0_3; clear HO0_4; clear HK; clear HB; have HO0_1 := n0_; have HO0_2 := n1_; have HO0_3 := n2_; have HO0_4 := n3_; have HK := n4_; have HB := n5_; have BK482 := n6_; have GW482 := n7_; have GE482 := n8_; clear n0_ n1_ n2_ n3_ n4_ n5_ n6_ n7_ n8_; clear hb hbox hg) | ((with_reducible refine zqg (N := 3) rfl ?_); refine zqb ?hg (N := 3) ?hd (cs := #[.bool true, .int .i64 a1_1, .string a1_2]) (t := 54) ?hr ?_; (case hd => rfl); (case hg => rfl); (case hr => first | (go_simp; done) | (go_simp; rfl)); intro gb483 hg w12 hbox hb; have n0_ := Az.mk (Kd.R_below (by (with_reducible repeat (first | apply Kd.R_alloc | apply Kd.R_drewN | apply Kd.R_drew)); exact HO0_1.out) hb); have n1_ := Az.mk (Kd.R_below (by (with_reducible repeat (first | apply Kd.R_alloc | apply Kd.R_drewN | apply Kd.R_drew)); exact HO0_2.out) hb); have n2_ := Az.mk (Kd.R_below (by (with_reducible repeat (first | apply Kd.R_alloc | apply Kd.R_drewN | apply Kd.R_drew)); exact HO0_3.out) hb); have n3_ := Az.mk (Kd.R_below (Kd.R_elderB (by (with_reducible repeat (first | apply Kd.R_alloc | apply Kd.R_drewN | apply Kd.R_drew)); exact HO0_4.out) gb483 (Nat.le_of_eq hg.symm)) hb); have n4_ := Az.mk (blk_below (g := gb482) (o := .cells #[.int .i64 a0_0, .slice Ao7 l0_1.length co7, .slice Ao8 l0_2.length co8, .slice Ao9 l0_3.length co9, .slice Ao10 l0_4.length co10] 28 (0, 0)) (by (with_reducible repeat (first | refine zq6 ?_ _ | refine zq8 ?_ | refine zq7 ?_ _)); exact BK482.out) hb); have n5_ := Az.mk (Kept.below (S := (fun k_ => P0_1_ k_ ∨ P0_2_ k_ ∨ P0_3_ k_ ∨ P0_4_ k_)) (by repeat (first | (with_reducible first | exact HK.out | apply Kept.alloc | apply Kept.drewN | apply Kept.drew | refine Kept.setCell ?_ (.inr GW482.out) _) | exact HK.out)) hb); have n6_ := Az.mk (below_step (by repeat (first | (with_reducible first | exact HB.out | apply zq2 | apply zq1 | apply zqd | refine zq3 ?_ GE482.out) | exact HB.out)) hb); have n7_ := Az.mk (hbox); have n8_ := Az.mk ((by rw [hg]; exact (by first | exact HK.out.1 | exact (show Kept w _ (fun k_ => P0_1_ k_ ∨ P0_2_ k_ ∨ P0_3_ k_ ∨ P0_4_ k_) from by repeat (first | (with_reducible first | exact HK.out | apply Kept.alloc | apply Kept.drewN | apply Kept.drew | refine Kept.setCell ?_ (.inr GW482.out) _) | exact HK.out)).1) : w.heap.size ≤ gb483)); have n9_ := Az.mk ((by rw [hg]; exact (below_size (by repeat (first | (with_reducible first | exact HB.out | apply zq2 | apply zq1 | apply zqd | refine zq3 ?_ GE482.out) | exact HB.out))) : w0.heap.size ≤ gb483)); have n10_ := Az.mk ((by rw [hg]; exact Nat.ne_of_lt (blk_lt (g := gb482) (o := .cells #[.int .i64 a0_0, .slice Ao7 l0_1.length co7, .slice Ao8 l0_2.length co8, .slice Ao9 l0_3.length co9, .slice Ao10 l0_4.length co10] 28 (0, 0)) (by (with_reducible repeat (first | refine zq6 ?_ _ | refine zq8 ?_ | refine zq7 ?_ _)); exact BK482.out)) : gb482 ≠ gb483)); have n11_ := Az.mk ((by rw [hg]; exact Nat.ne_of_gt (blk_lt (g := gb482) (o := .cells #[.int .i64 a0_0, .slice Ao7 l0_1.length co7, .slice Ao8 l0_2.length co8, .slice Ao9 l0_3.length co9, .slice Ao10 l0_4.length co10] 28 (0, 0)) (by (with_reducible repeat (first | refine zq6 ?_ _ | refine zq8 ?_ | refine zq7 ?_ _)); exact BK482.out)) : gb483 ≠ gb482)); clear HO0_1; clear HO0_2; clear HO0_3; clear HO0_4; clear BK482; clear HK; clear HB; have HO0_1 := n0_; have HO0_2 := n1_; have HO0_3 := n2_; have HO0_4 := n3_; have BK482 := n4_; have HK := n5_; have HB := n6_; have BK483 := n7_; have GW483 := n8_; have GE483 := n9_; have NB482_483 := n10_; have NB483_482 := n11_; clear n0_ n1_ n2_ n3_ n4_ n5_ n6_ n7_ n8_ n9_ n10_ n11_; clear hb hbox hg) | ((with_reducible refine zqg (N := 4) rfl ?_); refine zqb ?hg (N := 4) ?hd (cs := #[.int .i64 0, .slice none 0 0, .slice none 0 0, .slice none 0 0, .slice none 0 0]) (t := 28) ?hr ?_; (case hd => rfl); (case hg => rfl); (case hr => first | (go_simp; done) | (go_simp; rfl)); intro gb484 hg w13 hbox hb; have n0_ := Az.mk (Kd.R_below (by (with_reducible repeat (first | apply Kd.R_alloc | apply Kd.R_drewN | apply Kd.R_drew)); exact HO0_1.out) hb); have n1_ := Az.mk (Kd.R_below (by (with_reducible repeat (first | apply Kd.R_alloc | apply Kd.R_drewN | apply Kd.R_drew)); exact HO0_2.out) hb); have n2_ := Az.mk (Kd.R_below (by (with_reducible repeat (first | apply Kd.R_alloc | apply Kd.R_drewN | apply Kd.R_drew)); exact HO0_3.out) hb); have n3_ := Az.mk (Kd.R_below (by (with_reducible repeat (first | apply Kd.R_alloc | apply Kd.R_drewN | apply Kd.R_drew)); exact HO0_4.out) hb); have n4_ := Az.mk (blk_below (g := gb482) (o := .cells #[.int .i64 a0_0, .slice Ao7 l0_1.length co7, .slice Ao8 l0_2.length co8, .slice Ao9 l0_3.length co9, .slice Ao10 l0_4.length co10] 28 (0, 0)) (by (with_reducible repeat (first | refine zq6 ?_ _ | refine zq8 ?_ | refine zq7 ?_ _)); exact BK482.out) hb); have n5_ := Az.mk (blk_below (g := gb483) (o := .cells #[.bool true, .int .i64 a1_1, .string a1_2] 54 (0, 0)) (by (with_reducible repeat (first | refine zq6 ?_ _ | refine zq8 ?_ | refine zq7 ?_ _)); exact BK483.out) hb); have n6_ := Az.mk (Kept.below (S := (fun k_ => P0_1_ k_ ∨ P0_2_ k_ ∨ P0_3_ k_ ∨ P0_4_ k_)) (by repeat (first | (with_reducible first | exact HK.out | apply Kept.alloc | apply Kept.drewN | apply Kept.drew | refine Kept.setCell ?_ (.inr GW482.out) _ | refine Kept.setCell ?_ (.inr GW483.out) _) | exact HK.out)) hb); have n7_ := Az.mk (below_step (by repeat (first | (with_reducible first | exact HB.out | apply zq2 | apply zq1 | apply zqd | refine zq3 ?_ GE482.out | refine zq3 ?_ GE483.out) | exact HB.out)) hb); have n8_ := Az.mk (hbox); have n9_ := Az.mk ((by rw [hg]; exact (by first | exact HK.out.1 | exact (show Kept w _ (fun k_ => P0_1_ k_ ∨ P0_2_ k_ ∨ P0_3_ k_ ∨ P0_4_ k_) from by repeat (first | (with_reducible first | exact HK.out | apply Kept.alloc | apply Kept.drewN | apply Kept.drew | refine Kept.setCell ?_ (.inr GW482.out) _ | refine Kept.setCell ?_ (.inr GW483.out) _) | exact HK.out)).1) : w.heap.size ≤ gb484)); have n10_ := Az.mk ((by rw [hg]; exact (below_size (by repeat (first | (with_reducible first | exact HB.out | apply zq2 | apply zq1 | apply zqd | refine zq3 ?_ GE482.out | refine zq3 ?_ GE483.out) | exact HB.out))) : w0.heap.size ≤ gb484)); have n11_ := Az.mk ((by rw [hg]; exact Nat.ne_of_lt (blk_lt (g := gb482) (o := .cells #[.int .i64 a0_0, .slice Ao7 l0_1.length co7, .slice Ao8 l0_2.length co8, .slice Ao9 l0_3.length co9, .slice Ao10 l0_4.length co10] 28 (0, 0)) (by (with_reducible repeat (first | refine zq6 ?_ _ | refine zq8 ?_ | refine zq7 ?_ _)); exact BK482.out)) : gb482 ≠ gb484)); have n12_ := Az.mk ((by rw [hg]; exact Nat.ne_of_gt (blk_lt (g := gb482) (o := .cells #[.int .i64 a0_0, .slice Ao7 l0_1.length co7, .slice Ao8 l0_2.length co8, .slice Ao9 l0_3.length co9, .slice Ao10 l0_4.length co10] 28 (0, 0)) (by (with_reducible repeat (first | refine zq6 ?_ _ | refine zq8 ?_ | refine zq7 ?_ _)); exact BK482.out)) : gb484 ≠ gb482)); have n13_ := Az.mk ((by rw [hg]; exact Nat.ne_of_lt (blk_lt (g := gb483) (o := .cells #[.bool true, .int .i64 a1_1, .string a1_2] 54 (0, 0)) (by (with_reducible repeat (first | refine zq6 ?_ _ | refine zq8 ?_ | refine zq7 ?_ _)); exact BK483.out)) : gb483 ≠ gb484)); have n14_ := Az.mk ((by rw [hg]; exact Nat.ne_of_gt (blk_lt (g := gb483) (o := .cells #[.bool true, .int .i64 a1_1, .string a1_2] 54 (0, 0)) (by (with_reducible repeat (first | refine zq6 ?_ _ | refine zq8 ?_ | refine zq7 ?_ _)); exact BK483.out)) : gb484 ≠ gb483)); clear HO0_1; clear HO0_2; clear HO0_3; clear HO0_4; clear BK482; clear BK483; clear HK; clear HB; have HO0_1 := n0_; have HO0_2 := n1_; have HO0_3 := n2_; have HO0_4 := n3_; have BK482 := n4_; have BK483 := n5_; have HK := n6_; have HB := n7_; have BK484 := n8_; have GW484 := n9_; have GE484 := n10_; have NB482_484 := n11_; have NB484_482 := n12_; have NB483_484 := n13_; have NB484_483 := n14_; clear n0_ n1_ n2_ n3_ n4_ n5_ n6_ n7_ n8_ n9_ n10_ n11_ n12_ n13_ n14_; clear hb hbox hg; have hnb14 := NB483_482.out; have hnc14 := NB482_483.out; have hnb15 := NB483_484.out; have hnc15 := NB484_483.out; have hcz16_0 : w13.cell? ⟨gb483, 0, none⟩ = some (.bool true) := (zq4 BK483.out 0).trans rfl; have hcz16_1 : w13.cell? ⟨gb483, 1, none⟩ = some (.int .i64 a1_1) := (zq4 BK483.out 1).trans rfl; have hcz16_2 : w13.cell? ⟨gb483, 2, none⟩ = some (.string a1_2) := (zq4 BK483.out 2).trans rfl; have hfz16_0 := zq5 BK483.out 0; have hfz16_1 := zq5 BK483.out 1; have hfz16_2 := zq5 BK483.out 2; have hnb17 := NB482_484.out; have hnc17 := NB484_482.out; have hcz18_0 : w13.cell? ⟨gb482, 0, none⟩ = some (.int .i64 a0_0) := (zq4 BK482.out 0).trans rfl; have hcz18_1 : w13.cell? ⟨gb482, 1, none⟩ = some (.slice Ao7 l0_1.length co7) := (zq4 BK482.out 1).trans rfl; have hcz18_2 : w13.cell? ⟨gb482, 2, none⟩ = some (.slice Ao8 l0_2.length co8) := (zq4 BK482.out 2).trans rfl; have hcz18_3 : w13.cell? ⟨gb482, 3, none⟩ = some (.slice Ao9 l0_3.length co9) := (zq4 BK482.out 3).trans rfl; have hcz18_4 : w13.cell? ⟨gb482, 4, none⟩ = some (.slice Ao10 l0_4.length co10) := (zq4 BK482.out 4).trans rfl; have hfz18_0 := zq5 BK482.out 0; have hfz18_1 := zq5 BK482.out 1; have hfz18_2 := zq5 BK482.out 2; have hfz18_3 := zq5 BK482.out 3; have hfz18_4 := zq5 BK482.out 4; have p6 : 0 ≤ (a1_1 : Int) := of_decide_eq_true (by first | (with_reducible assumption) | assumption); have q6 : (a1_1 : Int) < ((l0_2.length : Int) : Int) := of_decide_eq_true (by first | (with_reducible assumption) | assumption); obtain ⟨go6, co6, eo6, gb6, gl6, cl6, HG6⟩ := Kd.R_form HO0_2.out (by omega); (first | cases eo6 | (injection eo6 with ea_ en_ ec_; (first | subst ea_ | (injection ea_ with ea_; subst ea_)); subst ec_; clear en_)); have GB6 := Az.mk gb6; have GG6 := Az.mk HG6; clear gb6 gl6 HG6; have HMgo6 := Az.mk (show ((P0_1_ go6 ∨ P0_2_ go6 ∨ P0_3_ go6 ∨ P0_4_ go6) ∨ w.heap.size ≤ go6) from (HO0_2.out.1 _ rfl).1); obtain ⟨hx6_0, hf6_0⟩ := Kd.R_celln (⟨#[]⟩ : ByteArray) HO0_2.out (a1_1 : Int) p6 q6; replace p6 := eq_true p6; replace q6 := eq_true q6; obtain ⟨hy19_, hz19_⟩ := Kd.R_celln (⟨#[]⟩ : ByteArray) HO0_2.out (a1_1 : Int) (of_decide_eq_true (by first | (with_reducible assumption) | assumption)) (of_decide_eq_true (by first | (with_reducible assumption) | assumption)); have HP19 := Kd.R_putg HO0_2.out (a1_1 : Int) a1_2) | ((with_reducible refine gate_store (t := 9) (p := 13) rfl ?_); refine store_event (t := 9) (p := 13) (v := ?vo_w20) (w1 := (w13.setCell ⟨go6, (a1_1 : Int).toNat, none⟩ (.string a1_2))) ?hg ?ho ?hn ?hr ?_; (case ho => rfl); (case hg => rfl); (case hn => rfl); (case hr => first | (go_simp; done) | (go_simp; rfl)); intro w20 hw; have hg : w13.grownBy w20 (some go6) := (by rw [hw]; exact HP19.2); have hp_ : Kd.R Kd.string 9 w20 w0.heap.size (fun k_ => ((P0_1_ k_ ∨ P0_2_ k_ ∨ P0_3_ k_ ∨ P0_4_ k_) ∨ w.heap.size ≤ k_) ∧ some k_ ≠ (.slice Ao7 l0_1.length co7 : Value).ownBlock) (.slice (some ⟨go6, 0, none⟩) l0_2.length co8) y485 := (by rw [hw, Ny485.out]; exact HP19.1); clear HP19; have n0_ := Az.mk (Kd.R_after (v := (.slice (some ⟨go6, 0, none⟩) l0_2.length co8)) (v1 := (.slice (some ⟨go6, 0, none⟩) l0_2.length co8)) (ok := (fun k_ => ((P0_1_ k_ ∨ P0_2_ k_ ∨ P0_3_ k_ ∨ P0_4_ k_) ∨ w.heap.size ≤ k_))) (by (with_reducible repeat (first | apply Kd.R_alloc | apply Kd.R_drewN | apply Kd.R_drew)); exact HO0_1.out) hg (.inl rfl)); have n1_ := Az.mk (hp_); have n2_ := Az.mk (Kd.R_over' (v := (.slice (some ⟨go6, 0, none⟩) l0_2.length co8)) (by (with_reducible repeat (first | apply Kd.R_alloc | apply Kd.R_drewN | apply Kd.R_drew)); exact HO0_3.out) (Kd.R_typed HO0_2.out) (by decide) hg); have n3_ := Az.mk (Kd.R_over' (v := (.slice (some ⟨go6, 0, none⟩) l0_2.length co8)) (by (with_reducible repeat (first | apply Kd.R_alloc | apply Kd.R_drewN | apply Kd.R_drew)); exact HO0_4.out) (Kd.R_typed HO0_2.out) (by decide) hg); have n4_ := Az.mk (blk_grown (g := gb482) (o := .cells #[.int .i64 a0_0, .slice Ao7 l0_1.length co7, .slice (some ⟨go6, 0, none⟩) l0_2.length co8, .slice Ao9 l0_3.length co9, .slice Ao10 l0_4.length co10] 28 (0, 0)) (by (with_reducible repeat (first | refine zq6 ?_ _ | refine zq8 ?_ | refine zq7 ?_ _)); exact BK482.out) hg (Kd.R_ne HO0_2.out BK482.out (by decide))); have n5_ := Az.mk (blk_grown (g := gb483) (o := .cells #[.bool true, .int .i64 a1_1, .string a1_2] 54 (0, 0)) (by (with_reducible repeat (first | refine zq6 ?_ _ | refine zq8 ?_ | refine zq7 ?_ _)); exact BK483.out) hg (Kd.R_ne HO0_2.out BK483.out (by decide))); have n6_ := Az.mk (blk_grown (g := gb484) (o := .cells #[.int .i64 0, .slice none 0 0, .slice none 0 0, .slice none 0 0, .slice none 0 0] 28 (0, 0)) (by (with_reducible repeat (first | refine zq6 ?_ _ | refine zq8 ?_ | refine zq7 ?_ _)); exact BK484.out) hg (Kd.R_ne HO0_2.out BK484.out (by decide))); have n7_ := Az.mk ((by rw [hw]; exact zq3 (HB.out) GB6.out : Below w0.heap.size w0 w20)); have n8_ := Az.mk (Kept.of_grown (S := (fun k_ => P0_1_ k_ ∨ P0_2_ k_ ∨ P0_3_ k_ ∨ P0_4_ k_)) hg (by repeat (first | (with_reducible first | exact HK.out | apply Kept.alloc | apply Kept.drewN | apply Kept.drew | refine Kept.setCell ?_ (.inr GW482.out) _ | refine Kept.setCell ?_ (.inr GW483.out) _ | refine Kept.setCell ?_ (.inr GW484.out) _) | exact HK.out)) (fun k_ e_ => (HO0_2.out.1 k_ e_).1)); clear HO0_1; clear HO0_2; clear HO0_3; clear HO0_4; clear BK482; clear BK483; clear BK484; clear HB; clear HK; have HO0_1 := n0_; have HO0_2 := n1_; have HO0_3 := n2_; have HO0_4 := n3_; have BK482 := n4_; have BK483 := n5_; have BK484 := n6_; have HB := n7_; have HK := n8_; clear n0_ n1_ n2_ n3_ n4_ n5_ n6_ n7_ n8_; clear hg hw hp_; have hcz21_0 : w20.cell? ⟨gb482, 0, none⟩ = some (.int .i64 a0_0) := (zq4 BK482.out 0).trans rfl; have hcz21_1 : w20.cell? ⟨gb482, 1, none⟩ = some (.slice Ao7 l0_1.length co7) := (zq4 BK482.out 1).trans rfl; have hcz21_2 : w20.cell? ⟨gb482, 2, none⟩ = some (.slice (some ⟨go6, 0, none⟩) l0_2.length co8) := (zq4 BK482.out 2).trans rfl; have hcz21_3 : w20.cell? ⟨gb482, 3, none⟩ = some (.slice Ao9 l0_3.length co9) := (zq4 BK482.out 3).trans rfl; have hcz21_4 : w20.cell? ⟨gb482, 4, none⟩ = some (.slice Ao10 l0_4.length co10) := (zq4 BK482.out 4).trans rfl; have hfz21_0 := zq5 BK482.out 0; have hfz21_1 := zq5 BK482.out 1; have hfz21_2 := zq5 BK482.out 2; have hfz21_3 := zq5 BK482.out 3; have hfz21_4 := zq5 BK482.out 4; have hcz22_0 : w20.cell? ⟨gb484, 0, none⟩ = some (.int .i64 0) := (zq4 BK484.out 0).trans rfl; have hcz22_1 : w20.cell? ⟨gb484, 1, none⟩ = some (.slice none 0 0) := (zq4 BK484.out 1).trans rfl; have hcz22_2 : w20.cell? ⟨gb484, 2, none⟩ = some (.slice none 0 0) := (zq4 BK484.out 2).trans rfl; have hcz22_3 : w20.cell? ⟨gb484, 3, none⟩ = some (.slice none 0 0) := (zq4 BK484.out 3).trans rfl; have hcz22_4 : w20.cell? ⟨gb484, 4, none⟩ = some (.slice none 0 0) := (zq4 BK484.out 4).trans rfl; have hfz22_0 := zq5 BK484.out 0; have hfz22_1 := zq5 BK484.out 1; have hfz22_2 := zq5 BK484.out 2; have hfz22_3 := zq5 BK484.out 3; have hfz22_4 := zq5 BK484.out 4))
    refine bodyPost_ret (results_cell_row rfl _ _ gb484 28 #[.int .i64 a0_0, .slice Ao7 l0_1.length co7, .slice (some ⟨go6, 0, none⟩) l0_2.length co8, .slice Ao9 l0_3.length co9, .slice Ao10 l0_4.length co10] (0, 0) _ rfl (by (with_reducible repeat (first | refine zq6 ?_ _ | refine zq8 ?_ | refine zq7 ?_ _)); refine blk_put (cs := #[.int .i64 a0_0, .slice Ao7 l0_1.length co7, .slice (some ⟨go6, 0, none⟩) l0_2.length co8, .slice Ao9 l0_3.length co9, .slice none 0 0]) ?_ 4 _ rfl; (with_reducible repeat (first | refine zq6 ?_ _ | refine zq8 ?_ | refine zq7 ?_ _)); refine blk_put (cs := #[.int .i64 a0_0, .slice Ao7 l0_1.length co7, .slice (some ⟨go6, 0, none⟩) l0_2.length co8, .slice none 0 0, .slice none 0 0]) ?_ 3 _ rfl; (with_reducible repeat (first | refine zq6 ?_ _ | refine zq8 ?_ | refine zq7 ?_ _)); refine blk_put (cs := #[.int .i64 a0_0, .slice Ao7 l0_1.length co7, .slice none 0 0, .slice none 0 0, .slice none 0 0]) ?_ 2 _ rfl; (with_reducible repeat (first | refine zq6 ?_ _ | refine zq8 ?_ | refine zq7 ?_ _)); refine blk_put (cs := #[.int .i64 a0_0, .slice none 0 0, .slice none 0 0, .slice none 0 0, .slice none 0 0]) ?_ 1 _ rfl; (with_reducible repeat (first | refine zq6 ?_ _ | refine zq8 ?_ | refine zq7 ?_ _)); refine blk_put (cs := #[.int .i64 0, .slice none 0 0, .slice none 0 0, .slice none 0 0, .slice none 0 0]) ?_ 0 _ rfl; (with_reducible repeat (first | refine zq6 ?_ _ | refine zq8 ?_ | refine zq7 ?_ _)); exact BK484.out) Try.underlying28 rfl (by kernel_rfl)) rfl ?_
    exact ⟨_, _, _, _, by first | rfl | (simp [errW_none, errW_some] <;> rfl) | (simp [*, errW_none, errW_some] <;> rfl), by (with_reducible repeat (first | apply Kd.R_alloc | apply Kd.R_drewN | apply Kd.R_drew)); exact Kd.R_mono (Kd.R_far (p := ⟨gb484, 4, none⟩) (Kd.R_far (p := ⟨gb484, 3, none⟩) (Kd.R_far (p := ⟨gb484, 2, none⟩) (Kd.R_far (p := ⟨gb484, 1, none⟩) (Kd.R_far (p := ⟨gb484, 0, none⟩) (Kd.R_types HO0_1.out BK484.out (by decide)) (fun _ hk => hk.2) (.int .i64 a0_0)) (fun _ hk => hk.2) (.slice Ao7 l0_1.length co7)) (fun _ hk => hk.2) (.slice (some ⟨go6, 0, none⟩) l0_2.length co8)) (fun _ hk => hk.2) (.slice Ao9 l0_3.length co9)) (fun _ hk => hk.2) (.slice Ao10 l0_4.length co10)) (fun _ hk => ⟨hk.1.1, hk.1.2⟩), by (with_reducible repeat (first | apply Kd.R_alloc | apply Kd.R_drewN | apply Kd.R_drew)); exact Kd.R_mono (Kd.R_far (p := ⟨gb484, 4, none⟩) (Kd.R_far (p := ⟨gb484, 3, none⟩) (Kd.R_far (p := ⟨gb484, 2, none⟩) (Kd.R_far (p := ⟨gb484, 1, none⟩) (Kd.R_far (p := ⟨gb484, 0, none⟩) (Kd.R_types HO0_2.out BK484.out (by decide)) (fun _ hk => hk.2) (.int .i64 a0_0)) (fun _ hk => hk.2) (.slice Ao7 l0_1.length co7)) (fun _ hk => hk.2) (.slice (some ⟨go6, 0, none⟩) l0_2.length co8)) (fun _ hk => hk.2) (.slice Ao9 l0_3.length co9)) (fun _ hk => hk.2) (.slice Ao10 l0_4.length co10)) (fun _ hk => ⟨hk.1.1, hk.1.2⟩), by (with_reducible repeat (first | apply Kd.R_alloc | apply Kd.R_drewN | apply Kd.R_drew)); exact Kd.R_mono (Kd.R_far (p := ⟨gb484, 4, none⟩) (Kd.R_far (p := ⟨gb484, 3, none⟩) (Kd.R_far (p := ⟨gb484, 2, none⟩) (Kd.R_far (p := ⟨gb484, 1, none⟩) (Kd.R_far (p := ⟨gb484, 0, none⟩) (Kd.R_types HO0_3.out BK484.out (by decide)) (fun _ hk => hk.2) (.int .i64 a0_0)) (fun _ hk => hk.2) (.slice Ao7 l0_1.length co7)) (fun _ hk => hk.2) (.slice (some ⟨go6, 0, none⟩) l0_2.length co8)) (fun _ hk => hk.2) (.slice Ao9 l0_3.length co9)) (fun _ hk => hk.2) (.slice Ao10 l0_4.length co10)) (fun _ hk => hk.1), by (with_reducible repeat (first | apply Kd.R_alloc | apply Kd.R_drewN | apply Kd.R_drew)); exact Kd.R_mono (Kd.R_far (p := ⟨gb484, 4, none⟩) (Kd.R_far (p := ⟨gb484, 3, none⟩) (Kd.R_far (p := ⟨gb484, 2, none⟩) (Kd.R_far (p := ⟨gb484, 1, none⟩) (Kd.R_far (p := ⟨gb484, 0, none⟩) (Kd.R_types HO0_4.out BK484.out (by decide)) (fun _ hk => hk.2) (.int .i64 a0_0)) (fun _ hk => hk.2) (.slice Ao7 l0_1.length co7)) (fun _ hk => hk.2) (.slice (some ⟨go6, 0, none⟩) l0_2.length co8)) (fun _ hk => hk.2) (.slice Ao9 l0_3.length co9)) (fun _ hk => hk.2) (.slice Ao10 l0_4.length co10)) (fun _ hk => hk.1.1), by repeat (first | (with_reducible first | exact HB.out | apply zq2 | apply zq1 | apply zqd | refine zq3 ?_ GE482.out | refine zq3 ?_ GE483.out | refine zq3 ?_ GE484.out) | exact HB.out), by repeat (first | (with_reducible first | exact HK.out | apply Kept.alloc | apply Kept.drewN | apply Kept.drew | refine Kept.setCell ?_ (.inr GW482.out) _ | refine Kept.setCell ?_ (.inr GW483.out) _ | refine Kept.setCell ?_ (.inr GW484.out) _) | exact HK.out)⟩
   ·rw [if_neg c5] at H
    exact absurd H (by simp)
  ·rw [if_neg c4] at H
   exact absurd H (by simp)
 ·replace c3 := Bool.eq_false_iff.mpr c3
  subst c3
  have H1 : (if 0 ≤ a1_1 then (if a1_1 < (l0_1.length : Int) then (if a1_1 < (l0_3.length : Int) then (some (a0_0, (l0_1.set (a1_1 : Int).toNat a1_2), l0_2, (l0_3.set (a1_1 : Int).toNat false), l0_4)) else (none)) else (none)) else (none)) = some (r1, r2, r3, r4, r5) := by rw [if_neg (show ¬ (false = true) by decide)] at H; exact H
  clear H
  have H := H1
  clear H1
  by_cases c23 : 0 ≤ a1_1
  ·rw [if_pos c23] at H
   have c23b0 : decide (0 ≤ a1_1) = true := decide_eq_true c23
   clear c23
   by_cases c24 : a1_1 < (l0_1.length : Int)
   ·rw [if_pos c24] at H
    have c24b0 : decide (a1_1 < (l0_1.length : Int)) = true := decide_eq_true c24
    clear c24
    obtain ⟨y486, hy486⟩ : ∃ y_ : List ByteArray, y_ = (l0_1.set (a1_1 : Int).toNat a1_2) := ⟨_, rfl⟩
    replace H : (if a1_1 < (l0_3.length : Int) then (some (a0_0, y486, l0_2, (l0_3.set (a1_1 : Int).toNat false), l0_4)) else (none)) = some (r1, r2, r3, r4, r5) := by first | (rw [hy486]; with_reducible exact H) | (have H2_ := (Option.bind_some _ _).symm.trans H; rw [hy486]; with_reducible exact H2_) | (have H2_ := (Option.bind_some _ _).symm.trans H; with_reducible exact H2_) | with_reducible exact H | (rw [hy486]; exact H) | exact H
    have Ny486 := Az.mk hy486
    clear hy486
    by_cases c26 : a1_1 < (l0_3.length : Int)
    ·rw [if_pos c26] at H
     have c26b0 : decide (a1_1 < (l0_3.length : Int)) = true := decide_eq_true c26
     clear c26
     obtain ⟨y487, hy487⟩ : ∃ y_ : List Bool, y_ = (l0_3.set (a1_1 : Int).toNat false) := ⟨_, rfl⟩
     replace H : (some (a0_0, y486, l0_2, y487, l0_4)) = some (r1, r2, r3, r4, r5) := by first | (rw [hy487]; with_reducible exact H) | (have H2_ := (Option.bind_some _ _).symm.trans H; rw [hy487]; with_reducible exact H2_) | (have H2_ := (Option.bind_some _ _).symm.trans H; with_reducible exact H2_) | with_reducible exact H | (rw [hy487]; exact H) | exact H
     have Ny487 := Az.mk hy487
     clear hy487
     simp only [Option.some.injEq, Prod.mk.injEq] at H
     obtain ⟨rfl, rfl, rfl, rfl, rfl⟩ := H
     obtain ⟨Ao28, co28, eo28⟩ := Kd.R_slice HO0_1.out
     subst eo28
     obtain ⟨Ao29, co29, eo29⟩ := Kd.R_slice HO0_2.out
     subst eo29
     obtain ⟨Ao30, co30, eo30⟩ := Kd.R_slice HO0_3.out
     subst eo30
     obtain ⟨Ao31, co31, eo31⟩ := Kd.R_slice HO0_4.out
     subst eo31
     go_enter Try.func101, Try.ntmps101
     go_wp2_with (first | ((with_reducible refine zqg (N := 2) rfl ?_); refine zqb ?hg (N := 2) ?hd (cs := #[.int .i64 a0_0, .slice Ao28 l0_1.length co28, .slice Ao29 l0_2.length co29, .slice Ao30 l0_3.length co30, .slice Ao31 l0_4.length co31]) (t := 28) ?hr ?_; (case hd => rfl); (case hg => rfl); (case hr => first | (go_simp; done) | (go_simp; rfl)); intro gb482 hg w32 hbox hb; have n0_ := Az.mk (Kd.R_below (by (with_reducible repeat (first | apply Kd.R_alloc | apply Kd.R_drewN | apply Kd.R_drew)); exact HO0_1.out) hb); have n1_ := Az.mk (Kd.R_below (by (with_reducible repeat (first | apply Kd.R_alloc | apply Kd.R_drewN | apply Kd.R_drew)); exact HO0_2.out) hb); have n2_ := Az.mk (Kd.R_below (by (with_reducible repeat (first | apply Kd.R_alloc | apply Kd.R_drewN | apply Kd.R_drew)); exact HO0_3.out) hb); have n3_ := Az.mk (Kd.R_below (by (with_reducible repeat (first | apply Kd.R_alloc | apply Kd.R_drewN | apply Kd.R_drew)); exact HO0_4.out) hb); have n4_ := Az.mk (Kept.below (S := (fun k_ => P0_1_ k_ ∨ P0_2_ k_ ∨ P0_3_ k_ ∨ P0_4_ k_)) (by repeat (first | (with_reducible first | exact HK.out | apply Kept.alloc | apply Kept.drewN | apply Kept.drew) | exact HK.out)) hb); have n5_ := Az.mk (below_step (by repeat (first | (with_reducible first | exact HB.out | apply zq2 | apply zq1 | apply zqd) | exact HB.out)) hb); have n6_ := Az.mk (hbox); have n7_ := Az.mk ((by rw [hg]; exact (by first | exact HK.out.1 | exact (show Kept w _ (fun k_ => P0_1_ k_ ∨ P0_2_ k_ ∨ P0_3_ k_ ∨ P0_4_ k_) from by repeat (first | (with_reducible first | exact HK.out | apply Kept.alloc | apply Kept.drewN | apply Kept.drew) | exact HK.out)).1) : w.heap.size ≤ gb482)); have n8_ := Az.mk ((by rw [hg]; exact (below_size (by repeat (first | (with_reducible first | exact HB.out | apply zq2 | apply zq1 | apply zqd) | exact HB.out))) : w0.heap.size ≤ gb482)); clear HO0_1; clear HO0_2; clear HO0_3; clear HO0_4; clear HK; clear HB; have HO0_1 := n0_; have HO0_2 := n1_; have HO0_3 := n2_; have HO0_4 := n3_; have HK := n4_; have HB := n5_; have BK482 := n6_; have GW482 := n7_; have GE482 := n8_; clear n0_ n1_ n2_ n3_ n4_ n5_ n6_ n7_ n8_; clear hb hbox hg) | ((with_reducible refine zqg (N := 3) rfl ?_); refine zqb ?hg (N := 3) ?hd (cs := #[.bool false, .int .i64 a1_1, .string a1_2]) (t := 54) ?hr ?_; (case hd => rfl); (case hg => rfl); (case hr => first | (go_simp; done) | (go_simp; rfl)); intro gb483 hg w33 hbox hb; have n0_ := Az.mk (Kd.R_below (by (with_reducible repeat (first | apply Kd.R_alloc | apply Kd.R_drewN | apply Kd.R_drew)); exact HO0_1.out) hb); have n1_ := Az.mk (Kd.R_below (by (with_reducible repeat (first | apply Kd.R_alloc | apply Kd.R_drewN | apply Kd.R_drew)); exact HO0_2.out) hb); have n2_ := Az.mk (Kd.R_below (by (with_reducible repeat (first | apply Kd.R_alloc | apply Kd.R_drewN | apply Kd.R_drew)); exact HO0_3.out) hb); have n3_ := Az.mk (Kd.R_below (Kd.R_elderB (by (with_reducible repeat (first | apply Kd.R_alloc | apply Kd.R_drewN | apply Kd.R_drew)); exact HO0_4.out) gb483 (Nat.le_of_eq hg.symm)) hb); have n4_ := Az.mk (blk_below (g := gb482) (o := .cells #[.int .i64 a0_0, .slice Ao28 l0_1.length co28, .slice Ao29 l0_2.length co29, .slice Ao30 l0_3.length co30, .slice Ao31 l0_4.length co31] 28 (0, 0)) (by (with_reducible repeat (first | refine zq6 ?_ _ | refine zq8 ?_ | refine zq7 ?_ _)); exact BK482.out) hb); have n5_ := Az.mk (Kept.below (S := (fun k_ => P0_1_ k_ ∨ P0_2_ k_ ∨ P0_3_ k_ ∨ P0_4_ k_)) (by repeat (first | (with_reducible first | exact HK.out | apply Kept.alloc | apply Kept.drewN | apply Kept.drew | refine Kept.setCell ?_ (.inr GW482.out) _) | exact HK.out)) hb); have n6_ := Az.mk (below_step (by repeat (first | (with_reducible first | exact HB.out | apply zq2 | apply zq1 | apply zqd | refine zq3 ?_ GE482.out) | exact HB.out)) hb); have n7_ := Az.mk (hbox); have n8_ := Az.mk ((by rw [hg]; exact (by first | exact HK.out.1 | exact (show Kept w _ (fun k_ => P0_1_ k_ ∨ P0_2_ k_ ∨ P0_3_ k_ ∨ P0_4_ k_) from by repeat (first | (with_reducible first | exact HK.out | apply Kept.alloc | apply Kept.drewN | apply Kept.drew | refine Kept.setCell ?_ (.inr GW482.out) _) | exact HK.out)).1) : w.heap.size ≤ gb483)); have n9_ := Az.mk ((by rw [hg]; exact (below_size (by repeat (first | (with_reducible first | exact HB.out | apply zq2 | apply zq1 | apply zqd | refine zq3 ?_ GE482.out) | exact HB.out))) : w0.heap.size ≤ gb483)); have n10_ := Az.mk ((by rw [hg]; exact Nat.ne_of_lt (blk_lt (g := gb482) (o := .cells #[.int .i64 a0_0, .slice Ao28 l0_1.length co28, .slice Ao29 l0_2.length co29, .slice Ao30 l0_3.length co30, .slice Ao31 l0_4.length co31] 28 (0, 0)) (by (with_reducible repeat (first | refine zq6 ?_ _ | refine zq8 ?_ | refine zq7 ?_ _)); exact BK482.out)) : gb482 ≠ gb483)); have n11_ := Az.mk ((by rw [hg]; exact Nat.ne_of_gt (blk_lt (g := gb482) (o := .cells #[.int .i64 a0_0, .slice Ao28 l0_1.length co28, .slice Ao29 l0_2.length co29, .slice Ao30 l0_3.length co30, .slice Ao31 l0_4.length co31] 28 (0, 0)) (by (with_reducible repeat (first | refine zq6 ?_ _ | refine zq8 ?_ | refine zq7 ?_ _)); exact BK482.out)) : gb483 ≠ gb482)); clear HO0_1; clear HO0_2; clear HO0_3; clear HO0_4; clear BK482; clear HK; clear HB; have HO0_1 := n0_; have HO0_2 := n1_; have HO0_3 := n2_; have HO0_4 := n3_; have BK482 := n4_; have HK := n5_; have HB := n6_; have BK483 := n7_; have GW483 := n8_; have GE483 := n9_; have NB482_483 := n10_; have NB483_482 := n11_; clear n0_ n1_ n2_ n3_ n4_ n5_ n6_ n7_ n8_ n9_ n10_ n11_; clear hb hbox hg) | ((with_reducible refine zqg (N := 4) rfl ?_); refine zqb ?hg (N := 4) ?hd (cs := #[.int .i64 0, .slice none 0 0, .slice none 0 0, .slice none 0 0, .slice none 0 0]) (t := 28) ?hr ?_; (case hd => rfl); (case hg => rfl); (case hr => first | (go_simp; done) | (go_simp; rfl)); intro gb484 hg w34 hbox hb; have n0_ := Az.mk (Kd.R_below (by (with_reducible repeat (first | apply Kd.R_alloc | apply Kd.R_drewN | apply Kd.R_drew)); exact HO0_1.out) hb); have n1_ := Az.mk (Kd.R_below (by (with_reducible repeat (first | apply Kd.R_alloc | apply Kd.R_drewN | apply Kd.R_drew)); exact HO0_2.out) hb); have n2_ := Az.mk (Kd.R_below (by (with_reducible repeat (first | apply Kd.R_alloc | apply Kd.R_drewN | apply Kd.R_drew)); exact HO0_3.out) hb); have n3_ := Az.mk (Kd.R_below (by (with_reducible repeat (first | apply Kd.R_alloc | apply Kd.R_drewN | apply Kd.R_drew)); exact HO0_4.out) hb); have n4_ := Az.mk (blk_below (g := gb482) (o := .cells #[.int .i64 a0_0, .slice Ao28 l0_1.length co28, .slice Ao29 l0_2.length co29, .slice Ao30 l0_3.length co30, .slice Ao31 l0_4.length co31] 28 (0, 0)) (by (with_reducible repeat (first | refine zq6 ?_ _ | refine zq8 ?_ | refine zq7 ?_ _)); exact BK482.out) hb); have n5_ := Az.mk (blk_below (g := gb483) (o := .cells #[.bool false, .int .i64 a1_1, .string a1_2] 54 (0, 0)) (by (with_reducible repeat (first | refine zq6 ?_ _ | refine zq8 ?_ | refine zq7 ?_ _)); exact BK483.out) hb); have n6_ := Az.mk (Kept.below (S := (fun k_ => P0_1_ k_ ∨ P0_2_ k_ ∨ P0_3_ k_ ∨ P0_4_ k_)) (by repeat (first | (with_reducible first | exact HK.out | apply Kept.alloc | apply Kept.drewN | apply Kept.drew | refine Kept.setCell ?_ (.inr GW482.out) _ | refine Kept.setCell ?_ (.inr GW483.out) _) | exact HK.out)) hb); have n7_ := Az.mk (below_step (by repeat (first | (with_reducible first | exact HB.out | apply zq2 | apply zq1 | apply zqd | refine zq3 ?_ GE482.out | refine zq3 ?_ GE483.out) | exact HB.out)) hb); have n8_ := Az.mk (hbox); have n9_ := Az.mk ((by rw [hg]; exact (by first | exact HK.out.1 | exact (show Kept w _ (fun k_ => P0_1_ k_ ∨ P0_2_ k_ ∨ P0_3_ k_ ∨ P0_4_ k_) from by repeat (first | (with_reducible first | exact HK.out | apply Kept.alloc | apply Kept.drewN | apply Kept.drew | refine Kept.setCell ?_ (.inr GW482.out) _ | refine Kept.setCell ?_ (.inr GW483.out) _) | exact HK.out)).1) : w.heap.size ≤ gb484)); have n10_ := Az.mk ((by rw [hg]; exact (below_size (by repeat (first | (with_reducible first | exact HB.out | apply zq2 | apply zq1 | apply zqd | refine zq3 ?_ GE482.out | refine zq3 ?_ GE483.out) | exact HB.out))) : w0.heap.size ≤ gb484)); have n11_ := Az.mk ((by rw [hg]; exact Nat.ne_of_lt (blk_lt (g := gb482) (o := .cells #[.int .i64 a0_0, .slice Ao28 l0_1.length co28, .slice Ao29 l0_2.length co29, .slice Ao30 l0_3.length co30, .slice Ao31 l0_4.length co31] 28 (0, 0)) (by (with_reducible repeat (first | refine zq6 ?_ _ | refine zq8 ?_ | refine zq7 ?_ _)); exact BK482.out)) : gb482 ≠ gb484)); have n12_ := Az.mk ((by rw [hg]; exact Nat.ne_of_gt (blk_lt (g := gb482) (o := .cells #[.int .i64 a0_0, .slice Ao28 l0_1.length co28, .slice Ao29 l0_2.length co29, .slice Ao30 l0_3.length co30, .slice Ao31 l0_4.length co31] 28 (0, 0)) (by (with_reducible repeat (first | refine zq6 ?_ _ | refine zq8 ?_ | refine zq7 ?_ _)); exact BK482.out)) : gb484 ≠ gb482)); have n13_ := Az.mk ((by rw [hg]; exact Nat.ne_of_lt (blk_lt (g := gb483) (o := .cells #[.bool false, .int .i64 a1_1, .string a1_2] 54 (0, 0)) (by (with_reducible repeat (first | refine zq6 ?_ _ | refine zq8 ?_ | refine zq7 ?_ _)); exact BK483.out)) : gb483 ≠ gb484)); have n14_ := Az.mk ((by rw [hg]; exact Nat.ne_of_gt (blk_lt (g := gb483) (o := .cells #[.bool false, .int .i64 a1_1, .string a1_2] 54 (0, 0)) (by (with_reducible repeat (first | refine zq6 ?_ _ | refine zq8 ?_ | refine zq7 ?_ _)); exact BK483.out)) : gb484 ≠ gb483)); clear HO0_1; clear HO0_2; clear HO0_3; clear HO0_4; clear BK482; clear BK483; clear HK; clear HB; have HO0_1 := n0_; have HO0_2 := n1_; have HO0_3 := n2_; have HO0_4 := n3_; have BK482 := n4_; have BK483 := n5_; have HK := n6_; have HB := n7_; have BK484 := n8_; have GW484 := n9_; have GE484 := n10_; have NB482_484 := n11_; have NB484_482 := n12_; have NB483_484 := n13_; have NB484_483 := n14_; clear n0_ n1_ n2_ n3_ n4_ n5_ n6_ n7_ n8_ n9_ n10_ n11_ n12_ n13_ n14_; clear hb hbox hg; have hnb35 := NB483_482.out; have hnc35 := NB482_483.out; have hnb36 := NB483_484.out; have hnc36 := NB484_483.out; have hcz37_0 : w34.cell? ⟨gb483, 0, none⟩ = some (.bool false) := (zq4 BK483.out 0).trans rfl; have hcz37_1 : w34.cell? ⟨gb483, 1, none⟩ = some (.int .i64 a1_1) := (zq4 BK483.out 1).trans rfl; have hcz37_2 : w34.cell? ⟨gb483, 2, none⟩ = some (.string a1_2) := (zq4 BK483.out 2).trans rfl; have hfz37_0 := zq5 BK483.out 0; have hfz37_1 := zq5 BK483.out 1; have hfz37_2 := zq5 BK483.out 2; have hnb38 := NB482_484.out; have hnc38 := NB484_482.out; have hcz39_0 : w34.cell? ⟨gb482, 0, none⟩ = some (.int .i64 a0_0) := (zq4 BK482.out 0).trans rfl; have hcz39_1 : w34.cell? ⟨gb482, 1, none⟩ = some (.slice Ao28 l0_1.length co28) := (zq4 BK482.out 1).trans rfl; have hcz39_2 : w34.cell? ⟨gb482, 2, none⟩ = some (.slice Ao29 l0_2.length co29) := (zq4 BK482.out 2).trans rfl; have hcz39_3 : w34.cell? ⟨gb482, 3, none⟩ = some (.slice Ao30 l0_3.length co30) := (zq4 BK482.out 3).trans rfl; have hcz39_4 : w34.cell? ⟨gb482, 4, none⟩ = some (.slice Ao31 l0_4.length co31) := (zq4 BK482.out 4).trans rfl; have hfz39_0 := zq5 BK482.out 0; have hfz39_1 := zq5 BK482.out 1; have hfz39_2 := zq5 BK482.out 2; have hfz39_3 := zq5 BK482.out 3; have hfz39_4 := zq5 BK482.out 4; have p25 : 0 ≤ (a1_1 : Int) := of_decide_eq_true (by first | (with_reducible assumption) | assumption); have q25 : (a1_1 : Int) < ((l0_1.length : Int) : Int) := of_decide_eq_true (by first | (with_reducible assumption) | assumption); obtain ⟨go25, co25, eo25, gb25, gl25, cl25, HG25⟩ := Kd.R_form HO0_1.out (by omega); (first | cases eo25 | (injection eo25 with ea_ en_ ec_; (first | subst ea_ | (injection ea_ with ea_; subst ea_)); subst ec_; clear en_)); have GB25 := Az.mk gb25; have GG25 := Az.mk HG25; clear gb25 gl25 HG25; have HMgo25 := Az.mk (show ((P0_1_ go25 ∨ P0_2_ go25 ∨ P0_3_ go25 ∨ P0_4_ go25) ∨ w.heap.size ≤ go25) from (HO0_1.out.1 _ rfl).1); obtain ⟨hx25_0, hf25_0⟩ := Kd.R_celln (⟨#[]⟩ : ByteArray) HO0_1.out (a1_1 : Int) p25 q25; replace p25 := eq_true p25; replace q25 := eq_true q25; obtain ⟨hy40_, hz40_⟩ := Kd.R_celln (⟨#[]⟩ : ByteArray) HO0_1.out (a1_1 : Int) (of_decide_eq_true (by first | (with_reducible assumption) | assumption)) (of_decide_eq_true (by first | (with_reducible assumption) | assumption)); have HP40 := Kd.R_putg HO0_1.out (a1_1 : Int) a1_2) | ((with_reducible refine gate_store (t := 9) (p := 21) rfl ?_); refine store_event (t := 9) (p := 21) (v := ?vo_w41) (w1 := (w34.setCell ⟨go25, (a1_1 : Int).toNat, none⟩ (.string a1_2))) ?hg ?ho ?hn ?hr ?_; (case ho => rfl); (case hg => rfl); (case hn => rfl); (case hr => first | (go_simp; done) | (go_simp; rfl)); intro w41 hw; have hg : w34.grownBy w41 (some go25) := (by rw [hw]; exact HP40.2); have hp_ : Kd.R Kd.string 9 w41 w0.heap.size (fun k_ => ((P0_1_ k_ ∨ P0_2_ k_ ∨ P0_3_ k_ ∨ P0_4_ k_) ∨ w.heap.size ≤ k_) ∧ some k_ ≠ (.slice Ao29 l0_2.length co29 : Value).ownBlock) (.slice (some ⟨go25, 0, none⟩) l0_1.length co28) y486 := (by rw [hw, Ny486.out]; exact HP40.1); clear HP40; have n0_ := Az.mk (hp_); have n1_ := Az.mk (Kd.R_after (v := (.slice (some ⟨go25, 0, none⟩) l0_1.length co28)) (v1 := (.slice (some ⟨go25, 0, none⟩) l0_1.length co28)) (ok := (fun k_ => ((P0_1_ k_ ∨ P0_2_ k_ ∨ P0_3_ k_ ∨ P0_4_ k_) ∨ w.heap.size ≤ k_))) (by (with_reducible repeat (first | apply Kd.R_alloc | apply Kd.R_drewN | apply Kd.R_drew)); exact HO0_2.out) hg (.inl rfl)); have n2_ := Az.mk (Kd.R_over' (v := (.slice (some ⟨go25, 0, none⟩) l0_1.length co28)) (by (with_reducible repeat (first | apply Kd.R_alloc | apply Kd.R_drewN | apply Kd.R_drew)); exact HO0_3.out) (Kd.R_typed HO0_1.out) (by decide) hg); have n3_ := Az.mk (Kd.R_over' (v := (.slice (some ⟨go25, 0, none⟩) l0_1.length co28)) (by (with_reducible repeat (first | apply Kd.R_alloc | apply Kd.R_drewN | apply Kd.R_drew)); exact HO0_4.out) (Kd.R_typed HO0_1.out) (by decide) hg); have n4_ := Az.mk (blk_grown (g := gb482) (o := .cells #[.int .i64 a0_0, .slice (some ⟨go25, 0, none⟩) l0_1.length co28, .slice Ao29 l0_2.length co29, .slice Ao30 l0_3.length co30, .slice Ao31 l0_4.length co31] 28 (0, 0)) (by (with_reducible repeat (first | refine zq6 ?_ _ | refine zq8 ?_ | refine zq7 ?_ _)); exact BK482.out) hg (Kd.R_ne HO0_1.out BK482.out (by decide))); have n5_ := Az.mk (blk_grown (g := gb483) (o := .cells #[.bool false, .int .i64 a1_1, .string a1_2] 54 (0, 0)) (by (with_reducible repeat (first | refine zq6 ?_ _ | refine zq8 ?_ | refine zq7 ?_ _)); exact BK483.out) hg (Kd.R_ne HO0_1.out BK483.out (by decide))); have n6_ := Az.mk (blk_grown (g := gb484) (o := .cells #[.int .i64 0, .slice none 0 0, .slice none 0 0, .slice none 0 0, .slice none 0 0] 28 (0, 0)) (by (with_reducible repeat (first | refine zq6 ?_ _ | refine zq8 ?_ | refine zq7 ?_ _)); exact BK484.out) hg (Kd.R_ne HO0_1.out BK484.out (by decide))); have n7_ := Az.mk ((by rw [hw]; exact zq3 (HB.out) GB25.out : Below w0.heap.size w0 w41)); have n8_ := Az.mk (Kept.of_grown (S := (fun k_ => P0_1_ k_ ∨ P0_2_ k_ ∨ P0_3_ k_ ∨ P0_4_ k_)) hg (by repeat (first | (with_reducible first | exact HK.out | apply Kept.alloc | apply Kept.drewN | apply Kept.drew | refine Kept.setCell ?_ (.inr GW482.out) _ | refine Kept.setCell ?_ (.inr GW483.out) _ | refine Kept.setCell ?_ (.inr GW484.out) _) | exact HK.out)) (fun k_ e_ => (HO0_1.out.1 k_ e_).1)); clear HO0_1; clear HO0_2; clear HO0_3; clear HO0_4; clear BK482; clear BK483; clear BK484; clear HB; clear HK; have HO0_1 := n0_; have HO0_2 := n1_; have HO0_3 := n2_; have HO0_4 := n3_; have BK482 := n4_; have BK483 := n5_; have BK484 := n6_; have HB := n7_; have HK := n8_; clear n0_ n1_ n2_ n3_ n4_ n5_ n6_ n7_ n8_; clear hg hw hp_; have hcz42_0 : w41.cell? ⟨gb482, 0, none⟩ = some (.int .i64 a0_0) := (zq4 BK482.out 0).trans rfl; have hcz42_1 : w41.cell? ⟨gb482, 1, none⟩ = some (.slice (some ⟨go25, 0, none⟩) l0_1.length co28) := (zq4 BK482.out 1).trans rfl; have hcz42_2 : w41.cell? ⟨gb482, 2, none⟩ = some (.slice Ao29 l0_2.length co29) := (zq4 BK482.out 2).trans rfl; have hcz42_3 : w41.cell? ⟨gb482, 3, none⟩ = some (.slice Ao30 l0_3.length co30) := (zq4 BK482.out 3).trans rfl; have hcz42_4 : w41.cell? ⟨gb482, 4, none⟩ = some (.slice Ao31 l0_4.length co31) := (zq4 BK482.out 4).trans rfl; have hfz42_0 := zq5 BK482.out 0; have hfz42_1 := zq5 BK482.out 1; have hfz42_2 := zq5 BK482.out 2; have hfz42_3 := zq5 BK482.out 3; have hfz42_4 := zq5 BK482.out 4; have hcz43_0 : w41.cell? ⟨gb483, 0, none⟩ = some (.bool false) := (zq4 BK483.out 0).trans rfl; have hcz43_1 : w41.cell? ⟨gb483, 1, none⟩ = some (.int .i64 a1_1) := (zq4 BK483.out 1).trans rfl; have hcz43_2 : w41.cell? ⟨gb483, 2, none⟩ = some (.string a1_2) := (zq4 BK483.out 2).trans rfl; have hfz43_0 := zq5 BK483.out 0; have hfz43_1 := zq5 BK483.out 1; have hfz43_2 := zq5 BK483.out 2; have p27 : 0 ≤ (a1_1 : Int) := of_decide_eq_true (by first | (with_reducible assumption) | assumption); have q27 : (a1_1 : Int) < ((l0_3.length : Int) : Int) := of_decide_eq_true (by first | (with_reducible assumption) | assumption); obtain ⟨go27, co27, eo27, gb27, gl27, cl27, HG27⟩ := Kd.R_form HO0_3.out (by omega); (first | cases eo27 | (injection eo27 with ea_ en_ ec_; (first | subst ea_ | (injection ea_ with ea_; subst ea_)); subst ec_; clear en_)); have GB27 := Az.mk gb27; have GG27 := Az.mk HG27; clear gb27 gl27 HG27; have HMgo27 := Az.mk (show ((P0_1_ go27 ∨ P0_2_ go27 ∨ P0_3_ go27 ∨ P0_4_ go27) ∨ w.heap.size ≤ go27) from (HO0_3.out.1 _ rfl)); obtain ⟨hx27_0, hf27_0⟩ := Kd.R_celln false HO0_3.out (a1_1 : Int) p27 q27; replace p27 := eq_true p27; replace q27 := eq_true q27; obtain ⟨hy44_, hz44_⟩ := Kd.R_celln false HO0_3.out (a1_1 : Int) (of_decide_eq_true (by first | (with_reducible assumption) | assumption)) (of_decide_eq_true (by first | (with_reducible assumption) | assumption)); have HP44 := Kd.R_putg HO0_3.out (a1_1 : Int) false) | ((with_reducible refine gate_store (t := 4) (p := 26) rfl ?_); refine store_event (t := 4) (p := 26) (v := ?vo_w45) (w1 := (w41.setCell ⟨go27, (a1_1 : Int).toNat, none⟩ (.bool false))) ?hg ?ho ?hn ?hr ?_; (case ho => rfl); (case hg => rfl); (case hn => rfl); (case hr => first | (go_simp; done) | (go_simp; rfl)); intro w45 hw; have hg : w41.grownBy w45 (some go27) := (by rw [hw]; exact HP44.2); have hp_ : Kd.R Kd.bool 4 w45 w0.heap.size (fun k_ => ((P0_1_ k_ ∨ P0_2_ k_ ∨ P0_3_ k_ ∨ P0_4_ k_) ∨ w.heap.size ≤ k_)) (.slice (some ⟨go27, 0, none⟩) l0_3.length co30) y487 := (by rw [hw, Ny487.out]; exact HP44.1); clear HP44; have n0_ := Az.mk (Kd.R_over' (v := (.slice (some ⟨go27, 0, none⟩) l0_3.length co30)) (by (with_reducible repeat (first | apply Kd.R_alloc | apply Kd.R_drewN | apply Kd.R_drew)); exact HO0_1.out) (Kd.R_typed HO0_3.out) (by decide) hg); have n1_ := Az.mk (Kd.R_over' (v := (.slice (some ⟨go27, 0, none⟩) l0_3.length co30)) (by (with_reducible repeat (first | apply Kd.R_alloc | apply Kd.R_drewN | apply Kd.R_drew)); exact HO0_2.out) (Kd.R_typed HO0_3.out) (by decide) hg); have n2_ := Az.mk (hp_); have n3_ := Az.mk (Kd.R_over' (v := (.slice (some ⟨go27, 0, none⟩) l0_3.length co30)) (by (with_reducible repeat (first | apply Kd.R_alloc | apply Kd.R_drewN | apply Kd.R_drew)); exact HO0_4.out) (Kd.R_typed HO0_3.out) (by decide) hg); have n4_ := Az.mk (blk_grown (g := gb482) (o := .cells #[.int .i64 a0_0, .slice (some ⟨go25, 0, none⟩) l0_1.length co28, .slice Ao29 l0_2.length co29, .slice (some ⟨go27, 0, none⟩) l0_3.length co30, .slice Ao31 l0_4.length co31] 28 (0, 0)) (by (with_reducible repeat (first | refine zq6 ?_ _ | refine zq8 ?_ | refine zq7 ?_ _)); exact BK482.out) hg (Kd.R_ne HO0_3.out BK482.out (by decide))); have n5_ := Az.mk (blk_grown (g := gb483) (o := .cells #[.bool false, .int .i64 a1_1, .string a1_2] 54 (0, 0)) (by (with_reducible repeat (first | refine zq6 ?_ _ | refine zq8 ?_ | refine zq7 ?_ _)); exact BK483.out) hg (Kd.R_ne HO0_3.out BK483.out (by decide))); have n6_ := Az.mk (blk_grown (g := gb484) (o := .cells #[.int .i64 0, .slice none 0 0, .slice none 0 0, .slice none 0 0, .slice none 0 0] 28 (0, 0)) (by (with_reducible repeat (first | refine zq6 ?_ _ | refine zq8 ?_ | refine zq7 ?_ _)); exact BK484.out) hg (Kd.R_ne HO0_3.out BK484.out (by decide))); have n7_ := Az.mk ((by rw [hw]; exact zq3 (HB.out) GB27.out : Below w0.heap.size w0 w45)); have n8_ := Az.mk (Kept.of_grown (S := (fun k_ => P0_1_ k_ ∨ P0_2_ k_ ∨ P0_3_ k_ ∨ P0_4_ k_)) hg (by repeat (first | (with_reducible first | exact HK.out | apply Kept.alloc | apply Kept.drewN | apply Kept.drew | refine Kept.setCell ?_ (.inr GW482.out) _ | refine Kept.setCell ?_ (.inr GW483.out) _ | refine Kept.setCell ?_ (.inr GW484.out) _) | exact HK.out)) (fun k_ e_ => (HO0_3.out.1 k_ e_))); clear HO0_1; clear HO0_2; clear HO0_3; clear HO0_4; clear BK482; clear BK483; clear BK484; clear HB; clear HK; have HO0_1 := n0_; have HO0_2 := n1_; have HO0_3 := n2_; have HO0_4 := n3_; have BK482 := n4_; have BK483 := n5_; have BK484 := n6_; have HB := n7_; have HK := n8_; clear n0_ n1_ n2_ n3_ n4_ n5_ n6_ n7_ n8_; clear hg hw hp_; have hcz46_0 : w45.cell? ⟨gb482, 0, none⟩ = some (.int .i64 a0_0) := (zq4 BK482.out 0).trans rfl; have hcz46_1 : w45.cell? ⟨gb482, 1, none⟩ = some (.slice (some ⟨go25, 0, none⟩) l0_1.length co28) := (zq4 BK482.out 1).trans rfl; have hcz46_2 : w45.cell? ⟨gb482, 2, none⟩ = some (.slice Ao29 l0_2.length co29) := (zq4 BK482.out 2).trans rfl; have hcz46_3 : w45.cell? ⟨gb482, 3, none⟩ = some (.slice (some ⟨go27, 0, none⟩) l0_3.length co30) := (zq4 BK482.out 3).trans rfl; have hcz46_4 : w45.cell? ⟨gb482, 4, none⟩ = some (.slice Ao31 l0_4.length co31) := (zq4 BK482.out 4).trans rfl; have hfz46_0 := zq5 BK482.out 0; have hfz46_1 := zq5 BK482.out 1; have hfz46_2 := zq5 BK482.out 2; have hfz46_3 := zq5 BK482.out 3; have hfz46_4 := zq5 BK482.out 4; have hcz47_0 : w45.cell? ⟨gb484, 0, none⟩ = some (.int .i64 0) := (zq4 BK484.out 0).trans rfl; have hcz47_1 : w45.cell? ⟨gb484, 1, none⟩ = some (.slice none 0 0) := (zq4 BK484.out 1).trans rfl; have hcz47_2 : w45.cell? ⟨gb484, 2, none⟩ = some (.slice none 0 0) := (zq4 BK484.out 2).trans rfl; have hcz47_3 : w45.cell? ⟨gb484, 3, none⟩ = some (.slice none 0 0) := (zq4 BK484.out 3).trans rfl; have hcz47_4 : w45.cell? ⟨gb484, 4, none⟩ = some (.slice none 0 0) := (zq4 BK484.out 4).trans rfl; have hfz47_0 := zq5 BK484.out 0; have hfz47_1 := zq5 BK484.out 1; have hfz47_2 := zq5 BK484.out 2; have hfz47_3 := zq5 BK484.out 3; have hfz47_4 := zq5 BK484.out 4))
     refine bodyPost_ret (results_cell_row rfl _ _ gb484 28 #[.int .i64 a0_0, .slice (some ⟨go25, 0, none⟩) l0_1.length co28, .slice Ao29 l0_2.length co29, .slice (some ⟨go27, 0, none⟩) l0_3.length co30, .slice Ao31 l0_4.length co31] (0, 0) _ rfl (by (with_reducible repeat (first | refine zq6 ?_ _ | refine zq8 ?_ | refine zq7 ?_ _)); refine blk_put (cs := #[.int .i64 a0_0, .slice (some ⟨go25, 0, none⟩) l0_1.length co28, .slice Ao29 l0_2.length co29, .slice (some ⟨go27, 0, none⟩) l0_3.length co30, .slice none 0 0]) ?_ 4 _ rfl; (with_reducible repeat (first | refine zq6 ?_ _ | refine zq8 ?_ | refine zq7 ?_ _)); refine blk_put (cs := #[.int .i64 a0_0, .slice (some ⟨go25, 0, none⟩) l0_1.length co28, .slice Ao29 l0_2.length co29, .slice none 0 0, .slice none 0 0]) ?_ 3 _ rfl; (with_reducible repeat (first | refine zq6 ?_ _ | refine zq8 ?_ | refine zq7 ?_ _)); refine blk_put (cs := #[.int .i64 a0_0, .slice (some ⟨go25, 0, none⟩) l0_1.length co28, .slice none 0 0, .slice none 0 0, .slice none 0 0]) ?_ 2 _ rfl; (with_reducible repeat (first | refine zq6 ?_ _ | refine zq8 ?_ | refine zq7 ?_ _)); refine blk_put (cs := #[.int .i64 a0_0, .slice none 0 0, .slice none 0 0, .slice none 0 0, .slice none 0 0]) ?_ 1 _ rfl; (with_reducible repeat (first | refine zq6 ?_ _ | refine zq8 ?_ | refine zq7 ?_ _)); refine blk_put (cs := #[.int .i64 0, .slice none 0 0, .slice none 0 0, .slice none 0 0, .slice none 0 0]) ?_ 0 _ rfl; (with_reducible repeat (first | refine zq6 ?_ _ | refine zq8 ?_ | refine zq7 ?_ _)); exact BK484.out) Try.underlying28 rfl (by kernel_rfl)) rfl ?_
     exact ⟨_, _, _, _, by first | rfl | (simp [errW_none, errW_some] <;> rfl) | (simp [*, errW_none, errW_some] <;> rfl), by (with_reducible repeat (first | apply Kd.R_alloc | apply Kd.R_drewN | apply Kd.R_drew)); exact Kd.R_mono (Kd.R_far (p := ⟨gb484, 4, none⟩) (Kd.R_far (p := ⟨gb484, 3, none⟩) (Kd.R_far (p := ⟨gb484, 2, none⟩) (Kd.R_far (p := ⟨gb484, 1, none⟩) (Kd.R_far (p := ⟨gb484, 0, none⟩) (Kd.R_types HO0_1.out BK484.out (by decide)) (fun _ hk => hk.2) (.int .i64 a0_0)) (fun _ hk => hk.2) (.slice (some ⟨go25, 0, none⟩) l0_1.length co28)) (fun _ hk => hk.2) (.slice Ao29 l0_2.length co29)) (fun _ hk => hk.2) (.slice (some ⟨go27, 0, none⟩) l0_3.length co30)) (fun _ hk => hk.2) (.slice Ao31 l0_4.length co31)) (fun _ hk => ⟨hk.1.1, hk.1.2⟩), by (with_reducible repeat (first | apply Kd.R_alloc | apply Kd.R_drewN | apply Kd.R_drew)); exact Kd.R_mono (Kd.R_far (p := ⟨gb484, 4, none⟩) (Kd.R_far (p := ⟨gb484, 3, none⟩) (Kd.R_far (p := ⟨gb484, 2, none⟩) (Kd.R_far (p := ⟨gb484, 1, none⟩) (Kd.R_far (p := ⟨gb484, 0, none⟩) (Kd.R_types HO0_2.out BK484.out (by decide)) (fun _ hk => hk.2) (.int .i64 a0_0)) (fun _ hk => hk.2) (.slice (some ⟨go25, 0, none⟩) l0_1.length co28)) (fun _ hk => hk.2) (.slice Ao29 l0_2.length co29)) (fun _ hk => hk.2) (.slice (some ⟨go27, 0, none⟩) l0_3.length co30)) (fun _ hk => hk.2) (.slice Ao31 l0_4.length co31)) (fun _ hk => ⟨hk.1.1, hk.1.2⟩), by (with_reducible repeat (first | apply Kd.R_alloc | apply Kd.R_drewN | apply Kd.R_drew)); exact Kd.R_mono (Kd.R_far (p := ⟨gb484, 4, none⟩) (Kd.R_far (p := ⟨gb484, 3, none⟩) (Kd.R_far (p := ⟨gb484, 2, none⟩) (Kd.R_far (p := ⟨gb484, 1, none⟩) (Kd.R_far (p := ⟨gb484, 0, none⟩) (Kd.R_types HO0_3.out BK484.out (by decide)) (fun _ hk => hk.2) (.int .i64 a0_0)) (fun _ hk => hk.2) (.slice (some ⟨go25, 0, none⟩) l0_1.length co28)) (fun _ hk => hk.2) (.slice Ao29 l0_2.length co29)) (fun _ hk => hk.2) (.slice (some ⟨go27, 0, none⟩) l0_3.length co30)) (fun _ hk => hk.2) (.slice Ao31 l0_4.length co31)) (fun _ hk => hk.1), by (with_reducible repeat (first | apply Kd.R_alloc | apply Kd.R_drewN | apply Kd.R_drew)); exact Kd.R_mono (Kd.R_far (p := ⟨gb484, 4, none⟩) (Kd.R_far (p := ⟨gb484, 3, none⟩) (Kd.R_far (p := ⟨gb484, 2, none⟩) (Kd.R_far (p := ⟨gb484, 1, none⟩) (Kd.R_far (p := ⟨gb484, 0, none⟩) (Kd.R_types HO0_4.out BK484.out (by decide)) (fun _ hk => hk.2) (.int .i64 a0_0)) (fun _ hk => hk.2) (.slice (some ⟨go25, 0, none⟩) l0_1.length co28)) (fun _ hk => hk.2) (.slice Ao29 l0_2.length co29)) (fun _ hk => hk.2) (.slice (some ⟨go27, 0, none⟩) l0_3.length co30)) (fun _ hk => hk.2) (.slice Ao31 l0_4.length co31)) (fun _ hk => hk.1.1), by repeat (first | (with_reducible first | exact HB.out | apply zq2 | apply zq1 | apply zqd | refine zq3 ?_ GE482.out | refine zq3 ?_ GE483.out | refine zq3 ?_ GE484.out) | exact HB.out), by repeat (first | (with_reducible first | exact HK.out | apply Kept.alloc | apply Kept.drewN | apply Kept.drew | refine Kept.setCell ?_ (.inr GW482.out) _ | refine Kept.setCell ?_ (.inr GW483.out) _ | refine Kept.setCell ?_ (.inr GW484.out) _) | exact HK.out)⟩
    ·rw [if_neg c26] at H
     exact absurd H (by simp)
   ·rw [if_neg c24] at H
    exact absurd H (by simp)
  ·rw [if_neg c23] at H
   exact absurd H (by simp)
end Go.Proofs.Ytkgpnloghmbmlaa.Print
namespace Go.Proofs.Ytkgpnloghmbmlaa.Print
open Go.RowKit Go.Proofs.YtkgpnloghmbmlaaW.PrintWords Go.Proofs.YtkgpnloghmbmlaaW.PrintLast Go.Proofs.YtkgpnloghmbmlaaW.PrintMore
attribute [local go_sem] max2_int min2_int max_two min_two max_three min_three max_four min_four   -- for this text's walks alone
set_option linter.unusedVariables false
set_option linter.unusedSimpArgs false
def spec_l3Flush.l0 : Nat → Int → Int → List ByteArray → List ByteArray → List Bool → List (S54) → Option (Int × List ByteArray × List ByteArray × List Bool × (List (S54)))
 | 0, _, _, _, _, _, _ => none
 | k + 1, x3, x489000, x489001, x489002, x489003, x489004 => if x3 < (x489004.length : Int) then (if 0 ≤ x3 then ((spec_l3Come.f x489000 x489001 x489002 x489003 x489004 ((rd_T54 x489004 x3).f0) ((rd_T54 x489004 x3).f1) ((rd_T54 x489004 x3).f2)).bind fun bt491 => (spec_l3Flush.l0 k (wrap64 (x3 + 1)) bt491.1 bt491.2.1 bt491.2.2.1 bt491.2.2.2.1 bt491.2.2.2.2)) else (none)) else (some (x489000, x489001, x489002, x489003, (([] : List (S54)))))
def spec_l3Flush.f (k : Nat) (a0_0 : Int) (l0_1 : List ByteArray) (l0_2 : List ByteArray) (l0_3 : List Bool) (l0_4 : List (S54)) : Option (Int × List ByteArray × List ByteArray × List Bool × (List (S54))) := spec_l3Flush.l0 k 0 a0_0 l0_1 l0_2 l0_3 l0_4
def spec_l3Flush.T4 : Bool × List (List Nat × List Nat) := (true, [([], []), ([], []), ([1], [1]), ([], []), ([2, 3], [2, 3]), ([4], [4]), ([0, 5], [0, 5]), ([6, 6, 0, 1, 2, 3, 4, 5, 6], [6])])
def spec_l3Flush.B4 : List Nat := [0, 0, 2, 0, 14, 30, 63, 127]
theorem spec_l3Flush.tab4 : rtab .any (opsOf Try.f79 4) = spec_l3Flush.T4 := by kernel_rfl
theorem spec_l3Flush.bits4 : waitsOk spec_l3Flush.T4.2 spec_l3Flush.B4 = true := by kernel_rfl
set_option maxHeartbeats 8000000 in
set_option maxRecDepth 100000 in
theorem spec_l3Flush.calls (k : Nat) (a0_0 : Int) (P0_1_ : Nat → Prop) (u9000_ : Value) (l0_1 : List ByteArray) (P0_2_ : Nat → Prop) (u9001_ : Value) (l0_2 : List ByteArray) (P0_3_ : Nat → Prop) (u9002_ : Value) (l0_3 : List Bool) (P0_4_ : Nat → Prop) (u9003_ : Value) (l0_4 : List (S54)) (r1 : Int) (r2 : List ByteArray) (r3 : List ByteArray) (r4 : List Bool) (r5 : List (S54)) (w0 w : World) (hB : Below w0.heap.size w0 w) (ho0_1 : Kd.R Kd.string 9 w w0.heap.size P0_1_ u9000_ l0_1) (hp0_1_0_2 : ∀ k_, P0_1_ k_ → ¬ P0_2_ k_) (ho0_2 : Kd.R Kd.string 9 w w0.heap.size P0_2_ u9001_ l0_2) (hp0_2_0_1 : ∀ k_, P0_2_ k_ → ¬ P0_1_ k_) (ho0_3 : Kd.R Kd.bool 4 w w0.heap.size P0_3_ u9002_ l0_3) (ho0_4 : Kd.R k54 54 w w0.heap.size P0_4_ u9003_ l0_4) (h : spec_l3Flush.f k a0_0 l0_1 l0_2 l0_3 l0_4 = some (r1, r2, r3, r4, r5)) :
  Calls Try.prog 79 #[.agg #[.int .i64 a0_0, u9000_, u9001_, u9002_, u9003_]] w fun e w' => ∃ v1_ v2_ v3_ v4_ : Value, e = .returned (.agg #[.int .i64 r1, v1_, v2_, v3_, v4_]) ∧ Kd.R Kd.string 9 w' w0.heap.size (fun k_ => ((P0_1_ k_ ∨ P0_2_ k_ ∨ P0_3_ k_ ∨ P0_4_ k_) ∨ w.heap.size ≤ k_) ∧ some k_ ≠ (v2_ : Value).ownBlock) v1_ r2 ∧ Kd.R Kd.string 9 w' w0.heap.size (fun k_ => ((P0_1_ k_ ∨ P0_2_ k_ ∨ P0_3_ k_ ∨ P0_4_ k_) ∨ w.heap.size ≤ k_) ∧ some k_ ≠ (v1_ : Value).ownBlock) v2_ r3 ∧ Kd.R Kd.bool 4 w' w0.heap.size (fun k_ => ((P0_1_ k_ ∨ P0_2_ k_ ∨ P0_3_ k_ ∨ P0_4_ k_) ∨ w.heap.size ≤ k_)) v3_ r4 ∧ Kd.R k54 54 w' w0.heap.size (fun k_ => ((P0_1_ k_ ∨ P0_2_ k_ ∨ P0_3_ k_ ∨ P0_4_ k_) ∨ w.heap.size ≤ k_)) v4_ r5 ∧ Below w0.heap.size w0 w' ∧ Kept w w' (fun k_ => P0_1_ k_ ∨ P0_2_ k_ ∨ P0_3_ k_ ∨ P0_4_ k_) := by
 have hu28 := Try.underlying28
 have hu54 := Try.underlying54
 have HO0_1 := Az.mk (show Kd.R Kd.string 9 w w0.heap.size (fun k_ => ((P0_1_ k_ ∨ P0_2_ k_ ∨ P0_3_ k_ ∨ P0_4_ k_) ∨ w.heap.size ≤ k_) ∧ some k_ ≠ (u9001_ : Value).ownBlock) u9000_ l0_1 from Kd.R_mono ho0_1 (fun k_ hk => ⟨(.inl (.inl hk)), fun e_ => hp0_1_0_2 k_ hk (ho0_2.1 k_ e_.symm)⟩))
 have HO0_2 := Az.mk (show Kd.R Kd.string 9 w w0.heap.size (fun k_ => ((P0_1_ k_ ∨ P0_2_ k_ ∨ P0_3_ k_ ∨ P0_4_ k_) ∨ w.heap.size ≤ k_) ∧ some k_ ≠ (u9000_ : Value).ownBlock) u9001_ l0_2 from Kd.R_mono ho0_2 (fun k_ hk => ⟨(.inl (.inr (.inl hk))), fun e_ => hp0_2_0_1 k_ hk (ho0_1.1 k_ e_.symm)⟩))
 have HO0_3 := Az.mk (show Kd.R Kd.bool 4 w w0.heap.size (fun k_ => ((P0_1_ k_ ∨ P0_2_ k_ ∨ P0_3_ k_ ∨ P0_4_ k_) ∨ w.heap.size ≤ k_)) u9002_ l0_3 from Kd.R_mono ho0_3 (fun k_ hk => (.inl (.inr (.inr (.inl hk))))))
 have HO0_4 := Az.mk (show Kd.R k54 54 w w0.heap.size (fun k_ => ((P0_1_ k_ ∨ P0_2_ k_ ∨ P0_3_ k_ ∨ P0_4_ k_) ∨ w.heap.size ≤ k_)) u9003_ l0_4 from Kd.R_mono ho0_4 (fun k_ hk => (.inl (.inr (.inr (.inr hk))))))
 have HK := Az.mk (Kept.refl w (fun k_ => P0_1_ k_ ∨ P0_2_ k_ ∨ P0_3_ k_ ∨ P0_4_ k_))
 have HW0 := Az.mk hB.size
 have HB := Az.mk hB
 clear hB
 have H : (spec_l3Flush.l0 k 0 a0_0 l0_1 l0_2 l0_3 l0_4) = some (r1, r2, r3, r4, r5) := h
 clear h
 have H' := Az.mk H
 clear H
 obtain ⟨Ao2, co2, eo2⟩ := Kd.R_slice HO0_1.out
 subst eo2
 obtain ⟨Ao3, co3, eo3⟩ := Kd.R_slice HO0_2.out
 subst eo3
 obtain ⟨Ao4, co4, eo4⟩ := Kd.R_slice HO0_3.out
 subst eo4
 obtain ⟨Ao5, co5, eo5⟩ := Kd.R_slice HO0_4.out
 subst eo5
 go_enter Try.func79, Try.ntmps79
 go_wp2_with (first | ((with_reducible refine zqg (N := 1) rfl ?_); refine zqb ?hg (N := 1) ?hd (cs := #[.int .i64 a0_0, .slice Ao2 l0_1.length co2, .slice Ao3 l0_2.length co3, .slice Ao4 l0_3.length co4, .slice Ao5 l0_4.length co5]) (t := 28) ?hr ?_; (case hd => rfl); (case hg => rfl); (case hr => first | (go_simp; done) | (go_simp; rfl)); intro gb488 hg w6 hbox hb; have n0_ := Az.mk (Kd.R_below (by (with_reducible repeat (first | apply Kd.R_alloc | apply Kd.R_drewN | apply Kd.R_drew)); exact HO0_1.out) hb); have n1_ := Az.mk (Kd.R_below (by (with_reducible repeat (first | apply Kd.R_alloc | apply Kd.R_drewN | apply Kd.R_drew)); exact HO0_2.out) hb); have n2_ := Az.mk (Kd.R_below (by (with_reducible repeat (first | apply Kd.R_alloc | apply Kd.R_drewN | apply Kd.R_drew)); exact HO0_3.out) hb); have n3_ := Az.mk (Kd.R_below (by (with_reducible repeat (first | apply Kd.R_alloc | apply Kd.R_drewN | apply Kd.R_drew)); exact HO0_4.out) hb); have n4_ := Az.mk (Kept.below (S := (fun k_ => P0_1_ k_ ∨ P0_2_ k_ ∨ P0_3_ k_ ∨ P0_4_ k_)) (by repeat (first | (with_reducible first | exact HK.out | apply Kept.alloc | apply Kept.drewN | apply Kept.drew) | exact HK.out)) hb); have n5_ := Az.mk (below_step (by repeat (first | (with_reducible first | exact HB.out | apply zq2 | apply zq1 | apply zqd) | exact HB.out)) hb); have n6_ := Az.mk (hbox); have n7_ := Az.mk ((by rw [hg]; exact (by first | exact HK.out.1 | exact (show Kept w _ (fun k_ => P0_1_ k_ ∨ P0_2_ k_ ∨ P0_3_ k_ ∨ P0_4_ k_) from by repeat (first | (with_reducible first | exact HK.out | apply Kept.alloc | apply Kept.drewN | apply Kept.drew) | exact HK.out)).1) : w.heap.size ≤ gb488)); have n8_ := Az.mk ((by rw [hg]; exact (below_size (by repeat (first | (with_reducible first | exact HB.out | apply zq2 | apply zq1 | apply zqd) | exact HB.out))) : w0.heap.size ≤ gb488)); clear HO0_1; clear HO0_2; clear HO0_3; clear HO0_4; clear HK; clear HB; have HO0_1 := n0_; have HO0_2 := n1_; have HO0_3 := n2_; have HO0_4 := n3_; have HK := n4_; have HB := n5_; have BK488 := n6_; have GW488 := n7_; have GE488 := n8_; clear n0_ n1_ n2_ n3_ n4_ n5_ n6_ n7_ n8_; clear hb hbox hg) | ((with_reducible refine zqg (N := 2) rfl ?_); refine zqb ?hg (N := 2) ?hd (cs := #[.int .i64 0, .slice none 0 0, .slice none 0 0, .slice none 0 0, .slice none 0 0]) (t := 28) ?hr ?_; (case hd => rfl); (case hg => rfl); (case hr => first | (go_simp; done) | (go_simp; rfl)); intro gb489 hg w7 hbox hb; have n0_ := Az.mk (Kd.R_below (by (with_reducible repeat (first | apply Kd.R_alloc | apply Kd.R_drewN | apply Kd.R_drew)); exact HO0_1.out) hb); have n1_ := Az.mk (Kd.R_below (by (with_reducible repeat (first | apply Kd.R_alloc | apply Kd.R_drewN | apply Kd.R_drew)); exact HO0_2.out) hb); have n2_ := Az.mk (Kd.R_below (by (with_reducible repeat (first | apply Kd.R_alloc | apply Kd.R_drewN | apply Kd.R_drew)); exact HO0_3.out) hb); have n3_ := Az.mk (Kd.R_below (by (with_reducible repeat (first | apply Kd.R_alloc | apply Kd.R_drewN | apply Kd.R_drew)); exact HO0_4.out) hb); have n4_ := Az.mk (blk_below (g := gb488) (o := .cells #[.int .i64 a0_0, .slice Ao2 l0_1.length co2, .slice Ao3 l0_2.length co3, .slice Ao4 l0_3.length co4, .slice Ao5 l0_4.length co5] 28 (0, 0)) (by (with_reducible repeat (first | refine zq6 ?_ _ | refine zq8 ?_ | refine zq7 ?_ _)); exact BK488.out) hb); have n5_ := Az.mk (Kept.below (S := (fun k_ => P0_1_ k_ ∨ P0_2_ k_ ∨ P0_3_ k_ ∨ P0_4_ k_)) (by repeat (first | (with_reducible first | exact HK.out | apply Kept.alloc | apply Kept.drewN | apply Kept.drew | refine Kept.setCell ?_ (.inr GW488.out) _) | exact HK.out)) hb); have n6_ := Az.mk (below_step (by repeat (first | (with_reducible first | exact HB.out | apply zq2 | apply zq1 | apply zqd | refine zq3 ?_ GE488.out) | exact HB.out)) hb); have n7_ := Az.mk (hbox); have n8_ := Az.mk ((by rw [hg]; exact (by first | exact HK.out.1 | exact (show Kept w _ (fun k_ => P0_1_ k_ ∨ P0_2_ k_ ∨ P0_3_ k_ ∨ P0_4_ k_) from by repeat (first | (with_reducible first | exact HK.out | apply Kept.alloc | apply Kept.drewN | apply Kept.drew | refine Kept.setCell ?_ (.inr GW488.out) _) | exact HK.out)).1) : w.heap.size ≤ gb489)); have n9_ := Az.mk ((by rw [hg]; exact (below_size (by repeat (first | (with_reducible first | exact HB.out | apply zq2 | apply zq1 | apply zqd | refine zq3 ?_ GE488.out) | exact HB.out))) : w0.heap.size ≤ gb489)); have n10_ := Az.mk ((by rw [hg]; exact Nat.ne_of_lt (blk_lt (g := gb488) (o := .cells #[.int .i64 a0_0, .slice Ao2 l0_1.length co2, .slice Ao3 l0_2.length co3, .slice Ao4 l0_3.length co4, .slice Ao5 l0_4.length co5] 28 (0, 0)) (by (with_reducible repeat (first | refine zq6 ?_ _ | refine zq8 ?_ | refine zq7 ?_ _)); exact BK488.out)) : gb488 ≠ gb489)); have n11_ := Az.mk ((by rw [hg]; exact Nat.ne_of_gt (blk_lt (g := gb488) (o := .cells #[.int .i64 a0_0, .slice Ao2 l0_1.length co2, .slice Ao3 l0_2.length co3, .slice Ao4 l0_3.length co4, .slice Ao5 l0_4.length co5] 28 (0, 0)) (by (with_reducible repeat (first | refine zq6 ?_ _ | refine zq8 ?_ | refine zq7 ?_ _)); exact BK488.out)) : gb489 ≠ gb488)); clear HO0_1; clear HO0_2; clear HO0_3; clear HO0_4; clear BK488; clear HK; clear HB; have HO0_1 := n0_; have HO0_2 := n1_; have HO0_3 := n2_; have HO0_4 := n3_; have BK488 := n4_; have HK := n5_; have HB := n6_; have BK489 := n7_; have GW489 := n8_; have GE489 := n9_; have NB488_489 := n10_; have NB489_488 := n11_; clear n0_ n1_ n2_ n3_ n4_ n5_ n6_ n7_ n8_ n9_ n10_ n11_; clear hb hbox hg))
 go_loopg [3] k (fun kq v3 w' => ∃ (x3_1 : Int) (x489000_1 : Int) (x489001_1 : List ByteArray) (x489002_1 : List ByteArray) (x489003_1 : List Bool) (x489004_1 : List (S54)) (u489001 : Value) (u489002 : Value) (u489003 : Value) (u489004 : Value), v3 = .int .i64 x3_1 ∧ Az (spec_l3Flush.l0 kq x3_1 x489000_1 x489001_1 x489002_1 x489003_1 x489004_1 = some (r1, r2, r3, r4, r5)) ∧ Az (kq ≤ k) ∧ Az (Kd.R Kd.string 9 w' w0.heap.size (fun k_ => ((P0_1_ k_ ∨ P0_2_ k_ ∨ P0_3_ k_ ∨ P0_4_ k_) ∨ w.heap.size ≤ k_) ∧ some k_ ≠ (u489002 : Value).ownBlock) u489001 x489001_1) ∧ Az (Kd.R Kd.string 9 w' w0.heap.size (fun k_ => ((P0_1_ k_ ∨ P0_2_ k_ ∨ P0_3_ k_ ∨ P0_4_ k_) ∨ w.heap.size ≤ k_) ∧ some k_ ≠ (u489001 : Value).ownBlock) u489002 x489002_1) ∧ Az (Kd.R Kd.bool 4 w' w0.heap.size (fun k_ => ((P0_1_ k_ ∨ P0_2_ k_ ∨ P0_3_ k_ ∨ P0_4_ k_) ∨ w.heap.size ≤ k_)) u489003 x489003_1) ∧ Az (Kd.R k54 54 w' w0.heap.size (fun k_ => ((P0_1_ k_ ∨ P0_2_ k_ ∨ P0_3_ k_ ∨ P0_4_ k_) ∨ w.heap.size ≤ k_)) u489004 x489004_1) ∧ Az (w'.heap[gb488]? = some (.cells #[.int .i64 x489000_1, u489001, u489002, u489003, u489004] 28 (0, 0))) ∧ Az (w'.heap[gb489]? = some (.cells #[.int .i64 0, (.slice none 0 0), (.slice none 0 0), (.slice none 0 0), (.slice none 0 0)] 28 (0, 0))) ∧ Az (Kept w w' (fun k_ => P0_1_ k_ ∨ P0_2_ k_ ∨ P0_3_ k_ ∨ P0_4_ k_)) ∧ Az (Below w0.heap.size w0 w'))
 case atStart => exact ⟨(0), (a0_0), (l0_1), (l0_2), (l0_3), (l0_4), (.slice Ao2 l0_1.length co2), (.slice Ao3 l0_2.length co3), (.slice Ao4 l0_3.length co4), (.slice Ao5 l0_4.length co5), (by first | rfl | (simp; done) | (simp [*]; done)), H', ⟨Nat.le_refl _⟩, ⟨by (with_reducible repeat (first | apply Kd.R_alloc | apply Kd.R_drewN | apply Kd.R_drew)); exact HO0_1.out⟩, ⟨by (with_reducible repeat (first | apply Kd.R_alloc | apply Kd.R_drewN | apply Kd.R_drew)); exact HO0_2.out⟩, ⟨by (with_reducible repeat (first | apply Kd.R_alloc | apply Kd.R_drewN | apply Kd.R_drew)); exact HO0_3.out⟩, ⟨by (with_reducible repeat (first | apply Kd.R_alloc | apply Kd.R_drewN | apply Kd.R_drew)); exact HO0_4.out⟩, ⟨by (with_reducible repeat (first | refine zq6 ?_ _ | refine zq8 ?_ | refine zq7 ?_ _)); exact BK488.out⟩, ⟨by (with_reducible repeat (first | refine zq6 ?_ _ | refine zq8 ?_ | refine zq7 ?_ _)); exact BK489.out⟩, ⟨by repeat (first | (with_reducible first | exact HK.out | apply Kept.alloc | apply Kept.drewN | apply Kept.drew | refine Kept.setCell ?_ (.inr GW488.out) _ | refine Kept.setCell ?_ (.inr GW489.out) _) | exact HK.out)⟩, ⟨by repeat (first | (with_reducible first | exact HB.out | apply zq2 | apply zq1 | apply zqd | refine zq3 ?_ GE488.out | refine zq3 ?_ GE489.out) | exact HB.out)⟩⟩
 case round =>
  clear H'
  try clear p2
  try clear c7
  obtain ⟨x3_1, x489000_1, x489001_1, x489002_1, x489003_1, x489004_1, u489001, u489002, u489003, u489004, rfl, HA, HK1, HO_489001, HO_489002, HO_489003, HO_489004, BK488, BK489, HK, HB⟩ := hrel
  cases gk with
  | zero => exact absurd HA.out (by simp [spec_l3Flush.l0])
  | succ k1 =>
   have H := HA.out
   clear HA
   simp only [spec_l3Flush.l0] at H
   by_cases c8 : x3_1 < (x489004_1.length : Int)
   ·rw [if_pos c8] at H
    have c8b0 : decide (x3_1 < (x489004_1.length : Int)) = true := decide_eq_true c8
    clear c8
    by_cases c9 : 0 ≤ x3_1
    ·rw [if_pos c9] at H
     have c9b0 : decide (0 ≤ x3_1) = true := decide_eq_true c9
     clear c9
     replace H := Option.bind_eq_some_iff.mp H
     obtain ⟨⟨t491, t492, t495, t498, t501⟩, A100, H⟩ := H
     replace H : (spec_l3Flush.l0 k1 (wrap64 (x3_1 + 1)) t491 t492 t495 t498 t501) = some (r1, r2, r3, r4, r5) := H
     have A10 := Az.mk A100
     clear A100
     have H' := Az.mk H
     clear H
     have hnb11 := NB488_489.out
     have hnc11 := NB489_488.out
     have hcz12_0 : wr.cell? ⟨gb488, 0, none⟩ = some (.int .i64 x489000_1) := (zq4 BK488.out 0).trans rfl
     have hcz12_1 : wr.cell? ⟨gb488, 1, none⟩ = some (u489001) := (zq4 BK488.out 1).trans rfl
     have hcz12_2 : wr.cell? ⟨gb488, 2, none⟩ = some (u489002) := (zq4 BK488.out 2).trans rfl
     have hcz12_3 : wr.cell? ⟨gb488, 3, none⟩ = some (u489003) := (zq4 BK488.out 3).trans rfl
     have hcz12_4 : wr.cell? ⟨gb488, 4, none⟩ = some (u489004) := (zq4 BK488.out 4).trans rfl
     have hfz12_0 := zq5 BK488.out 0
     have hfz12_1 := zq5 BK488.out 1
     have hfz12_2 := zq5 BK488.out 2
     have hfz12_3 := zq5 BK488.out 3
     have hfz12_4 := zq5 BK488.out 4
     obtain ⟨Ao13, co13, eo13⟩ := Kd.R_slice HO_489004.out
     subst eo13
     try go_wp2
     have n0_ := Az.mk (Kd.R_drew HO_489001.out)
     have n1_ := Az.mk (Kd.R_drew HO_489002.out)
     have n2_ := Az.mk (Kd.R_drew HO_489003.out)
     have n3_ := Az.mk (Kd.R_drew HO_489004.out)
     have n4_ := Az.mk (zq8 BK488.out)
     have n5_ := Az.mk (zq8 BK489.out)
     have n6_ := Az.mk (Kept.drew HK.out)
     have n7_ := Az.mk (zqd HB.out)
     clear HO_489001
     clear HO_489002
     clear HO_489003
     clear HO_489004
     clear BK488
     clear BK489
     clear HK
     clear HB
     have HO_489001 := n0_
     have HO_489002 := n1_
     have HO_489003 := n2_
     have HO_489004 := n3_
     have BK488 := n4_
     have BK489 := n5_
     have HK := n6_
     have HB := n7_
     clear n0_ n1_ n2_ n3_ n4_ n5_ n6_ n7_
     have p490 : 0 ≤ (x3_1 : Int) := of_decide_eq_true (by first | (with_reducible assumption) | assumption)
     have q490 : x3_1 < (x489004_1.length : Int) := of_decide_eq_true (by first | (with_reducible assumption) | assumption)
     obtain ⟨ad490, e490, hx490_0, hx490_1, hx490_2⟩ := at_T54 (Kd.R_reads' HO_489004.out).2.2 x3_1 p490 q490
     cases e490
     replace p490 := eq_true p490
     replace q490 := eq_true q490
     obtain ⟨Ao15, co15, eo15⟩ := Kd.R_slice HO_489001.out
     (first | subst eo15 | (injection eo15 with f1_ f2_ f3_; have f4_ := f1_.symm; have f5_ := f3_.symm; clear f1_ f2_ f3_; subst f4_; subst f5_))
     obtain ⟨Ao16, co16, eo16⟩ := Kd.R_slice HO_489002.out
     (first | subst eo16 | (injection eo16 with f1_ f2_ f3_; have f4_ := f1_.symm; have f5_ := f3_.symm; clear f1_ f2_ f3_; subst f4_; subst f5_))
     obtain ⟨Ao17, co17, eo17⟩ := Kd.R_slice HO_489003.out
     (first | subst eo17 | (injection eo17 with f1_ f2_ f3_; have f4_ := f1_.symm; have f5_ := f3_.symm; clear f1_ f2_ f3_; subst f4_; subst f5_))
     refine start_ (n := 8) (S := fun w' => w'.cell? ⟨gb488, 0, none⟩ = some (.int .i64 x489000_1) ∧ w'.cell? ⟨gb488, 1, none⟩ = some (.slice Ao15 x489001_1.length co15) ∧ w'.cell? ⟨gb488, 2, none⟩ = some (.slice Ao16 x489002_1.length co16) ∧ w'.cell? ⟨gb488, 3, none⟩ = some (.slice Ao17 x489003_1.length co17) ∧ w'.cell? ⟨gb488, 4, none⟩ = some (.slice (some ad490) x489004_1.length co13) ∧ w'.cell? (ad490.add ((x3_1).toNat * 3)) = some (.bool ((rd_T54 x489004_1 x3_1).f0)) ∧ w'.cell? ⟨(ad490.add ((x3_1).toNat * 3)).block, (ad490.add ((x3_1).toNat * 3)).off + 1, none⟩ = some (.int .i64 ((rd_T54 x489004_1 x3_1).f1)) ∧ w'.cell? ⟨(ad490.add ((x3_1).toNat * 3)).block, (ad490.add ((x3_1).toNat * 3)).off + 2, none⟩ = some (.string ((rd_T54 x489004_1 x3_1).f2))) (ds := [6, 7]) #[false, false, false, false, false, false, false, false] (by kernel_rfl) rfl rfl ⟨(zq4 BK488.out 0).trans rfl, (zq4 BK488.out 1).trans rfl, (zq4 BK488.out 2).trans rfl, (zq4 BK488.out 3).trans rfl, (zq4 BK488.out 4).trans rfl, hx490_0, hx490_1, hx490_2⟩ (fun hHeld => ?_); refine with_tabW spec_l3Flush.tab4 spec_l3Flush.bits4 (fun HT_ HW_ => ?_)
     generalize wr.drew = w14 at HO_489001 HO_489002 HO_489003 HO_489004 BK488 BK489 HK HB hx490_0 hx490_1 hx490_2 hHeld ⊢
     refine zqp (i := 1) (N := some 12) (v := ?_) (a' := ?_) #[false, true, false, false, false, false, false, false] rfl rfl (any_of HT_.out (by kernel_rfl)) (fun _ _ _ h => h) (Or.inl ⟨by rfl, ?_⟩) ?_ ?_
     rotate_left
     ·intro w'
      go_simp
      with_reducible rfl
     rotate_left
     ·simp only [Act.put, List.setIfInBounds_toArray, List.set_cons_zero, List.set_cons_succ, i64_w, i32_w]
      rfl
     refine zqp (i := 3) (N := some 14) (v := ?_) (a' := ?_) #[false, true, false, true, false, false, false, false] rfl rfl (any_of HT_.out (by kernel_rfl)) (fun _ _ _ h => h) (Or.inl ⟨by rfl, ?_⟩) ?_ ?_
     rotate_left
     ·intro w'
      go_simp
      with_reducible rfl
     rotate_left
     ·simp only [Act.put, List.setIfInBounds_toArray, List.set_cons_zero, List.set_cons_succ, i64_w, i32_w]
      rfl
     refine zqt (i := 0) (N := some 11) (v := ?_) (a' := ?_) #[true, true, false, true, false, false, false, false] rfl rfl (take_ofW HT_.out HW_.out (by kernel_rfl)) (fun _ _ _ h => h) (Or.inl ⟨by rfl, ?_⟩) hHeld ?_ ?_
     rotate_left
     ·rintro w' ⟨s0, s1, s2, s3, s4, s5, s6, s7⟩
      go_simp
      with_reducible rfl
     rotate_left
     ·simp only [Act.put, List.setIfInBounds_toArray, List.set_cons_zero, List.set_cons_succ, i64_w, i32_w]
      rfl
     refine zqt (i := 2) (N := some 13) (v := ?_) (a' := ?_) #[true, true, true, true, false, false, false, false] rfl rfl (take_ofW HT_.out HW_.out (by kernel_rfl)) (fun _ _ _ h => h) (Or.inl ⟨by rfl, ?_⟩) hHeld ?_ ?_
     rotate_left
     ·rintro w' ⟨s0, s1, s2, s3, s4, s5, s6, s7⟩
      go_simp
      with_reducible rfl
     rotate_left
     ·simp only [Act.put, List.setIfInBounds_toArray, List.set_cons_zero, List.set_cons_succ, i64_w, i32_w]
      rfl
     refine zqp (i := 4) (N := some 15) (v := ?_) (a' := ?_) #[true, true, true, true, true, false, false, false] rfl rfl (any_of HT_.out (by kernel_rfl)) (fun _ _ _ h => h) (Or.inl ⟨by rfl, ?_⟩) ?_ ?_
     rotate_left
     ·intro w'
      go_simp
      with_reducible rfl
     rotate_left
     ·simp only [Act.put, List.setIfInBounds_toArray, List.set_cons_zero, List.set_cons_succ, i64_w, i32_w]
      rfl
     refine zqt (i := 5) (N := some 16) (v := ?_) (a' := ?_) #[true, true, true, true, true, true, false, false] rfl rfl (take_ofW HT_.out HW_.out (by kernel_rfl)) (fun _ _ _ h => h) (Or.inl ⟨by rfl, ?_⟩) hHeld ?_ ?_
     rotate_left
     ·rintro w' ⟨s0, s1, s2, s3, s4, s5, s6, s7⟩
      go_simp
      with_reducible rfl
     rotate_left
     ·simp only [Act.put, List.setIfInBounds_toArray, List.set_cons_zero, List.set_cons_succ, i64_w, i32_w]
      rfl
     refine last_ (i := 6) (N := some 17) #[true, true, true, true, true, true, true, false] rfl rfl (one_of HT_.out (by kernel_rfl)) (by decide) (fun K hK => ?_)
     refine goes_ Try.func101 (by kernel_rfl) rfl #[.agg #[.int .i64 x489000_1, .slice Ao15 x489001_1.length co15, .slice Ao16 x489002_1.length co16, .slice Ao17 x489003_1.length co17, .slice (some ad490) x489004_1.length co13], .agg #[.bool ((rd_T54 x489004_1 x3_1).f0), .int .i64 ((rd_T54 x489004_1 x3_1).f1), .string ((rd_T54 x489004_1 x3_1).f2)]] (by rfl) rfl rfl (by (try simp only [List.map_toArray, List.map_cons, List.map_nil]); first | done | rfl | (simp only [List.length_drop, List.length_take]; rfl)) ?_
     with_reducible refine (spec_l3Come.calls x489000_1 (fun k_ => some k_ = (.slice Ao15 x489001_1.length co15 : Value).ownBlock) (.slice Ao15 x489001_1.length co15) x489001_1 (fun k_ => some k_ = (.slice Ao16 x489002_1.length co16 : Value).ownBlock) (.slice Ao16 x489002_1.length co16) x489002_1 (fun k_ => some k_ = (.slice Ao17 x489003_1.length co17 : Value).ownBlock) (.slice Ao17 x489003_1.length co17) x489003_1 (fun k_ => some k_ = (.slice (some ad490) x489004_1.length co13 : Value).ownBlock) (.slice (some ad490) x489004_1.length co13) x489004_1 ((rd_T54 x489004_1 x3_1).f0) ((rd_T54 x489004_1 x3_1).f1) ((rd_T54 x489004_1 x3_1).f2) t491 t492 t495 t498 t501 w0 _ ?side1 ?side2 ?side3 ?side4 ?side5 ?side6 ?side7 A10.out).mono ?_
     (case side1 => repeat (first | (with_reducible first | exact HB.out | apply zq2 | apply zq1 | apply zqd | refine zq3 ?_ GE488.out | refine zq3 ?_ GE489.out) | exact HB.out))
     (case side2 => exact Kd.R_tight rfl HO_489001.out)
     (case side3 => exact fun k_ e_ => (HO_489001.out.1 k_ e_.symm).2)
     (case side4 => exact Kd.R_tight rfl HO_489002.out)
     (case side5 => exact fun k_ e_ => (HO_489002.out.1 k_ e_.symm).2)
     (case side6 => exact Kd.R_tight rfl HO_489003.out)
     (case side7 => exact Kd.R_tight rfl HO_489004.out)
     rintro e w18 ⟨v493, v496, v499, v502, rfl, ho0, ho1, ho2, ho3, hb, hkp⟩
     refine ⟨_, rfl, ?_⟩
     have n0_ := Az.mk (blk_kept (by (with_reducible repeat (first | refine zq6 ?_ _ | refine zq8 ?_ | refine zq7 ?_ _)); exact BK488.out) hkp (fun hs_ => Or.elim hs_ (fun e_ => (fun e_ => (Kd.R_ne HO_489001.out BK488.out (by decide)) e_) e_) (fun e_ => Or.elim e_ (fun e_ => (fun e_ => (Kd.R_ne HO_489002.out BK488.out (by decide)) e_) e_) (fun e_ => Or.elim e_ (fun e_ => (fun e_ => (Kd.R_ne HO_489003.out BK488.out (by decide)) e_) e_) (fun e_ => (fun e_ => (Kd.R_ne HO_489004.out BK488.out (by decide)) e_) e_)))))
     have n1_ := Az.mk (blk_kept (by (with_reducible repeat (first | refine zq6 ?_ _ | refine zq8 ?_ | refine zq7 ?_ _)); exact BK489.out) hkp (fun hs_ => Or.elim hs_ (fun e_ => (fun e_ => (Kd.R_ne HO_489001.out BK489.out (by decide)) e_) e_) (fun e_ => Or.elim e_ (fun e_ => (fun e_ => (Kd.R_ne HO_489002.out BK489.out (by decide)) e_) e_) (fun e_ => Or.elim e_ (fun e_ => (fun e_ => (Kd.R_ne HO_489003.out BK489.out (by decide)) e_) e_) (fun e_ => (fun e_ => (Kd.R_ne HO_489004.out BK489.out (by decide)) e_) e_)))))
     have n2_ := Az.mk (Kd.R_mono (ok' := fun k_ => ((P0_1_ k_ ∨ P0_2_ k_ ∨ P0_3_ k_ ∨ P0_4_ k_) ∨ w.heap.size ≤ k_) ∧ some k_ ≠ (v496 : Value).ownBlock) ho0 (fun k_ hk_ => ⟨Or.elim hk_.1 (fun hs_ => Or.elim hs_ (fun hs_ => (HO_489001.out.1 k_ (hs_).symm).1) (fun hs_ => Or.elim hs_ (fun hs_ => (HO_489002.out.1 k_ (hs_).symm).1) (fun hs_ => Or.elim hs_ (fun hs_ => (HO_489003.out.1 k_ (hs_).symm)) (fun hs_ => (HO_489004.out.1 k_ (hs_).symm))))) (fun hn_ => (.inr (Nat.le_trans (by first | exact HK.out.1 | exact (show Kept w _ (fun k_ => P0_1_ k_ ∨ P0_2_ k_ ∨ P0_3_ k_ ∨ P0_4_ k_) from by repeat (first | (with_reducible first | exact HK.out | apply Kept.alloc | apply Kept.drewN | apply Kept.drew | refine Kept.setCell ?_ (.inr GW488.out) _ | refine Kept.setCell ?_ (.inr GW489.out) _) | exact HK.out)).1) hn_))), hk_.2⟩))
     have n3_ := Az.mk (Kd.R_mono (ok' := fun k_ => ((P0_1_ k_ ∨ P0_2_ k_ ∨ P0_3_ k_ ∨ P0_4_ k_) ∨ w.heap.size ≤ k_) ∧ some k_ ≠ (v493 : Value).ownBlock) ho1 (fun k_ hk_ => ⟨Or.elim hk_.1 (fun hs_ => Or.elim hs_ (fun hs_ => (HO_489001.out.1 k_ (hs_).symm).1) (fun hs_ => Or.elim hs_ (fun hs_ => (HO_489002.out.1 k_ (hs_).symm).1) (fun hs_ => Or.elim hs_ (fun hs_ => (HO_489003.out.1 k_ (hs_).symm)) (fun hs_ => (HO_489004.out.1 k_ (hs_).symm))))) (fun hn_ => (.inr (Nat.le_trans (by first | exact HK.out.1 | exact (show Kept w _ (fun k_ => P0_1_ k_ ∨ P0_2_ k_ ∨ P0_3_ k_ ∨ P0_4_ k_) from by repeat (first | (with_reducible first | exact HK.out | apply Kept.alloc | apply Kept.drewN | apply Kept.drew | refine Kept.setCell ?_ (.inr GW488.out) _ | refine Kept.setCell ?_ (.inr GW489.out) _) | exact HK.out)).1) hn_))), hk_.2⟩))
     have n4_ := Az.mk (Kd.R_mono (ok' := fun k_ => ((P0_1_ k_ ∨ P0_2_ k_ ∨ P0_3_ k_ ∨ P0_4_ k_) ∨ w.heap.size ≤ k_)) ho2 (fun k_ hk_ => Or.elim hk_ (fun hs_ => Or.elim hs_ (fun hs_ => (HO_489001.out.1 k_ (hs_).symm).1) (fun hs_ => Or.elim hs_ (fun hs_ => (HO_489002.out.1 k_ (hs_).symm).1) (fun hs_ => Or.elim hs_ (fun hs_ => (HO_489003.out.1 k_ (hs_).symm)) (fun hs_ => (HO_489004.out.1 k_ (hs_).symm))))) (fun hn_ => (.inr (Nat.le_trans (by first | exact HK.out.1 | exact (show Kept w _ (fun k_ => P0_1_ k_ ∨ P0_2_ k_ ∨ P0_3_ k_ ∨ P0_4_ k_) from by repeat (first | (with_reducible first | exact HK.out | apply Kept.alloc | apply Kept.drewN | apply Kept.drew | refine Kept.setCell ?_ (.inr GW488.out) _ | refine Kept.setCell ?_ (.inr GW489.out) _) | exact HK.out)).1) hn_)))))
     have n5_ := Az.mk (Kd.R_mono (ok' := fun k_ => ((P0_1_ k_ ∨ P0_2_ k_ ∨ P0_3_ k_ ∨ P0_4_ k_) ∨ w.heap.size ≤ k_)) ho3 (fun k_ hk_ => Or.elim hk_ (fun hs_ => Or.elim hs_ (fun hs_ => (HO_489001.out.1 k_ (hs_).symm).1) (fun hs_ => Or.elim hs_ (fun hs_ => (HO_489002.out.1 k_ (hs_).symm).1) (fun hs_ => Or.elim hs_ (fun hs_ => (HO_489003.out.1 k_ (hs_).symm)) (fun hs_ => (HO_489004.out.1 k_ (hs_).symm))))) (fun hn_ => (.inr (Nat.le_trans (by first | exact HK.out.1 | exact (show Kept w _ (fun k_ => P0_1_ k_ ∨ P0_2_ k_ ∨ P0_3_ k_ ∨ P0_4_ k_) from by repeat (first | (with_reducible first | exact HK.out | apply Kept.alloc | apply Kept.drewN | apply Kept.drew | refine Kept.setCell ?_ (.inr GW488.out) _ | refine Kept.setCell ?_ (.inr GW489.out) _) | exact HK.out)).1) hn_)))))
     have n6_ := Az.mk (Kept.then_ (S := (fun k_ => P0_1_ k_ ∨ P0_2_ k_ ∨ P0_3_ k_ ∨ P0_4_ k_)) (by repeat (first | (with_reducible first | exact HK.out | apply Kept.alloc | apply Kept.drewN | apply Kept.drew | refine Kept.setCell ?_ (.inr GW488.out) _ | refine Kept.setCell ?_ (.inr GW489.out) _) | exact HK.out)) hkp (fun k_ hs_ => Or.elim hs_ (fun e_ => (fun e_ => (HO_489001.out.1 k_ e_.symm).1) e_) (fun e_ => Or.elim e_ (fun e_ => (fun e_ => (HO_489002.out.1 k_ e_.symm).1) e_) (fun e_ => Or.elim e_ (fun e_ => (fun e_ => (HO_489003.out.1 k_ e_.symm)) e_) (fun e_ => (fun e_ => (HO_489004.out.1 k_ e_.symm)) e_)))))
     have n7_ := Az.mk (hb)
     clear BK488
     clear BK489
     clear HK
     clear HB
     clear HO_489001
     clear HO_489002
     clear HO_489003
     clear HO_489004
     have BK488 := n0_
     have BK489 := n1_
     have HO494 := n2_
     have HO497 := n3_
     have HO500 := n4_
     have HO503 := n5_
     have HK := n6_
     have HB := n7_
     clear n0_ n1_ n2_ n3_ n4_ n5_ n6_ n7_
     (try clear hb)
     (try clear hkp)
     (try clear ho0)
     (try clear ho1)
     (try clear ho2)
     (try clear ho3)
     obtain ⟨Ao20, co20, eo20⟩ := Kd.R_slice HO494.out
     (first | subst eo20 | (injection eo20 with f1_ f2_ f3_; have f4_ := f1_.symm; have f5_ := f3_.symm; clear f1_ f2_ f3_; subst f4_; subst f5_))
     obtain ⟨Ao22, co22, eo22⟩ := Kd.R_slice HO497.out
     (first | subst eo22 | (injection eo22 with f1_ f2_ f3_; have f4_ := f1_.symm; have f5_ := f3_.symm; clear f1_ f2_ f3_; subst f4_; subst f5_))
     obtain ⟨Ao24, co24, eo24⟩ := Kd.R_slice HO500.out
     (first | subst eo24 | (injection eo24 with f1_ f2_ f3_; have f4_ := f1_.symm; have f5_ := f3_.symm; clear f1_ f2_ f3_; subst f4_; subst f5_))
     obtain ⟨Ao26, co26, eo26⟩ := Kd.R_slice HO503.out
     (first | subst eo26 | (injection eo26 with f1_ f2_ f3_; have f4_ := f1_.symm; have f5_ := f3_.symm; clear f1_ f2_ f3_; subst f4_; subst f5_))
     refine hK.out _ _ ?_
     clear hK K
     refine norm_ (a' := ?_) ?_ ?_
     rotate_left
     ·show Act.put _ (some 17) _ = _
      simp only [Act.put, List.setIfInBounds_toArray, List.set_cons_zero, List.set_cons_succ, i64_w, i32_w]
      rfl
     refine last_ (i := 7) (N := none) #[true, true, true, true, true, true, true, true] rfl rfl (one_of HT_.out (by kernel_rfl)) (by decide) (fun K hK => ?_)
     have hs19 : w18.cell? ⟨gb488, 0, none⟩ = some (.int .i64 x489000_1) := (zq4 BK488.out 0).trans rfl
     have hfs19 := zq5 BK488.out 0
     have hns19_1 := NB489_488.out
     have hms19_1 := NB488_489.out
     have hs21 : w18.cell? ⟨gb488, 1, none⟩ = some (.slice Ao15 x489001_1.length co15) := (zq4 BK488.out 1).trans rfl
     have hfs21 := zq5 BK488.out 1
     have hns21_1 := NB489_488.out
     have hms21_1 := NB488_489.out
     have hs23 : w18.cell? ⟨gb488, 2, none⟩ = some (.slice Ao16 x489002_1.length co16) := (zq4 BK488.out 2).trans rfl
     have hfs23 := zq5 BK488.out 2
     have hns23_1 := NB489_488.out
     have hms23_1 := NB488_489.out
     have hs25 : w18.cell? ⟨gb488, 3, none⟩ = some (.slice Ao17 x489003_1.length co17) := (zq4 BK488.out 3).trans rfl
     have hfs25 := zq5 BK488.out 3
     have hns25_1 := NB489_488.out
     have hms25_1 := NB488_489.out
     have hs27 : w18.cell? ⟨gb488, 4, none⟩ = some (.slice (some ad490) x489004_1.length co13) := (zq4 BK488.out 4).trans rfl
     have hfs27 := zq5 BK488.out 4
     have hns27_1 := NB489_488.out
     have hms27_1 := NB488_489.out
     refine skip_ (w1 := ?_) (by rfl) rfl ?_ ?_
     rotate_left
     ·go_simp
      rfl
     refine hK.out _ _ ?_
     clear hK K
     refine done_ (done_of HT_.out (by kernel_rfl)) ?_
     try go_wp2
     go_roundg k1
     case measure => have := HK1.out; omega
     case rel => exact ⟨(wrap64 (x3_1 + 1)), (t491), (t492), (t495), (t498), (t501), (.slice Ao20 t492.length co20), (.slice Ao22 t495.length co22), (.slice Ao24 t498.length co24), (.slice Ao26 t501.length co26), (by first | rfl | (simp; done) | (simp [*]; done)), H', ⟨by have := HK1.out; omega⟩, ⟨by (with_reducible repeat (first | apply Kd.R_alloc | apply Kd.R_drewN | apply Kd.R_drew)); exact Kd.R_mono (Kd.R_far (p := ⟨gb488, 4, none⟩) (Kd.R_far (p := ⟨gb488, 3, none⟩) (Kd.R_far (p := ⟨gb488, 2, none⟩) (Kd.R_far (p := ⟨gb488, 1, none⟩) (Kd.R_far (p := ⟨gb488, 0, none⟩) (Kd.R_types HO494.out BK488.out (by decide)) (fun _ hk => hk.2) (.int .i64 t491)) (fun _ hk => hk.2) (.slice Ao20 t492.length co20)) (fun _ hk => hk.2) (.slice Ao22 t495.length co22)) (fun _ hk => hk.2) (.slice Ao24 t498.length co24)) (fun _ hk => hk.2) (.slice Ao26 t501.length co26)) (fun _ hk => ⟨hk.1.1, hk.1.2⟩)⟩, ⟨by (with_reducible repeat (first | apply Kd.R_alloc | apply Kd.R_drewN | apply Kd.R_drew)); exact Kd.R_mono (Kd.R_far (p := ⟨gb488, 4, none⟩) (Kd.R_far (p := ⟨gb488, 3, none⟩) (Kd.R_far (p := ⟨gb488, 2, none⟩) (Kd.R_far (p := ⟨gb488, 1, none⟩) (Kd.R_far (p := ⟨gb488, 0, none⟩) (Kd.R_types HO497.out BK488.out (by decide)) (fun _ hk => hk.2) (.int .i64 t491)) (fun _ hk => hk.2) (.slice Ao20 t492.length co20)) (fun _ hk => hk.2) (.slice Ao22 t495.length co22)) (fun _ hk => hk.2) (.slice Ao24 t498.length co24)) (fun _ hk => hk.2) (.slice Ao26 t501.length co26)) (fun _ hk => ⟨hk.1.1, hk.1.2⟩)⟩, ⟨by (with_reducible repeat (first | apply Kd.R_alloc | apply Kd.R_drewN | apply Kd.R_drew)); exact Kd.R_mono (Kd.R_far (p := ⟨gb488, 4, none⟩) (Kd.R_far (p := ⟨gb488, 3, none⟩) (Kd.R_far (p := ⟨gb488, 2, none⟩) (Kd.R_far (p := ⟨gb488, 1, none⟩) (Kd.R_far (p := ⟨gb488, 0, none⟩) (Kd.R_types HO500.out BK488.out (by decide)) (fun _ hk => hk.2) (.int .i64 t491)) (fun _ hk => hk.2) (.slice Ao20 t492.length co20)) (fun _ hk => hk.2) (.slice Ao22 t495.length co22)) (fun _ hk => hk.2) (.slice Ao24 t498.length co24)) (fun _ hk => hk.2) (.slice Ao26 t501.length co26)) (fun _ hk => hk.1)⟩, ⟨by (with_reducible repeat (first | apply Kd.R_alloc | apply Kd.R_drewN | apply Kd.R_drew)); exact Kd.R_mono (Kd.R_far (p := ⟨gb488, 4, none⟩) (Kd.R_far (p := ⟨gb488, 3, none⟩) (Kd.R_far (p := ⟨gb488, 2, none⟩) (Kd.R_far (p := ⟨gb488, 1, none⟩) (Kd.R_far (p := ⟨gb488, 0, none⟩) (Kd.R_types HO503.out BK488.out (by decide)) (fun _ hk => hk.2) (.int .i64 t491)) (fun _ hk => hk.2) (.slice Ao20 t492.length co20)) (fun _ hk => hk.2) (.slice Ao22 t495.length co22)) (fun _ hk => hk.2) (.slice Ao24 t498.length co24)) (fun _ hk => hk.2) (.slice Ao26 t501.length co26)) (fun _ hk => hk.1)⟩, ⟨by (with_reducible repeat (first | refine zq6 ?_ _ | refine zq8 ?_ | refine zq7 ?_ _)); refine blk_put (cs := #[.int .i64 t491, .slice Ao20 t492.length co20, .slice Ao22 t495.length co22, .slice Ao24 t498.length co24, .slice (some ad490) x489004_1.length co13]) ?_ 4 _ rfl; (with_reducible repeat (first | refine zq6 ?_ _ | refine zq8 ?_ | refine zq7 ?_ _)); refine blk_put (cs := #[.int .i64 t491, .slice Ao20 t492.length co20, .slice Ao22 t495.length co22, .slice Ao17 x489003_1.length co17, .slice (some ad490) x489004_1.length co13]) ?_ 3 _ rfl; (with_reducible repeat (first | refine zq6 ?_ _ | refine zq8 ?_ | refine zq7 ?_ _)); refine blk_put (cs := #[.int .i64 t491, .slice Ao20 t492.length co20, .slice Ao16 x489002_1.length co16, .slice Ao17 x489003_1.length co17, .slice (some ad490) x489004_1.length co13]) ?_ 2 _ rfl; (with_reducible repeat (first | refine zq6 ?_ _ | refine zq8 ?_ | refine zq7 ?_ _)); refine blk_put (cs := #[.int .i64 t491, .slice Ao15 x489001_1.length co15, .slice Ao16 x489002_1.length co16, .slice Ao17 x489003_1.length co17, .slice (some ad490) x489004_1.length co13]) ?_ 1 _ rfl; (with_reducible repeat (first | refine zq6 ?_ _ | refine zq8 ?_ | refine zq7 ?_ _)); refine blk_put (cs := #[.int .i64 x489000_1, .slice Ao15 x489001_1.length co15, .slice Ao16 x489002_1.length co16, .slice Ao17 x489003_1.length co17, .slice (some ad490) x489004_1.length co13]) ?_ 0 _ rfl; (with_reducible repeat (first | refine zq6 ?_ _ | refine zq8 ?_ | refine zq7 ?_ _)); exact BK488.out⟩, ⟨by (with_reducible repeat (first | refine zq6 ?_ _ | refine zq8 ?_ | refine zq7 ?_ _)); refine blk_far ?_ NB489_488.out _; (with_reducible repeat (first | refine zq6 ?_ _ | refine zq8 ?_ | refine zq7 ?_ _)); refine blk_far ?_ NB489_488.out _; (with_reducible repeat (first | refine zq6 ?_ _ | refine zq8 ?_ | refine zq7 ?_ _)); refine blk_far ?_ NB489_488.out _; (with_reducible repeat (first | refine zq6 ?_ _ | refine zq8 ?_ | refine zq7 ?_ _)); refine blk_far ?_ NB489_488.out _; (with_reducible repeat (first | refine zq6 ?_ _ | refine zq8 ?_ | refine zq7 ?_ _)); refine blk_far ?_ NB489_488.out _; (with_reducible repeat (first | refine zq6 ?_ _ | refine zq8 ?_ | refine zq7 ?_ _)); exact BK489.out⟩, ⟨by repeat (first | (with_reducible first | exact HK.out | apply Kept.alloc | apply Kept.drewN | apply Kept.drew | refine Kept.setCell ?_ (.inr GW488.out) _ | refine Kept.setCell ?_ (.inr GW489.out) _) | exact HK.out)⟩, ⟨by repeat (first | (with_reducible first | exact HB.out | apply zq2 | apply zq1 | apply zqd | refine zq3 ?_ GE488.out | refine zq3 ?_ GE489.out) | exact HB.out)⟩⟩
    ·rw [if_neg c9] at H
     exact absurd H (by simp)
   ·rw [if_neg c8] at H
    have c8b0 : decide (x3_1 < (x489004_1.length : Int)) = false := decide_eq_false c8
    clear c8
    obtain ⟨y504, hy504⟩ : ∃ y_ : List (S54), y_ = (([] : List (S54))) := ⟨_, rfl⟩
    replace H : (some (x489000_1, x489001_1, x489002_1, x489003_1, y504)) = some (r1, r2, r3, r4, r5) := by first | (rw [hy504]; with_reducible exact H) | (have H2_ := (Option.bind_some _ _).symm.trans H; rw [hy504]; with_reducible exact H2_) | (have H2_ := (Option.bind_some _ _).symm.trans H; with_reducible exact H2_) | with_reducible exact H | (rw [hy504]; exact H) | exact H
    have Ny504 := Az.mk hy504
    clear hy504
    simp only [Option.some.injEq, Prod.mk.injEq] at H
    obtain ⟨rfl, rfl, rfl, rfl, rfl⟩ := H
    have hnb28 := NB488_489.out
    have hnc28 := NB489_488.out
    have hcz29_0 : wr.cell? ⟨gb488, 0, none⟩ = some (.int .i64 x489000_1) := (zq4 BK488.out 0).trans rfl
    have hcz29_1 : wr.cell? ⟨gb488, 1, none⟩ = some (u489001) := (zq4 BK488.out 1).trans rfl
    have hcz29_2 : wr.cell? ⟨gb488, 2, none⟩ = some (u489002) := (zq4 BK488.out 2).trans rfl
    have hcz29_3 : wr.cell? ⟨gb488, 3, none⟩ = some (u489003) := (zq4 BK488.out 3).trans rfl
    have hcz29_4 : wr.cell? ⟨gb488, 4, none⟩ = some (u489004) := (zq4 BK488.out 4).trans rfl
    have hfz29_0 := zq5 BK488.out 0
    have hfz29_1 := zq5 BK488.out 1
    have hfz29_2 := zq5 BK488.out 2
    have hfz29_3 := zq5 BK488.out 3
    have hfz29_4 := zq5 BK488.out 4
    obtain ⟨Ao30, co30, eo30⟩ := Kd.R_slice HO_489004.out
    subst eo30
    go_wp2_with (first | ((with_reducible refine zqg (N := 18) rfl ?_); refine Kd.R_lit k54 _ 54 ?hg (N := 18) ?hd (xs := ([] : List (S54))) (inner := []) (ok := fun _ => True) (okp := fun _ => True) ?hr ?hp (fun _ hk => hk) trivial (Below.refl _ _) (Nat.le_refl _) (by simp) ?_; (case hd => rfl); (case hg => rfl); (case hr => first | (go_simp; done) | (go_simp; rfl)); (case hp => exact (Reps.none _ _)); intro v505 w31 ho32 hb hg_ hnew_; clear hg_ hnew_; (first | rw [← Ny504.out] at ho32 | (simp only [Int.reduceToNat] at ho32; rw [← Ny504.out] at ho32)); have n0_ := Az.mk (Kd.R_below (by (with_reducible repeat (first | apply Kd.R_alloc | apply Kd.R_drewN | apply Kd.R_drew)); exact HO_489001.out) hb); have n1_ := Az.mk (Kd.R_below (by (with_reducible repeat (first | apply Kd.R_alloc | apply Kd.R_drewN | apply Kd.R_drew)); exact HO_489002.out) hb); have n2_ := Az.mk (Kd.R_below (by (with_reducible repeat (first | apply Kd.R_alloc | apply Kd.R_drewN | apply Kd.R_drew)); exact HO_489003.out) hb); have n3_ := Az.mk (Kd.R_elder' (by (with_reducible repeat (first | apply Kd.R_alloc | apply Kd.R_drewN | apply Kd.R_drew)); exact HO_489004.out) (Kd.R_base ho32) hb); have n4_ := Az.mk (Kd.R_lower (Kd.R_new' (Kd.R_newM (M := fun k_ => ((P0_1_ k_ ∨ P0_2_ k_ ∨ P0_3_ k_ ∨ P0_4_ k_) ∨ w.heap.size ≤ k_)) ho32 (by first | exact HK.out.1 | exact (show Kept w _ (fun k_ => P0_1_ k_ ∨ P0_2_ k_ ∨ P0_3_ k_ ∨ P0_4_ k_) from by repeat (first | (with_reducible first | exact HK.out | apply Kept.alloc | apply Kept.drewN | apply Kept.drew | refine Kept.setCell ?_ (.inr GW488.out) _ | refine Kept.setCell ?_ (.inr GW489.out) _) | exact HK.out)).1) (fun k_ h_ => .inr h_)) (Kd.R_lt (by (with_reducible repeat (first | apply Kd.R_alloc | apply Kd.R_drewN | apply Kd.R_drew)); exact HO_489004.out))) (below_size (by repeat (first | (with_reducible first | exact HB.out | apply zq2 | apply zq1 | apply zqd | refine zq3 ?_ GE488.out | refine zq3 ?_ GE489.out) | exact HB.out)))); have n5_ := Az.mk (blk_below (g := gb488) (o := .cells #[.int .i64 x489000_1, u489001, u489002, u489003, .slice Ao30 x489004_1.length co30] 28 (0, 0)) (by (with_reducible repeat (first | refine zq6 ?_ _ | refine zq8 ?_ | refine zq7 ?_ _)); exact BK488.out) hb); have n6_ := Az.mk (blk_below (g := gb489) (o := .cells #[.int .i64 0, .slice none 0 0, .slice none 0 0, .slice none 0 0, .slice none 0 0] 28 (0, 0)) (by (with_reducible repeat (first | refine zq6 ?_ _ | refine zq8 ?_ | refine zq7 ?_ _)); exact BK489.out) hb); have n7_ := Az.mk (Kept.below (S := (fun k_ => P0_1_ k_ ∨ P0_2_ k_ ∨ P0_3_ k_ ∨ P0_4_ k_)) (by repeat (first | (with_reducible first | exact HK.out | apply Kept.alloc | apply Kept.drewN | apply Kept.drew | refine Kept.setCell ?_ (.inr GW488.out) _ | refine Kept.setCell ?_ (.inr GW489.out) _) | exact HK.out)) hb); have n8_ := Az.mk (below_step (by repeat (first | (with_reducible first | exact HB.out | apply zq2 | apply zq1 | apply zqd | refine zq3 ?_ GE488.out | refine zq3 ?_ GE489.out) | exact HB.out)) hb); clear HO_489001; clear HO_489002; clear HO_489003; clear HO_489004; clear BK488; clear BK489; clear HK; clear HB; have HO_489001 := n0_; have HO_489002 := n1_; have HO_489003 := n2_; have HO_489004 := n3_; have HO506 := n4_; have BK488 := n5_; have BK489 := n6_; have HK := n7_; have HB := n8_; clear n0_ n1_ n2_ n3_ n4_ n5_ n6_ n7_ n8_; clear hb ho32; obtain ⟨Ao33, co33, eo33⟩ := Kd.R_slice HO506.out; subst eo33; have hcz34_0 : w31.cell? ⟨gb488, 0, none⟩ = some (.int .i64 x489000_1) := (zq4 BK488.out 0).trans rfl; have hcz34_1 : w31.cell? ⟨gb488, 1, none⟩ = some (u489001) := (zq4 BK488.out 1).trans rfl; have hcz34_2 : w31.cell? ⟨gb488, 2, none⟩ = some (u489002) := (zq4 BK488.out 2).trans rfl; have hcz34_3 : w31.cell? ⟨gb488, 3, none⟩ = some (u489003) := (zq4 BK488.out 3).trans rfl; have hcz34_4 : w31.cell? ⟨gb488, 4, none⟩ = some (.slice Ao30 x489004_1.length co30) := (zq4 BK488.out 4).trans rfl; have hfz34_0 := zq5 BK488.out 0; have hfz34_1 := zq5 BK488.out 1; have hfz34_2 := zq5 BK488.out 2; have hfz34_3 := zq5 BK488.out 3; have hfz34_4 := zq5 BK488.out 4; have hcz35_0 : w31.cell? ⟨gb489, 0, none⟩ = some (.int .i64 0) := (zq4 BK489.out 0).trans rfl; have hcz35_1 : w31.cell? ⟨gb489, 1, none⟩ = some (.slice none 0 0) := (zq4 BK489.out 1).trans rfl; have hcz35_2 : w31.cell? ⟨gb489, 2, none⟩ = some (.slice none 0 0) := (zq4 BK489.out 2).trans rfl; have hcz35_3 : w31.cell? ⟨gb489, 3, none⟩ = some (.slice none 0 0) := (zq4 BK489.out 3).trans rfl; have hcz35_4 : w31.cell? ⟨gb489, 4, none⟩ = some (.slice none 0 0) := (zq4 BK489.out 4).trans rfl; have hfz35_0 := zq5 BK489.out 0; have hfz35_1 := zq5 BK489.out 1; have hfz35_2 := zq5 BK489.out 2; have hfz35_3 := zq5 BK489.out 3; have hfz35_4 := zq5 BK489.out 4; obtain ⟨Ao36, co36, eo36⟩ := Kd.R_slice HO_489001.out; subst eo36; obtain ⟨Ao37, co37, eo37⟩ := Kd.R_slice HO_489002.out; subst eo37; obtain ⟨Ao38, co38, eo38⟩ := Kd.R_slice HO_489003.out; subst eo38))
    refine bodyPost_ret (results_cell_row rfl _ _ gb489 28 #[.int .i64 x489000_1, .slice Ao36 x489001_1.length co36, .slice Ao37 x489002_1.length co37, .slice Ao38 x489003_1.length co38, .slice Ao33 y504.length co33] (0, 0) _ rfl (by (with_reducible repeat (first | refine zq6 ?_ _ | refine zq8 ?_ | refine zq7 ?_ _)); refine blk_put (cs := #[.int .i64 x489000_1, .slice Ao36 x489001_1.length co36, .slice Ao37 x489002_1.length co37, .slice Ao38 x489003_1.length co38, .slice none 0 0]) ?_ 4 _ rfl; (with_reducible repeat (first | refine zq6 ?_ _ | refine zq8 ?_ | refine zq7 ?_ _)); refine blk_put (cs := #[.int .i64 x489000_1, .slice Ao36 x489001_1.length co36, .slice Ao37 x489002_1.length co37, .slice none 0 0, .slice none 0 0]) ?_ 3 _ rfl; (with_reducible repeat (first | refine zq6 ?_ _ | refine zq8 ?_ | refine zq7 ?_ _)); refine blk_put (cs := #[.int .i64 x489000_1, .slice Ao36 x489001_1.length co36, .slice none 0 0, .slice none 0 0, .slice none 0 0]) ?_ 2 _ rfl; (with_reducible repeat (first | refine zq6 ?_ _ | refine zq8 ?_ | refine zq7 ?_ _)); refine blk_put (cs := #[.int .i64 x489000_1, .slice none 0 0, .slice none 0 0, .slice none 0 0, .slice none 0 0]) ?_ 1 _ rfl; (with_reducible repeat (first | refine zq6 ?_ _ | refine zq8 ?_ | refine zq7 ?_ _)); refine blk_put (cs := #[.int .i64 0, .slice none 0 0, .slice none 0 0, .slice none 0 0, .slice none 0 0]) ?_ 0 _ rfl; (with_reducible repeat (first | refine zq6 ?_ _ | refine zq8 ?_ | refine zq7 ?_ _)); refine blk_far ?_ NB489_488.out _; (with_reducible repeat (first | refine zq6 ?_ _ | refine zq8 ?_ | refine zq7 ?_ _)); exact BK489.out) Try.underlying28 rfl (by kernel_rfl)) rfl ?_
    exact ⟨_, _, _, _, by first | rfl | (simp [errW_none, errW_some] <;> rfl) | (simp [*, errW_none, errW_some] <;> rfl), by (with_reducible repeat (first | apply Kd.R_alloc | apply Kd.R_drewN | apply Kd.R_drew)); exact Kd.R_mono (Kd.R_far (p := ⟨gb489, 4, none⟩) (Kd.R_far (p := ⟨gb489, 3, none⟩) (Kd.R_far (p := ⟨gb489, 2, none⟩) (Kd.R_far (p := ⟨gb489, 1, none⟩) (Kd.R_far (p := ⟨gb489, 0, none⟩) (Kd.R_far (p := ⟨gb488, 4, none⟩) (Kd.R_types (Kd.R_types HO_489001.out BK488.out (by decide)) BK489.out (by decide)) (fun _ hk => hk.1.2) (.slice Ao33 y504.length co33)) (fun _ hk => hk.2) (.int .i64 x489000_1)) (fun _ hk => hk.2) (.slice Ao36 x489001_1.length co36)) (fun _ hk => hk.2) (.slice Ao37 x489002_1.length co37)) (fun _ hk => hk.2) (.slice Ao38 x489003_1.length co38)) (fun _ hk => hk.2) (.slice Ao33 y504.length co33)) (fun _ hk => ⟨hk.1.1.1, hk.1.1.2⟩), by (with_reducible repeat (first | apply Kd.R_alloc | apply Kd.R_drewN | apply Kd.R_drew)); exact Kd.R_mono (Kd.R_far (p := ⟨gb489, 4, none⟩) (Kd.R_far (p := ⟨gb489, 3, none⟩) (Kd.R_far (p := ⟨gb489, 2, none⟩) (Kd.R_far (p := ⟨gb489, 1, none⟩) (Kd.R_far (p := ⟨gb489, 0, none⟩) (Kd.R_far (p := ⟨gb488, 4, none⟩) (Kd.R_types (Kd.R_types HO_489002.out BK488.out (by decide)) BK489.out (by decide)) (fun _ hk => hk.1.2) (.slice Ao33 y504.length co33)) (fun _ hk => hk.2) (.int .i64 x489000_1)) (fun _ hk => hk.2) (.slice Ao36 x489001_1.length co36)) (fun _ hk => hk.2) (.slice Ao37 x489002_1.length co37)) (fun _ hk => hk.2) (.slice Ao38 x489003_1.length co38)) (fun _ hk => hk.2) (.slice Ao33 y504.length co33)) (fun _ hk => ⟨hk.1.1.1, hk.1.1.2⟩), by (with_reducible repeat (first | apply Kd.R_alloc | apply Kd.R_drewN | apply Kd.R_drew)); exact Kd.R_mono (Kd.R_far (p := ⟨gb489, 4, none⟩) (Kd.R_far (p := ⟨gb489, 3, none⟩) (Kd.R_far (p := ⟨gb489, 2, none⟩) (Kd.R_far (p := ⟨gb489, 1, none⟩) (Kd.R_far (p := ⟨gb489, 0, none⟩) (Kd.R_far (p := ⟨gb488, 4, none⟩) (Kd.R_types (Kd.R_types HO_489003.out BK488.out (by decide)) BK489.out (by decide)) (fun _ hk => hk.1.2) (.slice Ao33 y504.length co33)) (fun _ hk => hk.2) (.int .i64 x489000_1)) (fun _ hk => hk.2) (.slice Ao36 x489001_1.length co36)) (fun _ hk => hk.2) (.slice Ao37 x489002_1.length co37)) (fun _ hk => hk.2) (.slice Ao38 x489003_1.length co38)) (fun _ hk => hk.2) (.slice Ao33 y504.length co33)) (fun _ hk => hk.1.1), by (with_reducible repeat (first | apply Kd.R_alloc | apply Kd.R_drewN | apply Kd.R_drew)); exact Kd.R_mono (Kd.R_far (p := ⟨gb489, 4, none⟩) (Kd.R_far (p := ⟨gb489, 3, none⟩) (Kd.R_far (p := ⟨gb489, 2, none⟩) (Kd.R_far (p := ⟨gb489, 1, none⟩) (Kd.R_far (p := ⟨gb489, 0, none⟩) (Kd.R_far (p := ⟨gb488, 4, none⟩) (Kd.R_types (Kd.R_types HO506.out BK488.out (by decide)) BK489.out (by decide)) (fun _ hk => hk.1.2) (.slice Ao33 y504.length co33)) (fun _ hk => hk.2) (.int .i64 x489000_1)) (fun _ hk => hk.2) (.slice Ao36 x489001_1.length co36)) (fun _ hk => hk.2) (.slice Ao37 x489002_1.length co37)) (fun _ hk => hk.2) (.slice Ao38 x489003_1.length co38)) (fun _ hk => hk.2) (.slice Ao33 y504.length co33)) (fun _ hk => hk.1.1.1.1), by repeat (first | (with_reducible first | exact HB.out | apply zq2 | apply zq1 | apply zqd | refine zq3 ?_ GE488.out | refine zq3 ?_ GE489.out) | exact HB.out), by repeat (first | (with_reducible first | exact HK.out | apply Kept.alloc | apply Kept.drewN | apply Kept.drew | refine Kept.setCell ?_ (.inr GW488.out) _ | refine Kept.setCell ?_ (.inr GW489.out) _) | exact HK.out)⟩
end Go.Proofs.Ytkgpnloghmbmlaa.Print
namespace Go.Proofs.Ytkgpnloghmbmlaa.Print
open Go.RowKit Go.Proofs.YtkgpnloghmbmlaaW.PrintWords Go.Proofs.YtkgpnloghmbmlaaW.PrintLast Go.Proofs.YtkgpnloghmbmlaaW.PrintMore
attribute [local go_sem] max2_int min2_int max_two min_two max_three min_three max_four min_four   -- for this text's walks alone
set_option linter.unusedVariables false
set_option linter.unusedSimpArgs false
end Go.Proofs.Ytkgpnloghmbmlaa.Print
namespace Go.Proofs.Ytkgpnloghmbmlaa.Print
open Go.RowKit Go.Proofs.YtkgpnloghmbmlaaW.PrintWords Go.Proofs.YtkgpnloghmbmlaaW.PrintLast Go.Proofs.YtkgpnloghmbmlaaW.PrintMore
attribute [local go_sem] max2_int min2_int max_two min_two max_three min_three max_four min_four   -- for this text's walks alone
set_option linter.unusedVariables false
set_option linter.unusedSimpArgs false
end Go.Proofs.Ytkgpnloghmbmlaa.Print
namespace Go.Proofs.Ytkgpnloghmbmlaa.Print
open Go.RowKit Go.Proofs.YtkgpnloghmbmlaaW.PrintWords Go.Proofs.YtkgpnloghmbmlaaW.PrintLast Go.Proofs.YtkgpnloghmbmlaaW.PrintMore
attribute [local go_sem] max2_int min2_int max_two min_two max_three min_three max_four min_four   -- for this text's walks alone
set_option linter.unusedVariables false
set_option linter.unusedSimpArgs false
end Go.Proofs.Ytkgpnloghmbmlaa.Print
namespace Go.Proofs.Ytkgpnloghmbmlaa.Print
open Go.RowKit Go.Proofs.YtkgpnloghmbmlaaW.PrintWords Go.Proofs.YtkgpnloghmbmlaaW.PrintLast Go.Proofs.YtkgpnloghmbmlaaW.PrintMore Go.Proofs.Ytkgpnloghmbmlaa.Drv
set_option linter.unusedVariables false
set_option linter.unusedSimpArgs false
set_option maxHeartbeats 4000000 in
theorem flushFn (g : Nat) (st : Int) (sp : List Bool) (sl rg : List ByteArray) (ns : List (Nat × Pt)) (w : World) (hD : Drv w g st sp sl rg ns) (hp : ∀ x ∈ ns, putB x.2 = true) :
    Calls Try.prog 77 #[.pointer (some ⟨g, 0, none⟩)] w fun e w' => e = .returned (.bool true) ∧ Drv w' g st (comeAll (ns.map (·.2)) (sp, sl, rg)).1 (comeAll (ns.map (·.2)) (sp, sl, rg)).2.1 (comeAll (ns.map (·.2)) (sp, sl, rg)).2.2 [] ∧ Below g w w' := by
  have HF := Az.mk (flush_calls g st sp sl rg ns w hD hp)
  clear hD hp
  go_enter Try.func77, Try.ntmps77
  go_wp2_with (first | (go_at_call 78; refine HF.out.mono ?_; rintro e w9 ⟨rfl, hd, hb, hk⟩; have HD := Az.mk hd; have HB := Az.mk hb; clear hd hb hk))
  go_ret
  exact ⟨rfl, (by (with_reducible repeat (first | refine drv_drewN ?_ _ | refine drv_drew ?_)); exact HD.out), (by repeat (first | (with_reducible first | exact HB.out | apply zq1 | apply zqd) | exact HB.out))⟩
def impl_DiskFlush.f (a0_0 : Int) (l0_1 l0_2 : List ByteArray) (l0_3 : List Bool) (l0_4 : List S54) : Option (Int × List ByteArray × List ByteArray × List Bool × List S54) :=
  if Good a0_0 l0_1 l0_2 l0_3 l0_4 then some (a0_0, (comeAll l0_4 (l0_3, l0_1, l0_2)).2.1, (comeAll l0_4 (l0_3, l0_1, l0_2)).2.2, (comeAll l0_4 (l0_3, l0_1, l0_2)).1, []) else some (0, [], [], [], [])
set_option maxHeartbeats 4000000 in
set_option maxRecDepth 100000 in
theorem impl_DiskFlush.calls (a0_0 : Int) (A0_1 : Option Addr) (c0_1 : Nat) (l0_1 : List ByteArray) (A0_2 : Option Addr) (c0_2 : Nat) (l0_2 : List ByteArray) (A0_3 : Option Addr) (c0_3 : Nat) (l0_3 : List Bool) (A0_4 : Option Addr) (c0_4 : Nat) (l0_4 : List (S54)) (r1 : Int) (r2 : List ByteArray) (r3 : List ByteArray) (r4 : List Bool) (r5 : List (S54)) (w : World) (hr0_1 : Kd.C Kd.string w A0_1 l0_1.length l0_1) (hc0_1 : l0_1.length ≤ c0_1) (hr0_2 : Kd.C Kd.string w A0_2 l0_2.length l0_2) (hc0_2 : l0_2.length ≤ c0_2) (hr0_3 : Kd.C Kd.bool w A0_3 l0_3.length l0_3) (hc0_3 : l0_3.length ≤ c0_3) (hr0_4 : Kd.C k54 w A0_4 l0_4.length l0_4) (hc0_4 : l0_4.length ≤ c0_4) (h : impl_DiskFlush.f a0_0 l0_1 l0_2 l0_3 l0_4 = some (r1, r2, r3, r4, r5)) :
    Calls Try.prog 35 #[.agg #[.int .i64 a0_0, .slice A0_1 l0_1.length c0_1, .slice A0_2 l0_2.length c0_2, .slice A0_3 l0_3.length c0_3, .slice A0_4 l0_4.length c0_4]] w fun e w' => ∃ v1_ v2_ v3_ v4_ : Value, e = .returned (.agg #[.int .i64 r1, v1_, v2_, v3_, v4_]) ∧ Kd.R Kd.string 9 w' w.heap.size (fun k_ => some k_ ≠ (v2_ : Value).ownBlock) v1_ r2 ∧ Kd.R Kd.string 9 w' w.heap.size (fun k_ => some k_ ≠ (v1_ : Value).ownBlock) v2_ r3 ∧ Kd.R Kd.bool 4 w' w.heap.size (fun _ => True) v3_ r4 ∧ Kd.R k54 54 w' w.heap.size (fun _ => True) v4_ r5 ∧ Below w.heap.size w w' := by
  have key : ∀ (W : World), Below w.heap.size w W → Calls Try.prog 76 #[.agg #[.int .i64 a0_0, .slice A0_1 l0_1.length c0_1, .slice A0_2 l0_2.length c0_2, .slice A0_3 l0_3.length c0_3, .slice A0_4 l0_4.length c0_4], .func (.func 77) #[] #[]] W fun e w' => ∃ v1_ v2_ v3_ v4_ : Value, e = .returned (.agg #[.int .i64 r1, v1_, v2_, v3_, v4_]) ∧ Kd.R Kd.string 9 w' W.heap.size (fun k_ => some k_ ≠ (v2_ : Value).ownBlock) v1_ r2 ∧ Kd.R Kd.string 9 w' W.heap.size (fun k_ => some k_ ≠ (v1_ : Value).ownBlock) v2_ r3 ∧ Kd.R Kd.bool 4 w' W.heap.size (fun _ => True) v3_ r4 ∧ Kd.R k54 54 w' W.heap.size (fun _ => True) v4_ r5 ∧ Below W.heap.size W w' := fun W hb => by
    by_cases hg : Good a0_0 l0_1 l0_2 l0_3 l0_4
    · rw [impl_DiskFlush.f, if_pos hg] at h
      simp only [Option.some.injEq, Prod.mk.injEq] at h
      obtain ⟨rfl, rfl, rfl, rfl, rfl⟩ := h
      refine changed_flush a0_0 A0_1 c0_1 l0_1 A0_2 c0_2 l0_2 A0_3 c0_3 l0_3 A0_4 c0_4 l0_4 W (Kd.C_below hr0_1 hb) hc0_1 (Kd.C_below hr0_2 hb) hc0_2 (Kd.C_below hr0_3 hb) hc0_3 (Kd.C_below hr0_4 hb) hc0_4 hg _ _ _ [] (by simp) (fun W2 _ g ns hD hns _ => ?_)
      have hp : ∀ x ∈ ns, putB x.2 = true := fun x hx => by
        have h1 := hg.wa
        rw [List.any_eq_false] at h1
        have h2 := h1 x.2 (by rw [← hns]; exact List.mem_map_of_mem hx)
        simpa using h2
      refine (flushFn g a0_0 l0_3 l0_1 l0_2 ns W2 hD hp).mono fun e w' hh => ⟨[], hh.1, ?_, rfl, hh.2.2⟩
      have := hh.2.1
      rw [hns] at this
      exact this
    · rw [impl_DiskFlush.f, if_neg hg] at h
      simp only [Option.some.injEq, Prod.mk.injEq] at h
      obtain ⟨rfl, rfl, rfl, rfl, rfl⟩ := h
      exact changed_bad a0_0 A0_1 c0_1 l0_1 A0_2 c0_2 l0_2 A0_3 c0_3 l0_3 A0_4 c0_4 l0_4 _ W (Kd.C_below hr0_1 hb) hc0_1 (Kd.C_below hr0_2 hb) hc0_2 (Kd.C_below hr0_3 hb) hc0_3 (Kd.C_below hr0_4 hb) hc0_4 hg
  have HK := Az.mk key
  have HB := Az.mk (Below.refl w.heap.size w)
  clear hr0_1 hc0_1 hr0_2 hc0_2 hr0_3 hc0_3 hr0_4 hc0_4 h key
  have hu28 := Try.underlying28
  go_enter Try.func35, Try.ntmps35
  go_wp2_with (first | ((with_reducible refine zqg (N := 1) rfl ?_); refine zqb ?hg (N := 1) ?hd (cs := #[.int .i64 a0_0, .slice A0_1 l0_1.length c0_1, .slice A0_2 l0_2.length c0_2, .slice A0_3 l0_3.length c0_3, .slice A0_4 l0_4.length c0_4]) (t := 28) ?hr ?_; (case hd => rfl); (case hg => rfl); (case hr => first | (go_simp; done) | (go_simp; rfl)); intro gb hg w1 hbox hb; have n0_ := Az.mk (below_step (by repeat (first | (with_reducible first | exact HB.out | apply zq2 | apply zq1 | apply zqd) | exact HB.out)) hb); have BD := Az.mk hbox; clear HB; have HB := n0_; clear n0_ hb hbox hg; have hcd_0 : w1.cell? ⟨gb, 0, none⟩ = some (.int .i64 a0_0) := (zq4 BD.out 0).trans rfl; have hcd_1 : w1.cell? ⟨gb, 1, none⟩ = some (.slice A0_1 l0_1.length c0_1) := (zq4 BD.out 1).trans rfl; have hcd_2 : w1.cell? ⟨gb, 2, none⟩ = some (.slice A0_2 l0_2.length c0_2) := (zq4 BD.out 2).trans rfl; have hcd_3 : w1.cell? ⟨gb, 3, none⟩ = some (.slice A0_3 l0_3.length c0_3) := (zq4 BD.out 3).trans rfl; have hcd_4 : w1.cell? ⟨gb, 4, none⟩ = some (.slice A0_4 l0_4.length c0_4) := (zq4 BD.out 4).trans rfl) | ((with_reducible refine zqg (N := 2) rfl ?_); refine zqb ?hg (N := 2) ?hd (cs := #[.int .i64 0, .slice none 0 0, .slice none 0 0, .slice none 0 0, .slice none 0 0]) (t := 28) ?hr ?_; (case hd => rfl); (case hg => rfl); (case hr => first | (go_simp; done) | (go_simp; rfl)); intro gr hg w2 hbox hb; have n0_ := Az.mk (below_step (by repeat (first | (with_reducible first | exact HB.out | apply zq2 | apply zq1 | apply zqd) | exact HB.out)) hb); have BK := Az.mk hbox; have HGR : Az (w.heap.size ≤ gr) := ⟨by rw [hg]; exact (below_size (by repeat (first | (with_reducible first | exact HB.out | apply zq2 | apply zq1 | apply zqd) | exact HB.out)))⟩; have nd_ := Az.mk (blk_below (g := gb) (o := .cells #[.int .i64 a0_0, .slice A0_1 l0_1.length c0_1, .slice A0_2 l0_2.length c0_2, .slice A0_3 l0_3.length c0_3, .slice A0_4 l0_4.length c0_4] 28 (0, 0)) (by (with_reducible repeat (first | refine zq6 ?_ _ | refine zq8 ?_ | refine zq7 ?_ _)); exact BD.out) hb); clear HB BD; have HB := n0_; have BD := nd_; clear n0_ nd_ hb hbox hg; have hcd_0 : w2.cell? ⟨gb, 0, none⟩ = some (.int .i64 a0_0) := (zq4 BD.out 0).trans rfl; have hcd_1 : w2.cell? ⟨gb, 1, none⟩ = some (.slice A0_1 l0_1.length c0_1) := (zq4 BD.out 1).trans rfl; have hcd_2 : w2.cell? ⟨gb, 2, none⟩ = some (.slice A0_2 l0_2.length c0_2) := (zq4 BD.out 2).trans rfl; have hcd_3 : w2.cell? ⟨gb, 3, none⟩ = some (.slice A0_3 l0_3.length c0_3) := (zq4 BD.out 3).trans rfl; have hcd_4 : w2.cell? ⟨gb, 4, none⟩ = some (.slice A0_4 l0_4.length c0_4) := (zq4 BD.out 4).trans rfl) | (go_at_call 76; refine (HK.out _ (by repeat (first | (with_reducible first | exact HB.out | apply zq2 | apply zq1 | apply zqd) | exact HB.out))).mono ?_; rintro e w12 ⟨v1, v2, v3, v4, rfl, ho1, ho2, ho3, ho4, hb⟩; obtain ⟨A1, c1, rfl⟩ := Kd.R_slice ho1; obtain ⟨A2, c2, rfl⟩ := Kd.R_slice ho2; obtain ⟨A3, c3, rfl⟩ := Kd.R_slice ho3; obtain ⟨A4, c4, rfl⟩ := Kd.R_slice ho4; have n0_ := Az.mk (below_step (by repeat (first | (with_reducible first | exact HB.out | apply zq2 | apply zq1 | apply zqd) | exact HB.out)) hb); have n1_ := Az.mk (blk_below (g := gr) (o := .cells #[.int .i64 0, .slice none 0 0, .slice none 0 0, .slice none 0 0, .slice none 0 0] 28 (0, 0)) (by (with_reducible repeat (first | refine zq6 ?_ _ | refine zq8 ?_ | refine zq7 ?_ _)); exact BK.out) hb); have HG5 : Az (gr < _) := ⟨blk_lt (by (with_reducible repeat (first | refine zq6 ?_ _ | refine zq8 ?_ | refine zq7 ?_ _)); exact BK.out)⟩; have HS5 : Az (w.heap.size ≤ _) := ⟨below_size (by repeat (first | (with_reducible first | exact HB.out | apply zq2 | apply zq1 | apply zqd) | exact HB.out))⟩; have HO1 := Az.mk ho1; have HO2 := Az.mk ho2; have HO3 := Az.mk ho3; have HO4 := Az.mk ho4; clear HB BK; have HB := n0_; have BK := n1_; clear n0_ n1_ ho1 ho2 ho3 ho4 hb; have hcz_0 : w12.cell? ⟨gr, 0, none⟩ = some (.int .i64 0) := (zq4 BK.out 0).trans rfl; have hcz_1 : w12.cell? ⟨gr, 1, none⟩ = some (.slice none 0 0) := (zq4 BK.out 1).trans rfl; have hcz_2 : w12.cell? ⟨gr, 2, none⟩ = some (.slice none 0 0) := (zq4 BK.out 2).trans rfl; have hcz_3 : w12.cell? ⟨gr, 3, none⟩ = some (.slice none 0 0) := (zq4 BK.out 3).trans rfl; have hcz_4 : w12.cell? ⟨gr, 4, none⟩ = some (.slice none 0 0) := (zq4 BK.out 4).trans rfl; have hfz_0 := zq5 BK.out 0; have hfz_1 := zq5 BK.out 1; have hfz_2 := zq5 BK.out 2; have hfz_3 := zq5 BK.out 3; have hfz_4 := zq5 BK.out 4))
  have hset : ∀ {W : World} (h : Below w.heap.size w W) (j : Nat) (u : Value), Below w.heap.size w (W.setCell ⟨gr, j, none⟩ u) := fun h j u => zq3 h HGR.out
  refine bodyPost_ret (results_cell_row rfl _ _ gr 28 #[.int .i64 r1, .slice A1 r2.length c1, .slice A2 r3.length c2, .slice A3 r4.length c3, .slice A4 r5.length c4] (0, 0) _ rfl (by
    refine blk_put (cs := #[.int .i64 r1, .slice A1 r2.length c1, .slice A2 r3.length c2, .slice A3 r4.length c3, .slice none 0 0]) ?_ 4 _ rfl
    refine blk_put (cs := #[.int .i64 r1, .slice A1 r2.length c1, .slice A2 r3.length c2, .slice none 0 0, .slice none 0 0]) ?_ 3 _ rfl
    refine blk_put (cs := #[.int .i64 r1, .slice A1 r2.length c1, .slice none 0 0, .slice none 0 0, .slice none 0 0]) ?_ 2 _ rfl
    refine blk_put (cs := #[.int .i64 r1, .slice none 0 0, .slice none 0 0, .slice none 0 0, .slice none 0 0]) ?_ 1 _ rfl
    refine blk_put (cs := #[.int .i64 0, .slice none 0 0, .slice none 0 0, .slice none 0 0, .slice none 0 0]) ?_ 0 _ rfl
    exact BK.out) Try.underlying28 rfl (by kernel_rfl)) rfl ?_
  exact ⟨_, _, _, _, rfl, Kd.R_lower (R_setOwn (R_setOwn (R_setOwn (R_setOwn (R_setOwn HO1.out HG5.out 0 _) HG5.out 1 _) HG5.out 2 _) HG5.out 3 _) HG5.out 4 _) HS5.out,
    Kd.R_lower (R_setOwn (R_setOwn (R_setOwn (R_setOwn (R_setOwn HO2.out HG5.out 0 _) HG5.out 1 _) HG5.out 2 _) HG5.out 3 _) HG5.out 4 _) HS5.out,
    Kd.R_lower (R_setOwn (R_setOwn (R_setOwn (R_setOwn (R_setOwn HO3.out HG5.out 0 _) HG5.out 1 _) HG5.out 2 _) HG5.out 3 _) HG5.out 4 _) HS5.out,
    Kd.R_lower (R_setOwn (R_setOwn (R_setOwn (R_setOwn (R_setOwn HO4.out HG5.out 0 _) HG5.out 1 _) HG5.out 2 _) HG5.out 3 _) HG5.out 4 _) HS5.out,
    hset (hset (hset (hset (hset HB.out 0 _) 1 _) 2 _) 3 _) 4 _⟩
end Go.Proofs.Ytkgpnloghmbmlaa.Print
namespace Go.Proofs.Ytkgpnloghmbmlaa.Print
open Go.RowKit Go.Proofs.YtkgpnloghmbmlaaW.PrintWords Go.Proofs.YtkgpnloghmbmlaaW.PrintLast Go.Proofs.YtkgpnloghmbmlaaW.PrintMore Go.Proofs.Ytkgpnloghmbmlaa.Drv
set_option linter.unusedVariables false
set_option linter.unusedSimpArgs false
def putF (st : Int) (sp : List Bool) (sl rg : List ByteArray) (ws : List S54) (p : S54) : List Bool × List ByteArray × List ByteArray × List S54 :=
  if st = 1 then (sp, sl, rg, ws) else if ws.length = 40 then ((comeAll ws (sp, sl, rg)).1, (comeAll ws (sp, sl, rg)).2.1, (comeAll ws (sp, sl, rg)).2.2, [p]) else (sp, sl, rg, ws ++ [p])
theorem put_calls (g : Nat) (st : Int) (sp : List Bool) (sl rg : List ByteArray) (ns : List (Nat × Pt)) (p : S54) (w : World) (hD : Drv w g st sp sl rg ns) (hn : ns.length ≤ 40) (hp : ∀ x ∈ ns, putB x.2 = true) :
    Calls Try.prog 84 #[.pointer (some ⟨g, 0, none⟩), .agg #[.bool p.f0, .int .i64 p.f1, .string p.f2]] w fun e w' => e = .returned (.tuple #[]) ∧ (∃ ns2, Drv w' g st (putF st sp sl rg (ns.map (·.2)) p).1 (putF st sp sl rg (ns.map (·.2)) p).2.1 (putF st sp sl rg (ns.map (·.2)) p).2.2.1 ns2 ∧ ns2.map (·.2) = (putF st sp sl rg (ns.map (·.2)) p).2.2.2) ∧ Below g w w' := by
  by_cases h1 : st = 1
  · refine (put_gone g st sp sl rg ns p w hD h1).mono fun e w' h => ⟨h.1, ⟨ns, ?_, ?_⟩, h.2.2⟩
    · simp only [putF, if_pos h1]; exact h.2.1
    · simp only [putF, if_pos h1]
  · by_cases h2 : ns.length = 40
    · have h2' : (ns.map (·.2)).length = 40 := by rw [List.length_map]; exact h2
      refine (put_full g st sp sl rg ns p w hD h1 h2 hp _ _ _ rfl).mono fun e w' h => ⟨h.1, ?_, h.2.2⟩
      obtain ⟨n, hd⟩ := h.2.1
      refine ⟨[(n, p)], ?_, ?_⟩
      · simp only [putF, if_neg h1, if_pos h2']; exact hd
      · simp only [putF, if_neg h1, if_pos h2']; rfl
    · have h2' : ¬ (ns.map (·.2)).length = 40 := by rw [List.length_map]; exact h2
      refine (put_some g st sp sl rg ns p w hD h1 (by omega)).mono fun e w' h => ⟨h.1, ?_, h.2.2⟩
      obtain ⟨n, hd⟩ := h.2.1
      refine ⟨ns ++ [(n, p)], ?_, ?_⟩
      · simp only [putF, if_neg h1, if_neg h2']; exact hd
      · simp only [putF, if_neg h1, if_neg h2', List.map_append]; rfl
set_option maxHeartbeats 4000000 in
theorem putFn_no (g gp : Nat) (p : S54) (w : World) (hg : g ≤ w.heap.size) (hb : w.heap[gp]? = some (.cells #[.bool p.f0, .int .i64 p.f1, .string p.f2] 54 (0, 0))) (hp : putB p = false) :
    Calls Try.prog 82 #[.pointer (some ⟨g, 0, none⟩), .pointer (some ⟨gp, 0, none⟩)] w fun e w' => e = .returned (.bool false) ∧ Below g w w' := by
  have hu54 := Try.underlying54
  have HP : Az (impl_putOk.f p.f0 p.f1 p.f2 = some false) := ⟨by rw [putB_eq, hp]⟩
  have HG := Az.mk hg
  have hc_0 : w.cell? ⟨gp, 0, none⟩ = some (.bool p.f0) := (zq4 hb 0).trans rfl
  have hc_1 : w.cell? ⟨gp, 1, none⟩ = some (.int .i64 p.f1) := (zq4 hb 1).trans rfl
  have hc_2 : w.cell? ⟨gp, 2, none⟩ = some (.string p.f2) := (zq4 hb 2).trans rfl
  clear hg hb hp
  have HB := Az.mk (Below.refl g w)
  go_enter Try.func82, Try.ntmps82
  go_wp2_with (first | (go_at_call 83; refine (impl_putOk.calls _ _ _ _ _ HP.out).mono ?_; rintro e w9 ⟨rfl, hb⟩; have n0_ := Az.mk (below_glue (by repeat (first | (with_reducible first | exact HB.out | apply zq1 | apply zqd) | exact HB.out)) HG.out hb); clear HB; have HB := n0_; clear n0_ hb))
  go_ret
  exact ⟨rfl, (by repeat (first | (with_reducible first | exact HB.out | apply zq1 | apply zqd) | exact HB.out))⟩
set_option maxHeartbeats 4000000 in
theorem putFn (g gp : Nat) (st : Int) (sp : List Bool) (sl rg : List ByteArray) (ns : List (Nat × Pt)) (p : S54) (w : World) (hD : Drv w g st sp sl rg ns) (hn : ns.length ≤ 40) (hq : ∀ x ∈ ns, putB x.2 = true) (hb : w.heap[gp]? = some (.cells #[.bool p.f0, .int .i64 p.f1, .string p.f2] 54 (0, 0))) (hp : putB p = true) :
    Calls Try.prog 82 #[.pointer (some ⟨g, 0, none⟩), .pointer (some ⟨gp, 0, none⟩)] w fun e w' => e = .returned (.bool true) ∧ (∃ ns2, Drv w' g st (putF st sp sl rg (ns.map (·.2)) p).1 (putF st sp sl rg (ns.map (·.2)) p).2.1 (putF st sp sl rg (ns.map (·.2)) p).2.2.1 ns2 ∧ ns2.map (·.2) = (putF st sp sl rg (ns.map (·.2)) p).2.2.2) ∧ Below g w w' := by
  have hu54 := Try.underlying54
  have HP : Az (impl_putOk.f p.f0 p.f1 p.f2 = some true) := ⟨by rw [putB_eq, hp]⟩
  have HG := Az.mk (Nat.le_of_lt (blk_lt hD.blk))
  have HD := Az.mk hD
  have HPU := Az.mk (fun (W : World) (h : Drv W g st sp sl rg ns) => put_calls g st sp sl rg ns p W h hn hq)
  have hc_0 : w.cell? ⟨gp, 0, none⟩ = some (.bool p.f0) := (zq4 hb 0).trans rfl
  have hc_1 : w.cell? ⟨gp, 1, none⟩ = some (.int .i64 p.f1) := (zq4 hb 1).trans rfl
  have hc_2 : w.cell? ⟨gp, 2, none⟩ = some (.string p.f2) := (zq4 hb 2).trans rfl
  have BK := Az.mk hb
  clear hD hb hp hn hq
  have HB := Az.mk (Below.refl g w)
  go_enter Try.func82, Try.ntmps82
  go_wp2_with (first | (go_at_call 83; refine (impl_putOk.calls _ _ _ _ _ HP.out).mono ?_; rintro e w9 ⟨rfl, hb⟩; have n0_ := Az.mk (below_glue (by repeat (first | (with_reducible first | exact HB.out | apply zq1 | apply zqd) | exact HB.out)) HG.out hb); have nd_ := Az.mk (Drv.below (g := g) (st := st) (sp := sp) (sl := sl) (rg := rg) (ns := ns) (by (with_reducible repeat (first | refine drv_drewN ?_ _ | refine drv_drew ?_)); exact HD.out) hb); have nk_ := Az.mk (blk_below (g := gp) (o := .cells #[.bool p.f0, .int .i64 p.f1, .string p.f2] 54 (0, 0)) (by (with_reducible repeat (first | refine zq6 ?_ _ | refine zq8 ?_ | refine zq7 ?_ _)); exact BK.out) hb); clear HB HD BK; have HB := n0_; have HD := nd_; have BK := nk_; clear n0_ nd_ nk_ hb; have hd_0 : w9.cell? ⟨gp, 0, none⟩ = some (.bool p.f0) := (zq4 BK.out 0).trans rfl; have hd_1 : w9.cell? ⟨gp, 1, none⟩ = some (.int .i64 p.f1) := (zq4 BK.out 1).trans rfl; have hd_2 : w9.cell? ⟨gp, 2, none⟩ = some (.string p.f2) := (zq4 BK.out 2).trans rfl) | (go_at_call 84; refine (HPU.out _ (by (with_reducible repeat (first | refine drv_drewN ?_ _ | refine drv_drew ?_)); exact HD.out)).mono ?_; rintro e w10 ⟨rfl, hd, hb⟩; have n0_ := Az.mk (Below.trans (by repeat (first | (with_reducible first | exact HB.out | apply zq1 | apply zqd) | exact HB.out)) hb); have HE := Az.mk hd; clear HB hb hd; have HB := n0_; clear n0_))
  go_ret
  refine ⟨rfl, ?_, (by repeat (first | (with_reducible first | exact HB.out | apply zq1 | apply zqd) | exact HB.out))⟩
  obtain ⟨ns2, h1, h2⟩ := HE.out
  exact ⟨ns2, (by (with_reducible repeat (first | refine drv_drewN ?_ _ | refine drv_drew ?_)); exact h1), h2⟩
def impl_DiskPut.f (a0_0 : Int) (l0_1 l0_2 : List ByteArray) (l0_3 : List Bool) (l0_4 : List S54) (a1_0 : Bool) (a1_1 : Int) (a1_2 : ByteArray) : Option (Int × List ByteArray × List ByteArray × List Bool × List S54) :=
  if Good a0_0 l0_1 l0_2 l0_3 l0_4 ∧ putB ⟨a1_0, a1_1, a1_2⟩ = true then some (a0_0, (putF a0_0 l0_3 l0_1 l0_2 l0_4 ⟨a1_0, a1_1, a1_2⟩).2.1, (putF a0_0 l0_3 l0_1 l0_2 l0_4 ⟨a1_0, a1_1, a1_2⟩).2.2.1, (putF a0_0 l0_3 l0_1 l0_2 l0_4 ⟨a1_0, a1_1, a1_2⟩).1, (putF a0_0 l0_3 l0_1 l0_2 l0_4 ⟨a1_0, a1_1, a1_2⟩).2.2.2) else some (0, [], [], [], [])
theorem putF_len {st : Int} {sp : List Bool} {sl rg : List ByteArray} {ws : List S54} {p : S54} (h : ws.length ≤ 40) : (putF st sp sl rg ws p).2.2.2.length ≤ 40 := by
  unfold putF
  split
  · exact h
  · split
    · simp
    · simp only [List.length_append, List.length_cons, List.length_nil]
      omega
set_option maxHeartbeats 4000000 in
set_option maxRecDepth 100000 in
theorem impl_DiskPut.calls (a0_0 : Int) (A0_1 : Option Addr) (c0_1 : Nat) (l0_1 : List ByteArray) (A0_2 : Option Addr) (c0_2 : Nat) (l0_2 : List ByteArray) (A0_3 : Option Addr) (c0_3 : Nat) (l0_3 : List Bool) (A0_4 : Option Addr) (c0_4 : Nat) (l0_4 : List (S54)) (a1_0 : Bool) (a1_1 : Int) (a1_2 : ByteArray) (r1 : Int) (r2 : List ByteArray) (r3 : List ByteArray) (r4 : List Bool) (r5 : List (S54)) (w : World) (hr0_1 : Kd.C Kd.string w A0_1 l0_1.length l0_1) (hc0_1 : l0_1.length ≤ c0_1) (hr0_2 : Kd.C Kd.string w A0_2 l0_2.length l0_2) (hc0_2 : l0_2.length ≤ c0_2) (hr0_3 : Kd.C Kd.bool w A0_3 l0_3.length l0_3) (hc0_3 : l0_3.length ≤ c0_3) (hr0_4 : Kd.C k54 w A0_4 l0_4.length l0_4) (hc0_4 : l0_4.length ≤ c0_4) (h : impl_DiskPut.f a0_0 l0_1 l0_2 l0_3 l0_4 a1_0 a1_1 a1_2 = some (r1, r2, r3, r4, r5)) :
    Calls Try.prog 38 #[.agg #[.int .i64 a0_0, .slice A0_1 l0_1.length c0_1, .slice A0_2 l0_2.length c0_2, .slice A0_3 l0_3.length c0_3, .slice A0_4 l0_4.length c0_4], .agg #[.bool a1_0, .int .i64 a1_1, .string a1_2]] w fun e w' => ∃ v1_ v2_ v3_ v4_ : Value, e = .returned (.agg #[.int .i64 r1, v1_, v2_, v3_, v4_]) ∧ Kd.R Kd.string 9 w' w.heap.size (fun k_ => some k_ ≠ (v2_ : Value).ownBlock) v1_ r2 ∧ Kd.R Kd.string 9 w' w.heap.size (fun k_ => some k_ ≠ (v1_ : Value).ownBlock) v2_ r3 ∧ Kd.R Kd.bool 4 w' w.heap.size (fun _ => True) v3_ r4 ∧ Kd.R k54 54 w' w.heap.size (fun _ => True) v4_ r5 ∧ Below w.heap.size w w' := by
  have key : ∀ (W : World), Below w.heap.size w W → ∀ gp : Nat, W.heap[gp]? = some (.cells #[.bool a1_0, .int .i64 a1_1, .string a1_2] 54 (0, 0)) → Calls Try.prog 76 #[.agg #[.int .i64 a0_0, .slice A0_1 l0_1.length c0_1, .slice A0_2 l0_2.length c0_2, .slice A0_3 l0_3.length c0_3, .slice A0_4 l0_4.length c0_4], .func (.func 82) #[] #[.pointer (some ⟨gp, 0, none⟩)]] W fun e w' => ∃ v1_ v2_ v3_ v4_ : Value, e = .returned (.agg #[.int .i64 r1, v1_, v2_, v3_, v4_]) ∧ Kd.R Kd.string 9 w' W.heap.size (fun k_ => some k_ ≠ (v2_ : Value).ownBlock) v1_ r2 ∧ Kd.R Kd.string 9 w' W.heap.size (fun k_ => some k_ ≠ (v1_ : Value).ownBlock) v2_ r3 ∧ Kd.R Kd.bool 4 w' W.heap.size (fun _ => True) v3_ r4 ∧ Kd.R k54 54 w' W.heap.size (fun _ => True) v4_ r5 ∧ Below W.heap.size W w' := fun W hb gp hgp => by
    by_cases hg : Good a0_0 l0_1 l0_2 l0_3 l0_4
    · have hq : ∀ (ns : List (Nat × Pt)), ns.map (·.2) = l0_4 → ∀ x ∈ ns, putB x.2 = true := fun ns hns x hx => by
        have h1 := hg.wa
        rw [List.any_eq_false] at h1
        have h2 := h1 x.2 (by rw [← hns]; exact List.mem_map_of_mem hx)
        simpa using h2
      by_cases hp : putB ⟨a1_0, a1_1, a1_2⟩ = true
      · rw [impl_DiskPut.f, if_pos ⟨hg, hp⟩] at h
        simp only [Option.some.injEq, Prod.mk.injEq] at h
        obtain ⟨rfl, rfl, rfl, rfl, rfl⟩ := h
        refine changed_put a0_0 A0_1 c0_1 l0_1 A0_2 c0_2 l0_2 A0_3 c0_3 l0_3 A0_4 c0_4 l0_4 (.pointer (some ⟨gp, 0, none⟩)) W (Kd.C_below hr0_1 hb) hc0_1 (Kd.C_below hr0_2 hb) hc0_2 (Kd.C_below hr0_3 hb) hc0_3 (Kd.C_below hr0_4 hb) hc0_4 hg _ _ _ _ (putF_len hg.sh.2.2.2.2) (fun W2 hb2 g ns hD hns _ => ?_)
        have hl : ns.length ≤ 40 := by
          have h1 := congrArg List.length hns
          rw [List.length_map] at h1
          have h2 := hg.sh.2.2.2.2
          omega
        refine (putFn g gp a0_0 l0_3 l0_1 l0_2 ns ⟨a1_0, a1_1, a1_2⟩ W2 hD hl (hq ns hns) ((hb2.block gp (blk_lt hgp)).trans hgp) hp).mono fun e w' hh => ?_
        obtain ⟨h1, ⟨ns2, h2, h3⟩, h4⟩ := hh
        rw [hns] at h2 h3
        exact ⟨ns2, h1, h2, h3, h4⟩
      · rw [impl_DiskPut.f, if_neg (fun hh => hp hh.2)] at h
        simp only [Option.some.injEq, Prod.mk.injEq] at h
        obtain ⟨rfl, rfl, rfl, rfl, rfl⟩ := h
        exact changed_put_no a0_0 A0_1 c0_1 l0_1 A0_2 c0_2 l0_2 A0_3 c0_3 l0_3 A0_4 c0_4 l0_4 (.pointer (some ⟨gp, 0, none⟩)) W (Kd.C_below hr0_1 hb) hc0_1 (Kd.C_below hr0_2 hb) hc0_2 (Kd.C_below hr0_3 hb) hc0_3 (Kd.C_below hr0_4 hb) hc0_4 hg (fun W2 hb2 g ns hD hns _ => putFn_no g gp ⟨a1_0, a1_1, a1_2⟩ W2 (Nat.le_of_lt (blk_lt hD.blk)) ((hb2.block gp (blk_lt hgp)).trans hgp) (by simpa using hp))
    · rw [impl_DiskPut.f, if_neg (fun hh => hg hh.1)] at h
      simp only [Option.some.injEq, Prod.mk.injEq] at h
      obtain ⟨rfl, rfl, rfl, rfl, rfl⟩ := h
      exact changed_bad a0_0 A0_1 c0_1 l0_1 A0_2 c0_2 l0_2 A0_3 c0_3 l0_3 A0_4 c0_4 l0_4 _ W (Kd.C_below hr0_1 hb) hc0_1 (Kd.C_below hr0_2 hb) hc0_2 (Kd.C_below hr0_3 hb) hc0_3 (Kd.C_below hr0_4 hb) hc0_4 hg
  have HK := Az.mk key
  have HB := Az.mk (Below.refl w.heap.size w)
  clear hr0_1 hc0_1 hr0_2 hc0_2 hr0_3 hc0_3 hr0_4 hc0_4 h key
  have hu28 := Try.underlying28
  have hu54 := Try.underlying54
  go_enter Try.func38, Try.ntmps38
  go_wp2_with (first | ((with_reducible refine zqg (N := 2) rfl ?_); refine zqb ?hg (N := 2) ?hd (cs := #[.int .i64 a0_0, .slice A0_1 l0_1.length c0_1, .slice A0_2 l0_2.length c0_2, .slice A0_3 l0_3.length c0_3, .slice A0_4 l0_4.length c0_4]) (t := 28) ?hr ?_; (case hd => rfl); (case hg => rfl); (case hr => first | (go_simp; done) | (go_simp; rfl)); intro gb hg w1 hbox hb; have n0_ := Az.mk (below_step (by repeat (first | (with_reducible first | exact HB.out | apply zq2 | apply zq1 | apply zqd) | exact HB.out)) hb); have BD := Az.mk hbox; clear HB; have HB := n0_; clear n0_ hb hbox hg; have hcd_0 : w1.cell? ⟨gb, 0, none⟩ = some (.int .i64 a0_0) := (zq4 BD.out 0).trans rfl; have hcd_1 : w1.cell? ⟨gb, 1, none⟩ = some (.slice A0_1 l0_1.length c0_1) := (zq4 BD.out 1).trans rfl; have hcd_2 : w1.cell? ⟨gb, 2, none⟩ = some (.slice A0_2 l0_2.length c0_2) := (zq4 BD.out 2).trans rfl; have hcd_3 : w1.cell? ⟨gb, 3, none⟩ = some (.slice A0_3 l0_3.length c0_3) := (zq4 BD.out 3).trans rfl; have hcd_4 : w1.cell? ⟨gb, 4, none⟩ = some (.slice A0_4 l0_4.length c0_4) := (zq4 BD.out 4).trans rfl) | ((with_reducible refine zqg (N := 3) rfl ?_); refine zqb ?hg (N := 3) ?hd (cs := #[.bool a1_0, .int .i64 a1_1, .string a1_2]) (t := 54) ?hr ?_; (case hd => rfl); (case hg => rfl); (case hr => first | (go_simp; done) | (go_simp; rfl)); intro gp hg w3 hbox hb; have n0_ := Az.mk (below_step (by repeat (first | (with_reducible first | exact HB.out | apply zq2 | apply zq1 | apply zqd) | exact HB.out)) hb); have BP := Az.mk hbox; have nd_ := Az.mk (blk_below (g := gb) (o := .cells #[.int .i64 a0_0, .slice A0_1 l0_1.length c0_1, .slice A0_2 l0_2.length c0_2, .slice A0_3 l0_3.length c0_3, .slice A0_4 l0_4.length c0_4] 28 (0, 0)) (by (with_reducible repeat (first | refine zq6 ?_ _ | refine zq8 ?_ | refine zq7 ?_ _)); exact BD.out) hb); clear HB BD; have HB := n0_; have BD := nd_; clear n0_ nd_ hb hbox hg) | ((with_reducible refine zqg (N := 4) rfl ?_); refine zqb ?hg (N := 4) ?hd (cs := #[.int .i64 0, .slice none 0 0, .slice none 0 0, .slice none 0 0, .slice none 0 0]) (t := 28) ?hr ?_; (case hd => rfl); (case hg => rfl); (case hr => first | (go_simp; done) | (go_simp; rfl)); intro gr hg w2 hbox hb; have n0_ := Az.mk (below_step (by repeat (first | (with_reducible first | exact HB.out | apply zq2 | apply zq1 | apply zqd) | exact HB.out)) hb); have BK := Az.mk hbox; have HGR : Az (w.heap.size ≤ gr) := ⟨by rw [hg]; exact (below_size (by repeat (first | (with_reducible first | exact HB.out | apply zq2 | apply zq1 | apply zqd) | exact HB.out)))⟩; have nd_ := Az.mk (blk_below (g := gb) (o := .cells #[.int .i64 a0_0, .slice A0_1 l0_1.length c0_1, .slice A0_2 l0_2.length c0_2, .slice A0_3 l0_3.length c0_3, .slice A0_4 l0_4.length c0_4] 28 (0, 0)) (by (with_reducible repeat (first | refine zq6 ?_ _ | refine zq8 ?_ | refine zq7 ?_ _)); exact BD.out) hb); have np_ := Az.mk (blk_below (g := gp) (o := .cells #[.bool a1_0, .int .i64 a1_1, .string a1_2] 54 (0, 0)) (by (with_reducible repeat (first | refine zq6 ?_ _ | refine zq8 ?_ | refine zq7 ?_ _)); exact BP.out) hb); clear HB BD BP; have HB := n0_; have BD := nd_; have BP := np_; clear n0_ nd_ np_ hb hbox hg; have hcd_0 : w2.cell? ⟨gb, 0, none⟩ = some (.int .i64 a0_0) := (zq4 BD.out 0).trans rfl; have hcd_1 : w2.cell? ⟨gb, 1, none⟩ = some (.slice A0_1 l0_1.length c0_1) := (zq4 BD.out 1).trans rfl; have hcd_2 : w2.cell? ⟨gb, 2, none⟩ = some (.slice A0_2 l0_2.length c0_2) := (zq4 BD.out 2).trans rfl; have hcd_3 : w2.cell? ⟨gb, 3, none⟩ = some (.slice A0_3 l0_3.length c0_3) := (zq4 BD.out 3).trans rfl; have hcd_4 : w2.cell? ⟨gb, 4, none⟩ = some (.slice A0_4 l0_4.length c0_4) := (zq4 BD.out 4).trans rfl; have hcd_0 : w2.cell? ⟨gb, 0, none⟩ = some (.int .i64 a0_0) := (zq4 BD.out 0).trans rfl; have hcd_1 : w2.cell? ⟨gb, 1, none⟩ = some (.slice A0_1 l0_1.length c0_1) := (zq4 BD.out 1).trans rfl; have hcd_2 : w2.cell? ⟨gb, 2, none⟩ = some (.slice A0_2 l0_2.length c0_2) := (zq4 BD.out 2).trans rfl; have hcd_3 : w2.cell? ⟨gb, 3, none⟩ = some (.slice A0_3 l0_3.length c0_3) := (zq4 BD.out 3).trans rfl; have hcd_4 : w2.cell? ⟨gb, 4, none⟩ = some (.slice A0_4 l0_4.length c0_4) := (zq4 BD.out 4).trans rfl) | (go_at_call 76; refine (HK.out _ (by repeat (first | (with_reducible first | exact HB.out | apply zq2 | apply zq1 | apply zqd) | exact HB.out)) gp (by (with_reducible repeat (first | refine zq6 ?_ _ | refine zq8 ?_ | refine zq7 ?_ _)); exact BP.out)).mono ?_; rintro e w12 ⟨v1, v2, v3, v4, rfl, ho1, ho2, ho3, ho4, hb⟩; obtain ⟨A1, c1, rfl⟩ := Kd.R_slice ho1; obtain ⟨A2, c2, rfl⟩ := Kd.R_slice ho2; obtain ⟨A3, c3, rfl⟩ := Kd.R_slice ho3; obtain ⟨A4, c4, rfl⟩ := Kd.R_slice ho4; have n0_ := Az.mk (below_step (by repeat (first | (with_reducible first | exact HB.out | apply zq2 | apply zq1 | apply zqd) | exact HB.out)) hb); have n1_ := Az.mk (blk_below (g := gr) (o := .cells #[.int .i64 0, .slice none 0 0, .slice none 0 0, .slice none 0 0, .slice none 0 0] 28 (0, 0)) (by (with_reducible repeat (first | refine zq6 ?_ _ | refine zq8 ?_ | refine zq7 ?_ _)); exact BK.out) hb); have HG5 : Az (gr < _) := ⟨blk_lt (by (with_reducible repeat (first | refine zq6 ?_ _ | refine zq8 ?_ | refine zq7 ?_ _)); exact BK.out)⟩; have HS5 : Az (w.heap.size ≤ _) := ⟨below_size (by repeat (first | (with_reducible first | exact HB.out | apply zq2 | apply zq1 | apply zqd) | exact HB.out))⟩; have HO1 := Az.mk ho1; have HO2 := Az.mk ho2; have HO3 := Az.mk ho3; have HO4 := Az.mk ho4; clear HB BK; have HB := n0_; have BK := n1_; clear n0_ n1_ ho1 ho2 ho3 ho4 hb; have hcz_0 : w12.cell? ⟨gr, 0, none⟩ = some (.int .i64 0) := (zq4 BK.out 0).trans rfl; have hcz_1 : w12.cell? ⟨gr, 1, none⟩ = some (.slice none 0 0) := (zq4 BK.out 1).trans rfl; have hcz_2 : w12.cell? ⟨gr, 2, none⟩ = some (.slice none 0 0) := (zq4 BK.out 2).trans rfl; have hcz_3 : w12.cell? ⟨gr, 3, none⟩ = some (.slice none 0 0) := (zq4 BK.out 3).trans rfl; have hcz_4 : w12.cell? ⟨gr, 4, none⟩ = some (.slice none 0 0) := (zq4 BK.out 4).trans rfl; have hfz_0 := zq5 BK.out 0; have hfz_1 := zq5 BK.out 1; have hfz_2 := zq5 BK.out 2; have hfz_3 := zq5 BK.out 3; have hfz_4 := zq5 BK.out 4))
  have hset : ∀ {W : World} (h : Below w.heap.size w W) (j : Nat) (u : Value), Below w.heap.size w (W.setCell ⟨gr, j, none⟩ u) := fun h j u => zq3 h HGR.out
  refine bodyPost_ret (results_cell_row rfl _ _ gr 28 #[.int .i64 r1, .slice A1 r2.length c1, .slice A2 r3.length c2, .slice A3 r4.length c3, .slice A4 r5.length c4] (0, 0) _ rfl (by
    refine blk_put (cs := #[.int .i64 r1, .slice A1 r2.length c1, .slice A2 r3.length c2, .slice A3 r4.length c3, .slice none 0 0]) ?_ 4 _ rfl
    refine blk_put (cs := #[.int .i64 r1, .slice A1 r2.length c1, .slice A2 r3.length c2, .slice none 0 0, .slice none 0 0]) ?_ 3 _ rfl
    refine blk_put (cs := #[.int .i64 r1, .slice A1 r2.length c1, .slice none 0 0, .slice none 0 0, .slice none 0 0]) ?_ 2 _ rfl
    refine blk_put (cs := #[.int .i64 r1, .slice none 0 0, .slice none 0 0, .slice none 0 0, .slice none 0 0]) ?_ 1 _ rfl
    refine blk_put (cs := #[.int .i64 0, .slice none 0 0, .slice none 0 0, .slice none 0 0, .slice none 0 0]) ?_ 0 _ rfl
    exact BK.out) Try.underlying28 rfl (by kernel_rfl)) rfl ?_
  exact ⟨_, _, _, _, rfl, Kd.R_lower (R_setOwn (R_setOwn (R_setOwn (R_setOwn (R_setOwn HO1.out HG5.out 0 _) HG5.out 1 _) HG5.out 2 _) HG5.out 3 _) HG5.out 4 _) HS5.out,
    Kd.R_lower (R_setOwn (R_setOwn (R_setOwn (R_setOwn (R_setOwn HO2.out HG5.out 0 _) HG5.out 1 _) HG5.out 2 _) HG5.out 3 _) HG5.out 4 _) HS5.out,
    Kd.R_lower (R_setOwn (R_setOwn (R_setOwn (R_setOwn (R_setOwn HO3.out HG5.out 0 _) HG5.out 1 _) HG5.out 2 _) HG5.out 3 _) HG5.out 4 _) HS5.out,
    Kd.R_lower (R_setOwn (R_setOwn (R_setOwn (R_setOwn (R_setOwn HO4.out HG5.out 0 _) HG5.out 1 _) HG5.out 2 _) HG5.out 3 _) HG5.out 4 _) HS5.out,
    hset (hset (hset (hset (hset HB.out 0 _) 1 _) 2 _) 3 _) 4 _⟩
end Go.Proofs.Ytkgpnloghmbmlaa.Print
namespace Go.Proofs.Ytkgpnloghmbmlaa.Hd
open Go.RowKit Go.Proofs.Ytkgpnloghmbmlaa.Print Go.Proofs.YtkgpnloghmbmlaaW.PrintWords Go.Proofs.Ytkgpnloghmbmlaa.Pure Go.Proofs.Ytkgpnloghmbmlaa.Drv
set_option linter.unusedVariables false
set_option linter.unusedSimpArgs false
theorem come_eq {st : Int} {l1 l2 : List ByteArray} {l3 : List Bool} {l4 : List S54} {p : S54} (hp : putB p = true) (h1 : l1.length = 12) (h2 : l2.length = 2) (h3 : l3.length = 12) :
    spec_l3Come.f st l1 l2 l3 l4 p.f0 p.f1 p.f2 = some (st, comeSl p l1, comeRg p l2, comeSp p l3, l4) := by
  unfold putB at hp
  unfold spec_l3Come.f comeSl comeRg comeSp
  by_cases h : p.f0 = true
  · rw [if_pos h, decide_eq_true_iff] at hp
    rw [if_pos h, if_pos h, if_pos h, if_pos h, if_pos (by omega), if_pos (by omega)]
  · rw [if_neg h, decide_eq_true_iff] at hp
    rw [if_neg h, if_neg h, if_neg h, if_neg h, if_pos (by omega), if_pos (by omega), if_pos (by omega)]
theorem come_len {l1 l2 : List ByteArray} {l3 : List Bool} {p : S54} : (comeSl p l1).length = l1.length ∧ (comeRg p l2).length = l2.length ∧ (comeSp p l3).length = l3.length := by
  unfold comeSl comeRg comeSp
  refine ⟨?_, ?_, ?_⟩ <;> split <;> simp
theorem flush_l0 {st : Int} {l4 : List S54} (hl : l4.length ≤ 1048576) (hp : ∀ x ∈ l4, putB x = true) (d : Nat) : ∀ (i : Nat) (l1 l2 : List ByteArray) (l3 : List Bool), i + d = l4.length → l1.length = 12 → l2.length = 2 → l3.length = 12 →
    Ev (fun k => spec_l3Flush.l0 k (i : Int) st l1 l2 l3 l4) (st, (comeAll (l4.drop i) (l3, l1, l2)).2.1, (comeAll (l4.drop i) (l3, l1, l2)).2.2, (comeAll (l4.drop i) (l3, l1, l2)).1, []) := by
  induction d with
  | zero =>
    intro i l1 l2 l3 hi h1 h2 h3
    rw [List.drop_eq_nil_of_le (by omega)]
    refine Ev.next ?_
    simp only [spec_l3Flush.l0]
    exact Ev.neg (by omega) (Ev.ret rfl)
  | succ d ih =>
    intro i l1 l2 l3 hi h1 h2 h3
    have hlt : i < l4.length := by omega
    have e : wrap64 ((i : Int) + 1) = ((i + 1 : Nat) : Int) := by rw [wrap_ok (by omega)]; omega
    have hx : rd_T54 l4 (i : Int) = l4[i] := by simp [rd_T54, List.getD, hlt]
    have hc := come_len (l1 := l1) (l2 := l2) (l3 := l3) (p := l4[i])
    have hih := ih (i + 1) (comeSl l4[i] l1) (comeRg l4[i] l2) (comeSp l4[i] l3) (by omega) (hc.1.trans h1) (hc.2.1.trans h2) (hc.2.2.trans h3)
    rw [List.drop_eq_getElem_cons hlt]
    refine Ev.next ?_
    simp only [spec_l3Flush.l0, e, hx]
    clear e hx
    exact Ev.pos (by omega) (Ev.pos (by omega) (Ev.take (come_eq (hp _ (List.getElem_mem hlt)) h1 h2 h3) hih))
theorem flush_ev {st : Int} {l1 l2 : List ByteArray} {l3 : List Bool} {l4 : List S54} (hl : l4.length ≤ 1048576) (hp : ∀ x ∈ l4, putB x = true) (h1 : l1.length = 12) (h2 : l2.length = 2) (h3 : l3.length = 12) :
    Ev (fun k => spec_l3Flush.f k st l1 l2 l3 l4) (st, (comeAll l4 (l3, l1, l2)).2.1, (comeAll l4 (l3, l1, l2)).2.2, (comeAll l4 (l3, l1, l2)).1, []) := by
  unfold spec_l3Flush.f
  have h := flush_l0 (st := st) hl hp l4.length 0 l1 l2 l3 (Nat.zero_add _) h1 h2 h3
  rwa [List.drop_zero] at h
theorem good_put {st : Int} {l1 l2 : List ByteArray} {l3 : List Bool} {l4 : List S54} (h : Print.Good st l1 l2 l3 l4) : ∀ x ∈ l4, putB x = true := fun x hx => by
  have h1 := h.wa
  rw [List.any_eq_false] at h1
  simpa using h1 x hx
def GoodD (D : Dd) : Prop := Print.Good D.st D.l1 D.l2 D.l3 D.l4
instance (D : Dd) : Decidable (GoodD D) := by unfold GoodD; infer_instance
def noD : Dd := ⟨0, [], [], [], []⟩
def comeD (D : Dd) : Dd := ⟨D.st, (comeAll D.l4 (D.l3, D.l1, D.l2)).2.1, (comeAll D.l4 (D.l3, D.l1, D.l2)).2.2, (comeAll D.l4 (D.l3, D.l1, D.l2)).1, []⟩
def flushD (D : Dd) : Dd := if GoodD D then comeD D else noD
def laidD (D : Dd) (p : S54) : Dd := if D.st = 1 then D else if D.l4.length = 40 then { comeD D with l4 := [p] } else { D with l4 := D.l4 ++ [p] }
def putD (D : Dd) (p : S54) : Dd := if GoodD D ∧ putB p = true then laidD D p else noD
theorem fits_good {D : Dd} (h : GoodD D) : FitsD D := ⟨by have := h.sh.2.1; omega, by have := h.sh.2.2.1; omega, by have := h.sh.2.2.2.1; omega, by have := h.sh.2.2.2.2; omega⟩
theorem fits_no : FitsD noD := ⟨by simp [noD], by simp [noD], by simp [noD], by simp [noD]⟩
theorem implFlush_eq (D : Dd) : impl_DiskFlush.f D.st D.l1 D.l2 D.l3 D.l4 = some ((flushD D).st, (flushD D).l1, (flushD D).l2, (flushD D).l3, (flushD D).l4) := by
  unfold impl_DiskFlush.f flushD
  by_cases h : GoodD D
  · have h' : Print.Good D.st D.l1 D.l2 D.l3 D.l4 := h
    rw [if_pos h', if_pos h]
    rfl
  · have h' : ¬ Print.Good D.st D.l1 D.l2 D.l3 D.l4 := h
    rw [if_neg h', if_neg h]
    rfl
theorem implPut_eq (D : Dd) (p : S54) : impl_DiskPut.f D.st D.l1 D.l2 D.l3 D.l4 p.f0 p.f1 p.f2 = some ((putD D p).st, (putD D p).l1, (putD D p).l2, (putD D p).l3, (putD D p).l4) := by
  unfold impl_DiskPut.f putD
  by_cases h : GoodD D ∧ putB p = true
  · have h' : Print.Good D.st D.l1 D.l2 D.l3 D.l4 ∧ putB ⟨p.f0, p.f1, p.f2⟩ = true := h
    rw [if_pos h', if_pos h]
    unfold putF laidD
    by_cases h1 : D.st = 1
    · simp only [if_pos h1]
    · by_cases h2 : D.l4.length = 40
      · simp only [if_neg h1, if_pos h2]
        rfl
      · simp only [if_neg h1, if_neg h2]
  · have h' : ¬ (Print.Good D.st D.l1 D.l2 D.l3 D.l4 ∧ putB ⟨p.f0, p.f1, p.f2⟩ = true) := h
    rw [if_neg h', if_neg h]
    rfl
theorem implFlush_call {w : World} {M : Mm} {D : Dd} (h : Rd w M D) : Calls Try.prog 35 #[.agg (cD M D)] w (Gives (flushD D) w) :=
  (impl_DiskFlush.calls (hr0_1 := h.r1) (hc0_1 := h.h1) (hr0_2 := h.r2) (hc0_2 := h.h2) (hr0_3 := h.r3) (hc0_3 := h.h3) (hr0_4 := h.r4) (hc0_4 := h.h4) (h := implFlush_eq D)).mono fun e w' hh => gives_of hh
def cP (p : S54) : Array Value := #[.bool p.f0, .int .i64 p.f1, .string p.f2]
theorem implPut_call {w : World} {M : Mm} {D : Dd} {p : S54} (h : Rd w M D) : Calls Try.prog 38 #[.agg (cD M D), .agg (cP p)] w (Gives (putD D p) w) :=
  (impl_DiskPut.calls (hr0_1 := h.r1) (hc0_1 := h.h1) (hr0_2 := h.r2) (hc0_2 := h.h2) (hr0_3 := h.r3) (hc0_3 := h.h3) (hr0_4 := h.r4) (hc0_4 := h.h4) (h := implPut_eq D p)).mono fun e w' hh => gives_of hh
structure Da where
  st : Int
  l1 : List ByteArray
  l2 : List ByteArray
  l3 : List Bool
  l4 : List S65
structure RdA (w : World) (M : Mm) (D : Da) : Prop where
  r1 : Kd.C Kd.string w M.A1 D.l1.length D.l1
  h1 : D.l1.length ≤ M.c1
  r2 : Kd.C Kd.string w M.A2 D.l2.length D.l2
  h2 : D.l2.length ≤ M.c2
  r3 : Kd.C Kd.bool w M.A3 D.l3.length D.l3
  h3 : D.l3.length ≤ M.c3
  r4 : Kd.C k65 w M.A4 D.l4.length D.l4
  h4 : D.l4.length ≤ M.c4
end Go.Proofs.Ytkgpnloghmbmlaa.Hd
namespace Go.Proofs.Ytkgpnloghmbmlaa.Hd
open Go.RowKit Go.Proofs.Ytkgpnloghmbmlaa.Print Go.Proofs.YtkgpnloghmbmlaaW.PrintWords Go.Proofs.YtkgpnloghmbmlaaW.PrintLast Go.Proofs.YtkgpnloghmbmlaaW.PrintMore Go.Proofs.Ytkgpnloghmbmlaa.Pure
set_option linter.unusedVariables false
set_option linter.unusedSimpArgs false
theorem cD_one (M : Mm) (D : Dd) : (cD M D).all (·.oneCell') = true := by simp [cD, Value.oneCell']
theorem sizeE28 : (Try.prog.info? 28).map (·.size) = some 5 := by kernel_rfl
theorem sizeE54 : (Try.prog.info? 54).map (·.size) = some 3 := by kernel_rfl
end Go.Proofs.Ytkgpnloghmbmlaa.Hd
