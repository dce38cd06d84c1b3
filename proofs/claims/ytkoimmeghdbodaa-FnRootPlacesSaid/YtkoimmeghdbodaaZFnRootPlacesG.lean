/- Proved, with what follows on it: the row of the law FnRootPlaces. Conditions: the row's alone. Texts of this session and words that the kit's print laid for this seat, merged and cut by shrink.py, a program of this session. -/
import Derived.Below
import Derived.ChangeOld
import Derived.OpenShut
import Derived.ProofKit
import Derived.ShutString
import Derived.SizedLaws
import Derived.WalkKit
import Derived.Test.YtkoimmeghdbodaaRows
import Derived.Test.YtkoimmeghdbodaaZFnRootPlacesF
namespace Go.Proofs.Ytkoimmeghdbodaa.Print
open Go.RowKit Go.Proofs.YtkoimmeghdbodaaW.PrintWords Go.Proofs.YtkoimmeghdbodaaW.PrintLast Go.Proofs.YtkoimmeghdbodaaW.PrintMore Go.Proofs.Ytkoimmeghdbodaa.Pure
attribute [local go_sem] max2_int min2_int max_two min_two max_three min_three max_four min_four
set_option linter.unusedVariables false
set_option linter.unusedSimpArgs false
open Classical in
noncomputable def sRootOk.f (k : Nat) (a0 : Int) (a1_0 : Int) (l1_1 : List S65) : Option Bool := if FitM l1_1 then some (rootB a0 a1_0 l1_1) else none
theorem sRootOk.mono : ∀ a0 a1 a2 k, LeO (sRootOk.f k a0 a1 a2) (sRootOk.f (k + 1) a0 a1 a2) := fun _ _ _ _ _ h => h
theorem sRootOk.calls (k : Nat) (a0 : Int) (a1_0 : Int) (A1_1 : Option Addr) (c1_1 : Nat) (l1_1 : List (S65)) (r : Bool) (w : World) (hr1_1 : Kd.C k65 w A1_1 l1_1.length l1_1) (hc1_1 : l1_1.length ≤ c1_1) (h : sRootOk.f k a0 a1_0 l1_1 = some r) :
    Calls Try.prog 36 #[.int .i64 a0, .agg #[.int .i64 a1_0, .slice A1_1 l1_1.length c1_1]] w fun e w' => e = .returned (.bool r) ∧ Below w.heap.size w w' := by
  unfold sRootOk.f at h
  by_cases hF : FitM l1_1
  · rw [if_pos hF] at h
    cases h
    exact sRoot_call a0 a1_0 A1_1 c1_1 l1_1 w hr1_1 hc1_1 hF
  · rw [if_neg hF] at h
    cases h
mutual
def sRPlaces.l0 : Nat → Int → List (S37) → List (S29) → Int → Option ((List (S37)))
  | 0, _, _, _, _ => none
  | k + 1, x0, x5, x6, x7 => if x7 < x0 then (sRPlaces.l1 k x0 x5 x6 x7 0) else (some x5)
def sRPlaces.l1 : Nat → Int → List (S37) → List (S29) → Int → Int → Option ((List (S37)))
  | 0, _, _, _, _, _ => none
  | k + 1, x0, x5, x6, x7, x8 => if x8 < 12 then (sRPlaces.l2 k x0 x5 x6 x7 x8 false 0 0 0 (([(⟨x7, x8⟩ : S37)] : List (S37)))) else (sRPlaces.l0 k x0 x5 x6 (wrap64 (x7 + 1)))
def sRPlaces.l2 : Nat → Int → List (S37) → List (S29) → Int → Int → Bool → Int → Int → Int → List (S37) → Option ((List (S37)))
  | 0, _, _, _, _, _, _, _, _, _, _ => none
  | k + 1, x0, x5, x6, x7, x8, x10, x11, x606000, x606001, x606002 => if x11 < (x6.length : Int) then (if x10 = true then (sRPlaces.l2 k x0 x5 x6 x7 x8 true (wrap64 (x11 + 1)) x606000 x606001 x606002) else (if 0 ≤ x11 then ((spec_l2Meet.f k x606000 x606001 x606002 ((rd_T29 x6 x11).f0) ((rd_T29 x6 x11).f1) ((rd_T29 x6 x11).f2)).bind fun t607 => (sRPlaces.l2 k x0 x5 x6 x7 x8 t607 (wrap64 (x11 + 1)) x606000 x606001 x606002)) else (none))) else (if x10 = true then (if x5.length < 8796093022208 then (sRPlaces.l1 k x0 (x5 ++ [(⟨x7, x8⟩ : S37)]) x6 x7 (wrap64 (x8 + 1))) else (none)) else (sRPlaces.l1 k x0 x5 x6 x7 (wrap64 (x8 + 1))))
end
noncomputable def sRPlaces.f (k : Nat) (a0 : Int) (a1_0 : Int) (l1_1 : List (S65)) : Option ((List (S37))) := (some (([] : List (S37)) : List (S37))).bind fun y595 => ((sRootOk.f k a0 a1_0 l1_1).bind fun t598 => (if t598 = true then ((spec_l2All.f k a1_0 l1_1).bind fun t599 => (sRPlaces.l0 k a0 y595 t599 0)) else (some y595)))
theorem sRPlaces.mono_l : ∀ k, (∀ y0 y1 y2 y3, LeO (sRPlaces.l0 k y0 y1 y2 y3) (sRPlaces.l0 (k + 1) y0 y1 y2 y3)) ∧ (∀ y0 y1 y2 y3 y4, LeO (sRPlaces.l1 k y0 y1 y2 y3 y4) (sRPlaces.l1 (k + 1) y0 y1 y2 y3 y4)) ∧ (∀ y0 y1 y2 y3 y4 y5 y6 y7 y8 y9, LeO (sRPlaces.l2 k y0 y1 y2 y3 y4 y5 y6 y7 y8 y9) (sRPlaces.l2 (k + 1) y0 y1 y2 y3 y4 y5 y6 y7 y8 y9))
  | 0 => ⟨fun _ _ _ _ r h => by simp [sRPlaces.l0] at h, fun _ _ _ _ _ r h => by simp [sRPlaces.l1] at h, fun _ _ _ _ _ _ _ _ _ _ r h => by simp [sRPlaces.l2] at h⟩
  | k + 1 => by
    obtain ⟨ih0, ih1, ih2⟩ := sRPlaces.mono_l k
    refine ⟨?_, ?_, ?_⟩
    · intro y0 y1 y2 y3
      unfold sRPlaces.l0
      repeat' first
      | (with_reducible exact ih0 _ _ _ _)
      | (with_reducible exact ih1 _ _ _ _ _)
      | (with_reducible exact ih2 _ _ _ _ _ _ _ _ _ _)
      | (with_reducible exact sRootOk.mono _ _ _ _)
      | (with_reducible exact spec_l2All.mono _ _ _)
      | (with_reducible exact spec_l2Meet.mono _ _ _ _ _ _ _)
      | (with_reducible exact LeO.refl _)
      | (with_reducible exact LeO.none _)
      | (with_reducible refine LeO.ite ?_ ?_)
      | (with_reducible refine LeO.bind ?_ (fun _ => ?_))
      | exact ih0 _ _ _ _
      | exact ih1 _ _ _ _ _
      | exact ih2 _ _ _ _ _ _ _ _ _ _
      | exact sRootOk.mono _ _ _ _
      | exact spec_l2All.mono _ _ _
      | exact spec_l2Meet.mono _ _ _ _ _ _ _
      | exact LeO.none _
      | refine LeO.ite ?_ ?_
      | refine LeO.bind ?_ (fun _ => ?_)
    · intro y0 y1 y2 y3 y4
      unfold sRPlaces.l1
      repeat' first
      | (with_reducible exact ih0 _ _ _ _)
      | (with_reducible exact ih1 _ _ _ _ _)
      | (with_reducible exact ih2 _ _ _ _ _ _ _ _ _ _)
      | (with_reducible exact sRootOk.mono _ _ _ _)
      | (with_reducible exact spec_l2All.mono _ _ _)
      | (with_reducible exact spec_l2Meet.mono _ _ _ _ _ _ _)
      | (with_reducible exact LeO.refl _)
      | (with_reducible exact LeO.none _)
      | (with_reducible refine LeO.ite ?_ ?_)
      | (with_reducible refine LeO.bind ?_ (fun _ => ?_))
      | exact ih0 _ _ _ _
      | exact ih1 _ _ _ _ _
      | exact ih2 _ _ _ _ _ _ _ _ _ _
      | exact sRootOk.mono _ _ _ _
      | exact spec_l2All.mono _ _ _
      | exact spec_l2Meet.mono _ _ _ _ _ _ _
      | exact LeO.none _
      | refine LeO.ite ?_ ?_
      | refine LeO.bind ?_ (fun _ => ?_)
    · intro y0 y1 y2 y3 y4 y5 y6 y7 y8 y9
      unfold sRPlaces.l2
      repeat' first
      | (with_reducible exact ih0 _ _ _ _)
      | (with_reducible exact ih1 _ _ _ _ _)
      | (with_reducible exact ih2 _ _ _ _ _ _ _ _ _ _)
      | (with_reducible exact sRootOk.mono _ _ _ _)
      | (with_reducible exact spec_l2All.mono _ _ _)
      | (with_reducible exact spec_l2Meet.mono _ _ _ _ _ _ _)
      | (with_reducible exact LeO.refl _)
      | (with_reducible exact LeO.none _)
      | (with_reducible refine LeO.ite ?_ ?_)
      | (with_reducible refine LeO.bind ?_ (fun _ => ?_))
      | exact ih0 _ _ _ _
      | exact ih1 _ _ _ _ _
      | exact ih2 _ _ _ _ _ _ _ _ _ _
      | exact sRootOk.mono _ _ _ _
      | exact spec_l2All.mono _ _ _
      | exact spec_l2Meet.mono _ _ _ _ _ _ _
      | exact LeO.none _
      | refine LeO.ite ?_ ?_
      | refine LeO.bind ?_ (fun _ => ?_)
theorem sRPlaces.mono : ∀ a0 a1 a2 k, LeO (sRPlaces.f k a0 a1 a2) (sRPlaces.f (k + 1) a0 a1 a2) := by
  intro a0 a1 a2 k
  obtain ⟨ih0, ih1, ih2⟩ := sRPlaces.mono_l k
  unfold sRPlaces.f
  repeat' first
      | (with_reducible exact ih0 _ _ _ _)
      | (with_reducible exact ih1 _ _ _ _ _)
      | (with_reducible exact ih2 _ _ _ _ _ _ _ _ _ _)
      | (with_reducible exact sRootOk.mono _ _ _ _)
      | (with_reducible exact spec_l2All.mono _ _ _)
      | (with_reducible exact spec_l2Meet.mono _ _ _ _ _ _ _)
      | (with_reducible exact LeO.refl _)
      | (with_reducible exact LeO.none _)
      | (with_reducible refine LeO.ite ?_ ?_)
      | (with_reducible refine LeO.bind ?_ (fun _ => ?_))
      | exact ih0 _ _ _ _
      | exact ih1 _ _ _ _ _
      | exact ih2 _ _ _ _ _ _ _ _ _ _
      | exact sRootOk.mono _ _ _ _
      | exact spec_l2All.mono _ _ _
      | exact spec_l2Meet.mono _ _ _ _ _ _ _
      | exact LeO.none _
      | refine LeO.ite ?_ ?_
      | refine LeO.bind ?_ (fun _ => ?_)
def sRPlaces.T16 : Bool × List (List Nat × List Nat) := (true, [([], []), ([0], [0]), ([1], [1]), ([1], [1]), ([1], [1]), ([3, 4, 1], [1, 3, 4]), ([5, 1], [1, 5]), ([2, 6, 1, 1], [1, 2, 6]), ([1, 7], [1, 7]), ([8, 7, 0, 1, 2, 3, 4, 5, 6, 7, 8], [0, 8])])
def sRPlaces.B16 : List Nat := [0, 1, 3, 3, 3, 27, 59, 127, 255, 511]
theorem sRPlaces.tab16 : rtab .any (opsOf Try.f44 16) = sRPlaces.T16 := by kernel_rfl
theorem sRPlaces.bits16 : waitsOk sRPlaces.T16.2 sRPlaces.B16 = true := by kernel_rfl
set_option maxHeartbeats 8000000 in
set_option maxRecDepth 100000 in
theorem sRPlaces.calls (k : Nat) (a0 : Int) (a1_0 : Int) (A1_1 : Option Addr) (c1_1 : Nat) (l1_1 : List (S65)) (r : List (S37)) (w : World) (hr1_1 : Kd.C k65 w A1_1 l1_1.length l1_1) (hc1_1 : l1_1.length ≤ c1_1) (h : sRPlaces.f k a0 a1_0 l1_1 = some r) :
    Calls Try.prog 44 #[.int .i64 a0, .agg #[.int .i64 a1_0, .slice A1_1 l1_1.length c1_1]] w fun e w' => ∃ v0_ : Value, e = .returned (v0_) ∧ Kd.R k37 37 w' w.heap.size (fun _ => True) v0_ r ∧ Below w.heap.size w w' := by
  have hu57 := Try.underlying57
  have hu37 := Try.underlying37
  have hu29 := Try.underlying29
  have HR1_1 := Az.mk hr1_1
  have HC1_1 := Az.mk hc1_1
  clear hr1_1 hc1_1
  have HB := Az.mk (Below.refl w.heap.size w)
  have H : ((some (([] : List (S37)) : List (S37))).bind fun y595 => ((sRootOk.f k a0 a1_0 l1_1).bind fun t598 => (if t598 = true then ((spec_l2All.f k a1_0 l1_1).bind fun t599 => (sRPlaces.l0 k a0 y595 t599 0)) else (some y595)))) = some r := h
  clear h
  obtain ⟨y595, hy595⟩ : ∃ y_ : List (S37), y_ = (([] : List (S37))) := ⟨_, rfl⟩
  replace H : ((sRootOk.f k a0 a1_0 l1_1).bind fun t598 => (if t598 = true then ((spec_l2All.f k a1_0 l1_1).bind fun t599 => (sRPlaces.l0 k a0 y595 t599 0)) else (some y595))) = some r := by first | (rw [hy595]; with_reducible exact H) | (have H2_ := (Option.bind_some _ _).symm.trans H; rw [hy595]; with_reducible exact H2_) | (have H2_ := (Option.bind_some _ _).symm.trans H; with_reducible exact H2_) | with_reducible exact H | (rw [hy595]; exact H) | exact H
  have Ny595 := Az.mk hy595
  clear hy595
  replace H := Option.bind_eq_some_iff.mp H
  obtain ⟨t598, A30, H⟩ := H
  replace H : (if t598 = true then ((spec_l2All.f k a1_0 l1_1).bind fun t599 => (sRPlaces.l0 k a0 y595 t599 0)) else (some y595)) = some r := H
  have A3 := Az.mk A30
  clear A30
  by_cases c4 : t598 = true
  · subst c4
    have H1 : ((spec_l2All.f k a1_0 l1_1).bind fun t599 => (sRPlaces.l0 k a0 y595 t599 0)) = some r := by rw [if_pos rfl] at H; exact H
    clear H
    have H := H1
    clear H1
    replace H := Option.bind_eq_some_iff.mp H
    obtain ⟨t599, A50, H⟩ := H
    replace H : (sRPlaces.l0 k a0 y595 t599 0) = some r := H
    have A5 := Az.mk A50
    clear A50
    have H' := Az.mk H
    clear H
    go_enter Try.func44, Try.ntmps44
    go_wp2_with (first | ((with_reducible refine zqg (N := 3) rfl ?_); refine zqb ?hg (N := 3) ?hd (cs := #[.int .i64 a1_0, .slice A1_1 l1_1.length c1_1]) (t := 57) ?hr ?_; (case hd => rfl); (case hg => rfl); (case hr => first | (go_simp; done) | (go_simp; rfl)); intro gb594 hg w6 hbox hb; have n0_ := Az.mk (below_step (by repeat (first | (with_reducible first | exact HB.out | apply zq2 | apply zq1 | apply zqd) | exact HB.out)) hb); have n1_ := Az.mk (hbox); have n2_ := Az.mk ((by rw [hg]; exact (below_size (by repeat (first | (with_reducible first | exact HB.out | apply zq2 | apply zq1 | apply zqd) | exact HB.out))) : w.heap.size ≤ gb594)); have n3_ := Az.mk ((by rw [hg]; exact (below_size (by repeat (first | (with_reducible first | exact HB.out | apply zq2 | apply zq1 | apply zqd) | exact HB.out))) : w.heap.size ≤ gb594)); clear HB; have HB := n0_; have BK594 := n1_; have GW594 := n2_; have GE594 := n3_; clear n0_ n1_ n2_ n3_; clear hb hbox hg) | ((with_reducible refine zqg (N := 12) rfl ?_); refine Kd.R_lit k37 _ 37 ?hg (N := 12) ?hd (xs := ([] : List (S37))) (inner := []) (ok := fun _ => True) (okp := fun _ => True) ?hr ?hp (fun _ hk => hk) trivial (Below.refl _ _) (Nat.le_refl _) (by simp) ?_; (case hd => rfl); (case hg => rfl); (case hr => first | (go_simp; done) | (go_simp; rfl)); (case hp => exact (Reps.none _ _)); intro v596 w7 ho8 hb hg_ hnew_; clear hg_ hnew_; (first | rw [← Ny595.out] at ho8 | (simp only [Int.reduceToNat] at ho8; rw [← Ny595.out] at ho8)); have n0_ := Az.mk (Kd.R_lower ho8 (below_size (by repeat (first | (with_reducible first | exact HB.out | apply zq2 | apply zq1 | apply zqd | refine zq3 ?_ GE594.out) | exact HB.out)))); have n1_ := Az.mk (blk_below (g := gb594) (o := .cells #[.int .i64 a1_0, .slice A1_1 l1_1.length c1_1] 57 (0, 0)) (by (with_reducible repeat (first | refine zq6 ?_ _ | refine zq8 ?_ | refine zq7 ?_ _)); exact BK594.out) hb); have n2_ := Az.mk (below_step (by repeat (first | (with_reducible first | exact HB.out | apply zq2 | apply zq1 | apply zqd | refine zq3 ?_ GE594.out) | exact HB.out)) hb); clear BK594; clear HB; have HO597 := n0_; have BK594 := n1_; have HB := n2_; clear n0_ n1_ n2_; clear hb ho8; have hcz9_0 : w7.cell? ⟨gb594, 0, none⟩ = some (.int .i64 a1_0) := (zq4 BK594.out 0).trans rfl; have hcz9_1 : w7.cell? ⟨gb594, 1, none⟩ = some (.slice A1_1 l1_1.length c1_1) := (zq4 BK594.out 1).trans rfl; have hfz9_0 := zq5 BK594.out 0; have hfz9_1 := zq5 BK594.out 1) | ((with_reducible refine gate_callee (f := 36) rfl ?_); refine zq9 (some 15) rfl rfl Try.func36 (by kernel_rfl) rfl #[.int .i64 a0, .agg #[.int .i64 a1_0, .slice A1_1 l1_1.length c1_1]] rfl (by (try simp only [List.map_toArray, List.map_cons, List.map_nil]); first | done | rfl | (simp only [List.length_drop, List.length_take]; rfl)) ?_; (with_reducible refine (sRootOk.calls k a0 a1_0 _ _ l1_1 true _ ?side1 ?side2 A3.out).mono ?_); (case side1 => repeat (first | exact (Kd.C_below HR1_1.out HB.out) | (with_reducible refine Kd.C_alloc ?_ _) | (with_reducible refine Kd.C_drewN ?_ _) | (with_reducible refine Kd.C_drew ?_))); (case side2 => exact HC1_1.out); rintro e w10 ⟨rfl, hb⟩; refine ⟨_, rfl, ?_⟩; have n0_ := Az.mk (Kd.R_below (by (with_reducible repeat (first | apply Kd.R_alloc | apply Kd.R_drewN | apply Kd.R_drew)); exact HO597.out) hb); have n1_ := Az.mk (blk_below (g := gb594) (o := .cells #[.int .i64 a1_0, .slice A1_1 l1_1.length c1_1] 57 (0, 0)) (by (with_reducible repeat (first | refine zq6 ?_ _ | refine zq8 ?_ | refine zq7 ?_ _)); exact BK594.out) hb); have n2_ := Az.mk (below_step (by repeat (first | (with_reducible first | exact HB.out | apply zq2 | apply zq1 | apply zqd | refine zq3 ?_ GE594.out) | exact HB.out)) hb); clear HO597; clear BK594; clear HB; have HO597 := n0_; have BK594 := n1_; have HB := n2_; clear n0_ n1_ n2_; (try clear hb); (try clear hb2); (try clear hk); (try clear hi); have hcz11_0 : w10.cell? ⟨gb594, 0, none⟩ = some (.int .i64 a1_0) := (zq4 BK594.out 0).trans rfl; have hcz11_1 : w10.cell? ⟨gb594, 1, none⟩ = some (.slice A1_1 l1_1.length c1_1) := (zq4 BK594.out 1).trans rfl; have hfz11_0 := zq5 BK594.out 0; have hfz11_1 := zq5 BK594.out 1) | ((with_reducible refine gate_callee (f := 86) rfl ?_); refine zq9 (some 19) rfl rfl Try.func86 (by kernel_rfl) rfl #[.agg #[.int .i64 a1_0, .slice A1_1 l1_1.length c1_1]] rfl (by (try simp only [List.map_toArray, List.map_cons, List.map_nil]); first | done | rfl | (simp only [List.length_drop, List.length_take]; rfl)) ?_; (with_reducible refine (spec_l2All.calls k a1_0 (fun k_ => k_ < w.heap.size) _ _ l1_1 t599 _ ?side1 A5.out).mono ?_); (case side1 => exact Kd.V_mk HC1_1.out (Kd.F_below (Kd.C_F k65_heap HR1_1.out) (by repeat (first | (with_reducible first | exact HB.out | apply zq2 | apply zq1 | apply zqd | refine zq3 ?_ GE594.out) | exact HB.out)))); rintro e w12 ⟨v600, rfl, ho0, hb⟩; refine ⟨_, rfl, ?_⟩; have n0_ := Az.mk (Kd.R_below (by (with_reducible repeat (first | apply Kd.R_alloc | apply Kd.R_drewN | apply Kd.R_drew)); exact HO597.out) hb); have n1_ := Az.mk (Kd.N_lower (Kd.N_mono (ok' := fun k_ => some k_ ≠ (v596 : Value).ownBlock ∧ k_ ≠ gb594) ho0 (fun k_ hk_ => ⟨Or.elim hk_ (fun hs_ => fun e_ => Nat.not_le.2 hs_ (Kd.R_base HO597.out k_ e_.symm)) (fun hn_ => (Kd.fresh' (Kd.R_lt (by (with_reducible repeat (first | apply Kd.R_alloc | apply Kd.R_drewN | apply Kd.R_drew)); exact HO597.out)) k_ hn_)), Or.elim hk_ (fun hs_ => fun e_ => Nat.not_le.2 hs_ (by rw [e_]; exact GW594.out)) (fun hn_ => (Kd.freshB (g := gb594) (o := .cells #[.int .i64 a1_0, .slice A1_1 l1_1.length c1_1] 57 (0, 0)) (by (with_reducible repeat (first | refine zq6 ?_ _ | refine zq8 ?_ | refine zq7 ?_ _)); exact BK594.out) k_ hn_))⟩)) (below_size (by repeat (first | (with_reducible first | exact HB.out | apply zq2 | apply zq1 | apply zqd | refine zq3 ?_ GE594.out) | exact HB.out)))); have n2_ := Az.mk (blk_below (g := gb594) (o := .cells #[.int .i64 a1_0, .slice A1_1 l1_1.length c1_1] 57 (0, 0)) (by (with_reducible repeat (first | refine zq6 ?_ _ | refine zq8 ?_ | refine zq7 ?_ _)); exact BK594.out) hb); have n3_ := Az.mk (below_step (by repeat (first | (with_reducible first | exact HB.out | apply zq2 | apply zq1 | apply zqd | refine zq3 ?_ GE594.out) | exact HB.out)) hb); clear HO597; clear BK594; clear HB; have HO597 := n0_; have HO601 := n1_; have BK594 := n2_; have HB := n3_; clear n0_ n1_ n2_ n3_; (try clear hb); (try clear hb2); (try clear hk); (try clear hi); (try clear ho0)))
    go_loopg [5, 7] k (fun kq v5 v7 w' => ∃ (x5_1 : List (S37)) (x7_1 : Int), v7 = .int .i64 x7_1 ∧ Az (sRPlaces.l0 kq a0 x5_1 t599 x7_1 = some r) ∧ Az (kq ≤ k) ∧ Az (Kd.R k37 37 w' w.heap.size (fun _ => True) v5 x5_1) ∧ Az (Kd.N k29 29 w' w.heap.size (fun k_ => some k_ ≠ (v5 : Value).ownBlock ∧ k_ ≠ gb594) v600 t599) ∧ Az (w'.heap[gb594]? = some (.cells #[.int .i64 a1_0, (.slice A1_1 l1_1.length c1_1)] 57 (0, 0))) ∧ Az (Below w.heap.size w w'))
    case atStart => exact ⟨(y595), (0), (by first | rfl | (simp; done) | (simp [*]; done)), H', ⟨Nat.le_refl _⟩, ⟨by (with_reducible repeat (first | apply Kd.R_alloc | apply Kd.R_drewN | apply Kd.R_drew)); exact HO597.out⟩, ⟨by (with_reducible repeat (first | apply Kd.N_alloc | apply Kd.N_drewN | apply Kd.N_drew)); exact HO601.out⟩, ⟨by (with_reducible repeat (first | refine zq6 ?_ _ | refine zq8 ?_ | refine zq7 ?_ _)); exact BK594.out⟩, ⟨by repeat (first | (with_reducible first | exact HB.out | apply zq2 | apply zq1 | apply zqd | refine zq3 ?_ GE594.out) | exact HB.out)⟩⟩
    case round =>
      clear H'
      try clear c1
      try clear p2
      try clear c3
      try clear c4
      try clear c8
      try clear hcz11_0
      try clear hcz11_1
      try clear hcz9_0
      try clear hcz9_1
      try clear hfz11_0
      try clear hfz11_1
      try clear hfz9_0
      try clear hfz9_1
      obtain ⟨x5_1, x7_1, rfl, HA, HK1, HO_5, HO_6, BK594, HB⟩ := hrel
      cases gk with
      | zero => exact absurd HA.out (by simp [sRPlaces.l0])
      | succ k1 =>
        have H := HA.out
        clear HA
        simp only [sRPlaces.l0] at H
        by_cases c13 : x7_1 < a0
        · rw [if_pos c13] at H
          have c13b0 : decide (x7_1 < a0) = true := decide_eq_true c13
          clear c13
          have H' := Az.mk H
          clear H
          go_wp2
          go_loopg [5, 8] k1 (fun kq v5 v8 w' => ∃ (x5_2 : List (S37)) (x8_2 : Int), v8 = .int .i64 x8_2 ∧ Az (sRPlaces.l1 kq a0 x5_2 t599 x7_1 x8_2 = some r) ∧ Az (kq ≤ k1) ∧ Az (Kd.R k37 37 w' w.heap.size (fun _ => True) v5 x5_2) ∧ Az (Kd.N k29 29 w' w.heap.size (fun k_ => some k_ ≠ (v5 : Value).ownBlock ∧ k_ ≠ gb594) v600 t599) ∧ Az (w'.heap[gb594]? = some (.cells #[.int .i64 a1_0, (.slice A1_1 l1_1.length c1_1)] 57 (0, 0))) ∧ Az (Below w.heap.size w w'))
          case atStart => exact ⟨(x5_1), (0), (by first | rfl | (simp; done) | (simp [*]; done)), H', ⟨Nat.le_refl _⟩, ⟨by (with_reducible repeat (first | apply Kd.R_alloc | apply Kd.R_drewN | apply Kd.R_drew)); exact HO_5.out⟩, ⟨by (with_reducible repeat (first | apply Kd.N_alloc | apply Kd.N_drewN | apply Kd.N_drew)); exact HO_6.out⟩, ⟨by (with_reducible repeat (first | refine zq6 ?_ _ | refine zq8 ?_ | refine zq7 ?_ _)); exact BK594.out⟩, ⟨by repeat (first | (with_reducible first | exact HB.out | apply zq2 | apply zq1 | apply zqd | refine zq3 ?_ GE594.out) | exact HB.out)⟩⟩
          case round =>
            clear H'
            try clear c1
            try clear p2
            try clear c3
            try clear c4
            try clear c8
            try clear c13
            try clear c13b0
            try clear hcz11_0
            try clear hcz11_1
            try clear hcz9_0
            try clear hcz9_1
            try clear hfz11_0
            try clear hfz11_1
            try clear hfz9_0
            try clear hfz9_1
            try clear p2
            obtain ⟨x5_2, x8_2, rfl, HA, HK2, HO_5, HO_6, BK594, HB⟩ := hrel
            cases gk with
            | zero => exact absurd HA.out (by simp [sRPlaces.l1])
            | succ k2 =>
              have H := HA.out
              clear HA
              simp only [sRPlaces.l1] at H
              by_cases c14 : x8_2 < 12
              · rw [if_pos c14] at H
                have c14b0 : decide (x8_2 < 12) = true := decide_eq_true c14
                clear c14
                obtain ⟨y602, hy602⟩ : ∃ y_ : List (S37), y_ = (([(⟨x7_1, x8_2⟩ : S37)] : List (S37))) := ⟨_, rfl⟩
                replace H : (sRPlaces.l2 k2 a0 x5_2 t599 x7_1 x8_2 false 0 0 0 y602) = some r := by first | (rw [hy602]; with_reducible exact H) | (have H2_ := (Option.bind_some _ _).symm.trans H; rw [hy602]; with_reducible exact H2_) | (have H2_ := (Option.bind_some _ _).symm.trans H; with_reducible exact H2_) | with_reducible exact H | (rw [hy602]; exact H) | exact H
                have Ny602 := Az.mk hy602
                clear hy602
                have H' := Az.mk H
                clear H
                go_wp2_with (first | ((with_reducible refine zqg (N := 32) rfl ?_); refine Kd.R_lit k37 _ 37 ?hg (N := 32) ?hd (xs := ([(⟨x7_1, x8_2⟩ : S37)] : List (S37))) (inner := [.int .i64 x7_1, .int .i64 x8_2]) (ok := fun _ => True) (okp := fun _ => True) ?hr ?hp (fun _ hk => hk) trivial (Below.refl _ _) (Nat.le_refl _) (by simp) ?_; (case hd => rfl); (case hg => rfl); (case hr => first | (go_simp; done) | (go_simp; rfl)); (case hp => exact (Reps.c2 (show Kd.M k37 _ _ _ (⟨x7_1, x8_2⟩ : S37) [.int .i64 x7_1, .int .i64 x8_2] from (k37_mkM _ _ _ (⟨x7_1, x8_2⟩ : S37) )) (Reps.none _ _))); intro v603 w15 ho16 hb hg_ hnew_; clear hg_ hnew_; (first | rw [← Ny602.out] at ho16 | (simp only [Int.reduceToNat] at ho16; rw [← Ny602.out] at ho16)); have n0_ := Az.mk (Kd.R_elder' (by (with_reducible repeat (first | apply Kd.R_alloc | apply Kd.R_drewN | apply Kd.R_drew)); exact HO_5.out) (Kd.R_base ho16) hb); have n1_ := Az.mk (Kd.N_elder' (by (with_reducible repeat (first | apply Kd.N_alloc | apply Kd.N_drewN | apply Kd.N_drew)); exact HO_6.out) (Kd.R_base ho16) hb); have n2_ := Az.mk (Kd.R_lower (Kd.R_new' ho16 (Kd.R_lt (by (with_reducible repeat (first | apply Kd.R_alloc | apply Kd.R_drewN | apply Kd.R_drew)); exact HO_5.out))) (below_size (by repeat (first | (with_reducible first | exact HB.out | apply zq2 | apply zq1 | apply zqd | refine zq3 ?_ GE594.out) | exact HB.out)))); have n3_ := Az.mk (blk_below (g := gb594) (o := .cells #[.int .i64 a1_0, .slice A1_1 l1_1.length c1_1] 57 (0, 0)) (by (with_reducible repeat (first | refine zq6 ?_ _ | refine zq8 ?_ | refine zq7 ?_ _)); exact BK594.out) hb); have n4_ := Az.mk (below_step (by repeat (first | (with_reducible first | exact HB.out | apply zq2 | apply zq1 | apply zqd | refine zq3 ?_ GE594.out) | exact HB.out)) hb); clear HO_5; clear HO_6; clear BK594; clear HB; have HO_5 := n0_; have HO_6 := n1_; have HO604 := n2_; have BK594 := n3_; have HB := n4_; clear n0_ n1_ n2_ n3_ n4_; clear hb ho16; obtain ⟨Ao17, co17, eo17⟩ := Kd.R_slice HO604.out; subst eo17) | ((with_reducible refine zqg (N := 9) rfl ?_); refine zqb ?hg (N := 9) ?hd (cs := #[.int .i64 0, .int .i64 0, .slice none 0 0]) (t := 29) ?hr ?_; (case hd => rfl); (case hg => rfl); (case hr => first | (go_simp; done) | (go_simp; rfl)); intro gb605 hg w18 hbox hb; have n0_ := Az.mk (Kd.R_below (by (with_reducible repeat (first | apply Kd.R_alloc | apply Kd.R_drewN | apply Kd.R_drew)); exact HO_5.out) hb); have n1_ := Az.mk (Kd.N_below (Kd.N_elderB (by (with_reducible repeat (first | apply Kd.N_alloc | apply Kd.N_drewN | apply Kd.N_drew)); exact HO_6.out) gb605 (Nat.le_of_eq hg.symm)) hb); have n2_ := Az.mk (Kd.R_below (by (with_reducible repeat (first | apply Kd.R_alloc | apply Kd.R_drewN | apply Kd.R_drew)); exact HO604.out) hb); have n3_ := Az.mk (blk_below (g := gb594) (o := .cells #[.int .i64 a1_0, .slice A1_1 l1_1.length c1_1] 57 (0, 0)) (by (with_reducible repeat (first | refine zq6 ?_ _ | refine zq8 ?_ | refine zq7 ?_ _)); exact BK594.out) hb); have n4_ := Az.mk (below_step (by repeat (first | (with_reducible first | exact HB.out | apply zq2 | apply zq1 | apply zqd | refine zq3 ?_ GE594.out) | exact HB.out)) hb); have n5_ := Az.mk (hbox); have n6_ := Az.mk ((by rw [hg]; exact (below_size (by repeat (first | (with_reducible first | exact HB.out | apply zq2 | apply zq1 | apply zqd | refine zq3 ?_ GE594.out) | exact HB.out))) : w.heap.size ≤ gb605)); have n7_ := Az.mk ((by rw [hg]; exact (below_size (by repeat (first | (with_reducible first | exact HB.out | apply zq2 | apply zq1 | apply zqd | refine zq3 ?_ GE594.out) | exact HB.out))) : w.heap.size ≤ gb605)); have n8_ := Az.mk ((by rw [hg]; exact Nat.ne_of_lt (blk_lt (g := gb594) (o := .cells #[.int .i64 a1_0, .slice A1_1 l1_1.length c1_1] 57 (0, 0)) (by (with_reducible repeat (first | refine zq6 ?_ _ | refine zq8 ?_ | refine zq7 ?_ _)); exact BK594.out)) : gb594 ≠ gb605)); have n9_ := Az.mk ((by rw [hg]; exact Nat.ne_of_gt (blk_lt (g := gb594) (o := .cells #[.int .i64 a1_0, .slice A1_1 l1_1.length c1_1] 57 (0, 0)) (by (with_reducible repeat (first | refine zq6 ?_ _ | refine zq8 ?_ | refine zq7 ?_ _)); exact BK594.out)) : gb605 ≠ gb594)); clear HO_5; clear HO_6; clear HO604; clear BK594; clear HB; have HO_5 := n0_; have HO_6 := n1_; have HO604 := n2_; have BK594 := n3_; have HB := n4_; have BK605 := n5_; have GW605 := n6_; have GE605 := n7_; have NB594_605 := n8_; have NB605_594 := n9_; clear n0_ n1_ n2_ n3_ n4_ n5_ n6_ n7_ n8_ n9_; clear hb hbox hg; have hnb19 := NB605_594.out; have hnc19 := NB594_605.out; have hcz20_0 : w18.cell? ⟨gb605, 0, none⟩ = some (.int .i64 0) := (zq4 BK605.out 0).trans rfl; have hcz20_1 : w18.cell? ⟨gb605, 1, none⟩ = some (.int .i64 0) := (zq4 BK605.out 1).trans rfl; have hcz20_2 : w18.cell? ⟨gb605, 2, none⟩ = some (.slice none 0 0) := (zq4 BK605.out 2).trans rfl; have hfz20_0 := zq5 BK605.out 0; have hfz20_1 := zq5 BK605.out 1; have hfz20_2 := zq5 BK605.out 2))
                go_loopg [10, 11] k2 (fun kq v10 v11 w' => ∃ (x10_3 : Bool) (x11_3 : Int), v10 = .bool x10_3 ∧ v11 = .int .i64 x11_3 ∧ Az (sRPlaces.l2 kq a0 x5_2 t599 x7_1 x8_2 x10_3 x11_3 0 0 y602 = some r) ∧ Az (kq ≤ k2) ∧ Az (Kd.R k37 37 w' w.heap.size (fun k_ => some k_ ≠ ((.slice Ao17 y602.length co17) : Value).ownBlock) u5 x5_2) ∧ Az (Kd.N k29 29 w' w.heap.size (fun k_ => some k_ ≠ (u5 : Value).ownBlock ∧ some k_ ≠ ((.slice Ao17 y602.length co17) : Value).ownBlock ∧ k_ ≠ gb594 ∧ k_ ≠ gb605) v600 t599) ∧ Az (Kd.R k37 37 w' w.heap.size (fun k_ => some k_ ≠ (u5 : Value).ownBlock) (.slice Ao17 y602.length co17) y602) ∧ Az (w'.heap[gb594]? = some (.cells #[.int .i64 a1_0, (.slice A1_1 l1_1.length c1_1)] 57 (0, 0))) ∧ Az (w'.heap[gb605]? = some (.cells #[.int .i64 0, .int .i64 0, (.slice Ao17 y602.length co17)] 29 (0, 0))) ∧ Az (Below w.heap.size w w'))
                case atStart => exact ⟨(false), (0), (by first | rfl | (simp; done) | (simp [*]; done)), (by first | rfl | (simp; done) | (simp [*]; done)), H', ⟨Nat.le_refl _⟩, ⟨by (with_reducible repeat (first | apply Kd.R_alloc | apply Kd.R_drewN | apply Kd.R_drew)); exact Kd.R_mono (Kd.R_far (p := ⟨gb605, 2, none⟩) (Kd.R_far (p := ⟨gb605, 1, none⟩) (Kd.R_far (p := ⟨gb605, 0, none⟩) (Kd.R_types HO_5.out BK605.out (by decide)) (fun _ hk => hk.2) (.int .i64 0)) (fun _ hk => hk.2) (.int .i64 0)) (fun _ hk => hk.2) (.slice Ao17 y602.length co17)) (fun _ hk => hk.1.2)⟩, ⟨by (with_reducible repeat (first | apply Kd.N_alloc | apply Kd.N_drewN | apply Kd.N_drew)); exact Kd.N_mono (Kd.N_far (p := ⟨gb605, 2, none⟩) (Kd.N_far (p := ⟨gb605, 1, none⟩) (Kd.N_far (p := ⟨gb605, 0, none⟩) (Kd.N_mono HO_6.out (fun k_ hk => (⟨hk, hk.2⟩ : _ ∧ k_ ≠ gb605))) (fun _ hk => hk.2) (.int .i64 0)) (fun _ hk => hk.2) (.int .i64 0)) (fun _ hk => hk.2) (.slice Ao17 y602.length co17)) (fun _ hk => ⟨hk.1.1.1.1, ⟨hk.1.1.2, ⟨hk.1.1.1.2, hk.1.2⟩⟩⟩)⟩, ⟨by (with_reducible repeat (first | apply Kd.R_alloc | apply Kd.R_drewN | apply Kd.R_drew)); exact Kd.R_mono (Kd.R_far (p := ⟨gb605, 2, none⟩) (Kd.R_far (p := ⟨gb605, 1, none⟩) (Kd.R_far (p := ⟨gb605, 0, none⟩) (Kd.R_types HO604.out BK605.out (by decide)) (fun _ hk => hk.2) (.int .i64 0)) (fun _ hk => hk.2) (.int .i64 0)) (fun _ hk => hk.2) (.slice Ao17 y602.length co17)) (fun _ hk => hk.1.2)⟩, ⟨by (with_reducible repeat (first | refine zq6 ?_ _ | refine zq8 ?_ | refine zq7 ?_ _)); refine blk_far ?_ NB594_605.out _; (with_reducible repeat (first | refine zq6 ?_ _ | refine zq8 ?_ | refine zq7 ?_ _)); refine blk_far ?_ NB594_605.out _; (with_reducible repeat (first | refine zq6 ?_ _ | refine zq8 ?_ | refine zq7 ?_ _)); refine blk_far ?_ NB594_605.out _; (with_reducible repeat (first | refine zq6 ?_ _ | refine zq8 ?_ | refine zq7 ?_ _)); exact BK594.out⟩, ⟨by (with_reducible repeat (first | refine zq6 ?_ _ | refine zq8 ?_ | refine zq7 ?_ _)); refine blk_put (cs := #[.int .i64 0, .int .i64 0, .slice none 0 0]) ?_ 2 _ rfl; (with_reducible repeat (first | refine zq6 ?_ _ | refine zq8 ?_ | refine zq7 ?_ _)); refine blk_put (cs := #[.int .i64 0, .int .i64 0, .slice none 0 0]) ?_ 1 _ rfl; (with_reducible repeat (first | refine zq6 ?_ _ | refine zq8 ?_ | refine zq7 ?_ _)); refine blk_put (cs := #[.int .i64 0, .int .i64 0, .slice none 0 0]) ?_ 0 _ rfl; (with_reducible repeat (first | refine zq6 ?_ _ | refine zq8 ?_ | refine zq7 ?_ _)); exact BK605.out⟩, ⟨by repeat (first | (with_reducible first | exact HB.out | apply zq2 | apply zq1 | apply zqd | refine zq3 ?_ GE594.out | refine zq3 ?_ GE605.out) | exact HB.out)⟩⟩
                case round =>
                  clear H'
                  try clear c1
                  try clear c2
                  try clear p2
                  try clear c3
                  try clear c4
                  try clear c8
                  try clear c13
                  try clear c13b0
                  try clear c14
                  try clear c14b0
                  try clear c19
                  try clear hcz11_0
                  try clear hcz11_1
                  try clear hcz20_0
                  try clear hcz20_1
                  try clear hcz20_2
                  try clear hcz9_0
                  try clear hcz9_1
                  try clear hfz11_0
                  try clear hfz11_1
                  try clear hfz20_0
                  try clear hfz20_1
                  try clear hfz20_2
                  try clear hfz9_0
                  try clear hfz9_1
                  try clear p2
                  obtain ⟨x10_3, x11_3, rfl, rfl, HA, HK3, HO_5, HO_6, HO_606002, BK594, BK605, HB⟩ := hrel
                  cases gk with
                  | zero => exact absurd HA.out (by simp [sRPlaces.l2])
                  | succ k3 =>
                    have H := HA.out
                    clear HA
                    simp only [sRPlaces.l2] at H
                    by_cases c21 : x11_3 < (t599.length : Int)
                    · rw [if_pos c21] at H
                      have c21b0 : decide (x11_3 < (t599.length : Int)) = true := decide_eq_true c21
                      clear c21
                      by_cases c22 : x10_3 = true
                      · subst c22
                        have H1 : (sRPlaces.l2 k3 a0 x5_2 t599 x7_1 x8_2 true (wrap64 (x11_3 + 1)) 0 0 y602) = some r := by rw [if_pos rfl] at H; exact H
                        clear H
                        have H := H1
                        clear H1
                        have H' := Az.mk H
                        clear H
                        obtain ⟨Ao23, co23, eo23⟩ := Kd.N_slice HO_6.out
                        subst eo23
                        try go_wp2
                        have n0_ := Az.mk (Kd.R_drew HO_5.out)
                        have n1_ := Az.mk (Kd.N_drew HO_6.out)
                        have n2_ := Az.mk (Kd.R_drew HO_606002.out)
                        have n3_ := Az.mk (zq8 BK594.out)
                        have n4_ := Az.mk (zq8 BK605.out)
                        have n5_ := Az.mk (zqd HB.out)
                        clear HO_5
                        clear HO_6
                        clear HO_606002
                        clear BK594
                        clear BK605
                        clear HB
                        have HO_5 := n0_
                        have HO_6 := n1_
                        have HO_606002 := n2_
                        have BK594 := n3_
                        have BK605 := n4_
                        have HB := n5_
                        clear n0_ n1_ n2_ n3_ n4_ n5_
                        refine start_ (n := 10) (S := fun w' => True) (ds := []) (bm 10 0) (by kernel_rfl) rfl rfl trivial (fun hHeld => ?_); refine with_tabW sRPlaces.tab16 sRPlaces.bits16 (fun HT_ HW_ => ?_)
                        generalize wr.drew = w24 at HO_5 HO_6 HO_606002 BK594 BK605 HB hHeld ⊢
                        refine zqp (i := 0) (N := some 40) (v := ?_) (a' := ?_) (bm 10 1) rfl rfl (any_of HT_.out (by kernel_rfl)) (fun _ _ _ h => h) (Or.inl ⟨by rfl, ?_⟩) ?_ ?_
                        rotate_left
                        · intro w'
                          go_simp
                          with_reducible rfl
                        rotate_left
                        · simp only [Act.put, zs1, zs2, zs3, i64_w, i32_w]
                          rfl
                        refine zqp (i := 1) (N := some 41) (v := ?_) (a' := ?_) (bm 10 3) rfl rfl (any_of HT_.out (by kernel_rfl)) (fun _ _ _ h => h) (Or.inl ⟨by rfl, ?_⟩) ?_ ?_
                        rotate_left
                        · intro w'
                          go_simp
                          with_reducible rfl
                        rotate_left
                        · simp only [Act.put, zs1, zs2, zs3, i64_w, i32_w]
                          rfl
                        refine zqp (i := 2) (N := some 42) (v := undef) (a' := ?_) (bm 10 7) rfl rfl (any_of HT_.out (by kernel_rfl)) (fun _ _ _ h => h) (Or.inr ⟨by rfl, rfl⟩) ?_ ?_
                        rotate_left
                        · simp only [Act.put, zs1, zs2, zs3, i64_w, i32_w]
                          rfl
                        refine zqp (i := 3) (N := some 43) (v := undef) (a' := ?_) (bm 10 15) rfl rfl (any_of HT_.out (by kernel_rfl)) (fun _ _ _ h => h) (Or.inr ⟨by rfl, rfl⟩) ?_ ?_
                        rotate_left
                        · simp only [Act.put, zs1, zs2, zs3, i64_w, i32_w]
                          rfl
                        refine zqp (i := 4) (N := some 44) (v := undef) (a' := ?_) (bm 10 31) rfl rfl (any_of HT_.out (by kernel_rfl)) (fun _ _ _ h => h) (Or.inr ⟨by rfl, rfl⟩) ?_ ?_
                        rotate_left
                        · simp only [Act.put, zs1, zs2, zs3, i64_w, i32_w]
                          rfl
                        refine zqp (i := 5) (N := some 45) (v := undef) (a' := ?_) (bm 10 63) rfl rfl (any_of HT_.out (by kernel_rfl)) (fun _ _ _ h => h) (Or.inr ⟨by rfl, rfl⟩) ?_ ?_
                        rotate_left
                        · simp only [Act.put, zs1, zs2, zs3, i64_w, i32_w]
                          rfl
                        refine zqp (i := 6) (N := some 46) (v := undef) (a' := ?_) (bm 10 127) rfl rfl (any_of HT_.out (by kernel_rfl)) (fun _ _ _ h => h) (Or.inr ⟨by rfl, rfl⟩) ?_ ?_
                        rotate_left
                        · simp only [Act.put, zs1, zs2, zs3, i64_w, i32_w]
                          rfl
                        refine zqp (i := 7) (N := some 47) (v := undef) (a' := ?_) (bm 10 255) rfl rfl (any_of HT_.out (by kernel_rfl)) (fun _ _ _ h => h) (Or.inr ⟨by rfl, rfl⟩) ?_ ?_
                        rotate_left
                        · simp only [Act.put, zs1, zs2, zs3, i64_w, i32_w]
                          rfl
                        refine zqp (i := 8) (N := some 48) (v := ?_) (a' := ?_) (bm 10 511) rfl rfl (any_of HT_.out (by kernel_rfl)) (fun _ _ _ h => h) (Or.inl ⟨by rfl, ?_⟩) ?_ ?_
                        rotate_left
                        · intro w'
                          go_simp
                          with_reducible rfl
                        rotate_left
                        · simp only [Act.put, zs1, zs2, zs3, i64_w, i32_w]
                          rfl
                        refine zqp (i := 9) (N := some 10) (v := ?_) (a' := ?_) (bm 10 1023) rfl rfl (any_of HT_.out (by kernel_rfl)) (fun _ _ _ h => h) (Or.inl ⟨by rfl, ?_⟩) ?_ ?_
                        rotate_left
                        · intro w'
                          go_simp
                          with_reducible rfl
                        rotate_left
                        · simp only [Act.put, zs1, zs2, zs3, i64_w, i32_w]
                          rfl
                        refine done_ (done_of HT_.out (by kernel_rfl)) ?_
                        try go_wp2
                        go_roundg k3
                        case measure => have := HK1.out; have := HK2.out; have := HK3.out; omega
                        case rel => exact ⟨(true), (wrap64 (x11_3 + 1)), (by first | rfl | (simp; done) | (simp [*]; done)), (by first | rfl | (simp; done) | (simp [*]; done)), H', ⟨by have := HK1.out; have := HK2.out; have := HK3.out; omega⟩, ⟨by (with_reducible repeat (first | apply Kd.R_alloc | apply Kd.R_drewN | apply Kd.R_drew)); exact HO_5.out⟩, ⟨by (with_reducible repeat (first | apply Kd.N_alloc | apply Kd.N_drewN | apply Kd.N_drew)); exact HO_6.out⟩, ⟨by (with_reducible repeat (first | apply Kd.R_alloc | apply Kd.R_drewN | apply Kd.R_drew)); exact HO_606002.out⟩, ⟨by (with_reducible repeat (first | refine zq6 ?_ _ | refine zq8 ?_ | refine zq7 ?_ _)); exact BK594.out⟩, ⟨by (with_reducible repeat (first | refine zq6 ?_ _ | refine zq8 ?_ | refine zq7 ?_ _)); exact BK605.out⟩, ⟨by repeat (first | (with_reducible first | exact HB.out | apply zq2 | apply zq1 | apply zqd | refine zq3 ?_ GE594.out | refine zq3 ?_ GE605.out) | exact HB.out)⟩⟩
                      · replace c22 := Bool.eq_false_iff.mpr c22
                        subst c22
                        have H1 : (if 0 ≤ x11_3 then ((spec_l2Meet.f k3 0 0 y602 ((rd_T29 t599 x11_3).f0) ((rd_T29 t599 x11_3).f1) ((rd_T29 t599 x11_3).f2)).bind fun t607 => (sRPlaces.l2 k3 a0 x5_2 t599 x7_1 x8_2 t607 (wrap64 (x11_3 + 1)) 0 0 y602)) else (none)) = some r := by rw [if_neg (show ¬ (false = true) by decide)] at H; exact H
                        clear H
                        have H := H1
                        clear H1
                        by_cases c25 : 0 ≤ x11_3
                        · rw [if_pos c25] at H
                          have c25b0 : decide (0 ≤ x11_3) = true := decide_eq_true c25
                          clear c25
                          replace H := Option.bind_eq_some_iff.mp H
                          obtain ⟨t607, A260, H⟩ := H
                          replace H : (sRPlaces.l2 k3 a0 x5_2 t599 x7_1 x8_2 t607 (wrap64 (x11_3 + 1)) 0 0 y602) = some r := H
                          have A26 := Az.mk A260
                          clear A260
                          have H' := Az.mk H
                          clear H
                          obtain ⟨Ao27, co27, eo27⟩ := Kd.N_slice HO_6.out
                          subst eo27
                          try go_wp2
                          have n0_ := Az.mk (Kd.R_drew HO_5.out)
                          have n1_ := Az.mk (Kd.N_drew HO_6.out)
                          have n2_ := Az.mk (Kd.R_drew HO_606002.out)
                          have n3_ := Az.mk (zq8 BK594.out)
                          have n4_ := Az.mk (zq8 BK605.out)
                          have n5_ := Az.mk (zqd HB.out)
                          clear HO_5
                          clear HO_6
                          clear HO_606002
                          clear BK594
                          clear BK605
                          clear HB
                          have HO_5 := n0_
                          have HO_6 := n1_
                          have HO_606002 := n2_
                          have BK594 := n3_
                          have BK605 := n4_
                          have HB := n5_
                          clear n0_ n1_ n2_ n3_ n4_ n5_
                          have p606 : 0 ≤ (x11_3 : Int) := of_decide_eq_true (by first | (with_reducible assumption) | assumption)
                          have q606 : x11_3 < (t599.length : Int) := of_decide_eq_true (by first | (with_reducible assumption) | assumption)
                          obtain ⟨ad606, A606_2, c606_2, e606, hx606_0, hx606_1, hx606_2, hl606_2, hi606_2⟩ := at_T29 (Kd.N_reads' HO_6.out).2.2 x11_3 p606 q606
                          cases e606
                          obtain ⟨ce606, hce606, hMe606, hcc606⟩ := Kd.N_get HO_6.out z29 x11_3 p606 (by first | exact q606 | exact of_decide_eq_true (by first | (with_reducible assumption) | assumption) | (have e_ := (Kd.N_reads' HO_6.out).1; omega))
                          obtain ⟨ua606_2, uc606_2, rfl, ul606_2, ge606_2⟩ := k29_openF hMe606
                          have hv606_2 := hcc606 2 _ rfl
                          rw [add_field _ _ 2 (by omega)] at hv606_2
                          replace hv606_2 := Option.some.inj (hv606_2.symm.trans hx606_2)
                          injection hv606_2 with hva_ hvn_ hvc_
                          rw [hva_] at ge606_2
                          rw [hvc_] at ul606_2
                          have HL606_2 := Az.mk (show Kd.V k37 37 _ w.heap.size _ _ ((rd_T29 t599 x11_3).f2) from Kd.V_mk ul606_2 ge606_2)
                          clear hva_ hvn_ hvc_ ge606_2 ul606_2
                          clear hcc606 hce606
                          have HR606_2 := Az.mk hi606_2
                          have HC606_2 := Az.mk hl606_2
                          clear hi606_2 hl606_2
                          replace p606 := eq_true p606
                          replace q606 := eq_true q606
                          refine start_ (n := 10) (S := fun w' => w'.cell? ⟨gb605, 0, none⟩ = some (.int .i64 0) ∧ w'.cell? ⟨gb605, 1, none⟩ = some (.int .i64 0) ∧ w'.cell? ⟨gb605, 2, none⟩ = some (.slice Ao17 y602.length co17) ∧ w'.cell? (ad606.add ((x11_3).toNat * 3)) = some (.int .i64 ((rd_T29 t599 x11_3).f0)) ∧ w'.cell? ⟨(ad606.add ((x11_3).toNat * 3)).block, (ad606.add ((x11_3).toNat * 3)).off + 1, none⟩ = some (.int .i64 ((rd_T29 t599 x11_3).f1)) ∧ w'.cell? ⟨(ad606.add ((x11_3).toNat * 3)).block, (ad606.add ((x11_3).toNat * 3)).off + 2, none⟩ = some (.slice A606_2 ((rd_T29 t599 x11_3).f2).length c606_2)) (ds := []) (bm 10 0) (by kernel_rfl) rfl rfl ⟨(zq4 BK605.out 0).trans rfl, (zq4 BK605.out 1).trans rfl, (zq4 BK605.out 2).trans rfl, hx606_0, hx606_1, hx606_2⟩ (fun hHeld => ?_); refine with_tabW sRPlaces.tab16 sRPlaces.bits16 (fun HT_ HW_ => ?_)
                          generalize wr.drew = w28 at HO_5 HO_6 HO_606002 BK594 BK605 HB HL606_2 HR606_2 hx606_0 hx606_1 hx606_2 hHeld ⊢
                          refine zqp (i := 0) (N := some 40) (v := ?_) (a' := ?_) (bm 10 1) rfl rfl (any_of HT_.out (by kernel_rfl)) (fun _ _ _ h => h) (Or.inl ⟨by rfl, ?_⟩) ?_ ?_
                          rotate_left
                          · intro w'
                            go_simp
                            with_reducible rfl
                          rotate_left
                          · simp only [Act.put, zs1, zs2, zs3, i64_w, i32_w]
                            rfl
                          refine zqp (i := 1) (N := some 41) (v := ?_) (a' := ?_) (bm 10 3) rfl rfl (any_of HT_.out (by kernel_rfl)) (fun _ _ _ h => h) (Or.inl ⟨by rfl, ?_⟩) ?_ ?_
                          rotate_left
                          · intro w'
                            go_simp
                            with_reducible rfl
                          rotate_left
                          · simp only [Act.put, zs1, zs2, zs3, i64_w, i32_w]
                            rfl
                          refine zqp (i := 3) (N := some 43) (v := ?_) (a' := ?_) (bm 10 11) rfl rfl (any_of HT_.out (by kernel_rfl)) (fun _ _ _ h => h) (Or.inl ⟨by rfl, ?_⟩) ?_ ?_
                          rotate_left
                          · intro w'
                            go_simp
                            with_reducible rfl
                          rotate_left
                          · simp only [Act.put, zs1, zs2, zs3, i64_w, i32_w]
                            rfl
                          refine zqp (i := 4) (N := some 44) (v := ?_) (a' := ?_) (bm 10 27) rfl rfl (any_of HT_.out (by kernel_rfl)) (fun _ _ _ h => h) (Or.inl ⟨by rfl, ?_⟩) ?_ ?_
                          rotate_left
                          · intro w'
                            go_simp
                            with_reducible rfl
                          rotate_left
                          · simp only [Act.put, zs1, zs2, zs3, i64_w, i32_w]
                            rfl
                          refine zqp (i := 5) (N := some 45) (v := ?_) (a' := ?_) (bm 10 59) rfl rfl (any_of HT_.out (by kernel_rfl)) (fun _ _ _ h => h) (Or.inl ⟨by rfl, ?_⟩) ?_ ?_
                          rotate_left
                          · intro w'
                            go_simp
                            with_reducible rfl
                          rotate_left
                          · simp only [Act.put, zs1, zs2, zs3, i64_w, i32_w]
                            rfl
                          refine zqt (i := 2) (N := some 42) (v := ?_) (a' := ?_) (bm 10 63) rfl rfl (take_ofW HT_.out HW_.out (by kernel_rfl)) (fun _ _ _ h => h) (Or.inl ⟨by rfl, ?_⟩) hHeld ?_ ?_
                          rotate_left
                          · rintro w' ⟨s0, s1, s2, s3, s4, s5⟩
                            go_simp
                            with_reducible rfl
                          rotate_left
                          · simp only [Act.put, zs1, zs2, zs3, i64_w, i32_w]
                            rfl
                          refine zqt (i := 6) (N := some 46) (v := ?_) (a' := ?_) (bm 10 127) rfl rfl (take_ofW HT_.out HW_.out (by kernel_rfl)) (fun _ _ _ h => h) (Or.inl ⟨by rfl, ?_⟩) hHeld ?_ ?_
                          rotate_left
                          · rintro w' ⟨s0, s1, s2, s3, s4, s5⟩
                            go_simp
                            with_reducible rfl
                          rotate_left
                          · simp only [Act.put, zs1, zs2, zs3, i64_w, i32_w]
                            rfl
                          refine one_ (i := 7) (N := some 47) (bm 10 255) rfl rfl (one_of HT_.out (by kernel_rfl)) (by decide) (fun K hK => ?_)
                          refine goes_ Try.func87 (by kernel_rfl) rfl #[.agg #[.int .i64 0, .int .i64 0, .slice Ao17 y602.length co17], .agg #[.int .i64 ((rd_T29 t599 x11_3).f0), .int .i64 ((rd_T29 t599 x11_3).f1), .slice A606_2 ((rd_T29 t599 x11_3).f2).length c606_2]] (by rfl) rfl rfl (by (try simp only [List.map_toArray, List.map_cons, List.map_nil]); first | done | rfl | (simp only [List.length_drop, List.length_take]; rfl)) ?_
                          with_reducible refine (spec_l2Meet.calls k3 0 0 _ _ y602 ((rd_T29 t599 x11_3).f0) ((rd_T29 t599 x11_3).f1) _ _ ((rd_T29 t599 x11_3).f2) t607 _ ?side1 ?side2 ?side3 ?side4 A26.out).mono ?_
                          (case side1 => repeat (first | exact (Kd.R_reads' HO_606002.out).2.2 | (with_reducible refine Kd.C_alloc ?_ _) | (with_reducible refine Kd.C_drewN ?_ _) | (with_reducible refine Kd.C_drew ?_)))
                          (case side2 => exact (Kd.R_reads' HO_606002.out).2.1)
                          (case side3 => repeat (first | exact (by repeat (first | (with_reducible exact HR606_2.out) | (with_reducible refine Kd.C_alloc ?_ _) | (with_reducible refine Kd.C_drewN ?_ _) | (with_reducible refine Kd.C_drew ?_) | exact HR606_2.out)) | (with_reducible refine Kd.C_alloc ?_ _) | (with_reducible refine Kd.C_drewN ?_ _) | (with_reducible refine Kd.C_drew ?_)))
                          (case side4 => exact HC606_2.out)
                          rintro e w29 ⟨rfl, hb⟩
                          have HS3_ := (hb.cell (World.block_lt_of_cell? _ _ (hHeld.2.2.2.1))).trans (hHeld.2.2.2.1)
                          have HS4_ := (hb.cell (World.block_lt_of_cell? _ _ (hHeld.2.2.2.2.1))).trans (hHeld.2.2.2.2.1)
                          have HS5_ := (hb.cell (World.block_lt_of_cell? _ _ (hHeld.2.2.2.2.2))).trans (hHeld.2.2.2.2.2)
                          refine ⟨_, rfl, ?_⟩
                          have n0_ := Az.mk (Kd.R_below (by (with_reducible repeat (first | apply Kd.R_alloc | apply Kd.R_drewN | apply Kd.R_drew)); exact HO_5.out) hb)
                          have n1_ := Az.mk (Kd.N_below (by (with_reducible repeat (first | apply Kd.N_alloc | apply Kd.N_drewN | apply Kd.N_drew)); exact HO_6.out) hb)
                          have n2_ := Az.mk (Kd.R_below (by (with_reducible repeat (first | apply Kd.R_alloc | apply Kd.R_drewN | apply Kd.R_drew)); exact HO_606002.out) hb)
                          have n3_ := Az.mk (Kd.V_below (by (with_reducible repeat (first | apply Kd.V_alloc | apply Kd.V_drewN | apply Kd.V_drew)); exact HL606_2.out) hb)
                          have n4_ := Az.mk (blk_below (g := gb594) (o := .cells #[.int .i64 a1_0, .slice A1_1 l1_1.length c1_1] 57 (0, 0)) (by (with_reducible repeat (first | refine zq6 ?_ _ | refine zq8 ?_ | refine zq7 ?_ _)); exact BK594.out) hb)
                          have n5_ := Az.mk (blk_below (g := gb605) (o := .cells #[.int .i64 0, .int .i64 0, .slice Ao17 y602.length co17] 29 (0, 0)) (by (with_reducible repeat (first | refine zq6 ?_ _ | refine zq8 ?_ | refine zq7 ?_ _)); exact BK605.out) hb)
                          have n6_ := Az.mk (Kd.C_below (by repeat (first | (with_reducible exact HR606_2.out) | (with_reducible refine Kd.C_alloc ?_ _) | (with_reducible refine Kd.C_drewN ?_ _) | (with_reducible refine Kd.C_drew ?_) | exact HR606_2.out)) hb)
                          have n7_ := Az.mk (below_step (by repeat (first | (with_reducible first | exact HB.out | apply zq2 | apply zq1 | apply zqd | refine zq3 ?_ GE594.out | refine zq3 ?_ GE605.out) | exact HB.out)) hb)
                          clear HO_5
                          clear HO_6
                          clear HO_606002
                          clear HL606_2
                          clear BK594
                          clear BK605
                          clear HR606_2
                          clear HB
                          have HO_5 := n0_
                          have HO_6 := n1_
                          have HO_606002 := n2_
                          have HL606_2 := n3_
                          have BK594 := n4_
                          have BK605 := n5_
                          have HR606_2 := n6_
                          have HB := n7_
                          clear n0_ n1_ n2_ n3_ n4_ n5_ n6_ n7_
                          (try clear hb)
                          (try clear hb2)
                          (try clear hk)
                          (try clear hi)
                          refine hK.out _ _ ⟨(zq4 BK605.out 0).trans rfl, (zq4 BK605.out 1).trans rfl, (zq4 BK605.out 2).trans rfl, HS3_, HS4_, HS5_⟩ (fun hHeld => ?_)
                          clear hK K
                          refine norm_ (a' := ?_) ?_ ?_
                          rotate_left
                          · show Act.put _ (some 47) _ = _
                            simp only [Act.put, zs1, zs2, zs3, i64_w, i32_w]
                            rfl
                          refine zqp (i := 8) (N := some 48) (v := ?_) (a' := ?_) (bm 10 511) rfl rfl (any_of HT_.out (by kernel_rfl)) (fun _ _ _ h => h) (Or.inl ⟨by rfl, ?_⟩) ?_ ?_
                          rotate_left
                          · intro w'
                            go_simp
                            with_reducible rfl
                          rotate_left
                          · simp only [Act.put, zs1, zs2, zs3, i64_w, i32_w]
                            rfl
                          refine zqp (i := 9) (N := some 10) (v := ?_) (a' := ?_) (bm 10 1023) rfl rfl (any_of HT_.out (by kernel_rfl)) (fun _ _ _ h => h) (Or.inl ⟨by rfl, ?_⟩) ?_ ?_
                          rotate_left
                          · intro w'
                            go_simp
                            with_reducible rfl
                          rotate_left
                          · simp only [Act.put, zs1, zs2, zs3, i64_w, i32_w]
                            rfl
                          refine done_ (done_of HT_.out (by kernel_rfl)) ?_
                          try go_wp2
                          go_roundg k3
                          case measure => have := HK1.out; have := HK2.out; have := HK3.out; omega
                          case rel => exact ⟨(t607), (wrap64 (x11_3 + 1)), (by first | rfl | (simp; done) | (simp [*]; done)), (by first | rfl | (simp; done) | (simp [*]; done)), H', ⟨by have := HK1.out; have := HK2.out; have := HK3.out; omega⟩, ⟨by (with_reducible repeat (first | apply Kd.R_alloc | apply Kd.R_drewN | apply Kd.R_drew)); exact HO_5.out⟩, ⟨by (with_reducible repeat (first | apply Kd.N_alloc | apply Kd.N_drewN | apply Kd.N_drew)); exact HO_6.out⟩, ⟨by (with_reducible repeat (first | apply Kd.R_alloc | apply Kd.R_drewN | apply Kd.R_drew)); exact HO_606002.out⟩, ⟨by (with_reducible repeat (first | refine zq6 ?_ _ | refine zq8 ?_ | refine zq7 ?_ _)); exact BK594.out⟩, ⟨by (with_reducible repeat (first | refine zq6 ?_ _ | refine zq8 ?_ | refine zq7 ?_ _)); exact BK605.out⟩, ⟨by repeat (first | (with_reducible first | exact HB.out | apply zq2 | apply zq1 | apply zqd | refine zq3 ?_ GE594.out | refine zq3 ?_ GE605.out) | exact HB.out)⟩⟩
                        · rw [if_neg c25] at H
                          exact absurd H (by simp)
                    · rw [if_neg c21] at H
                      have c21b0 : decide (x11_3 < (t599.length : Int)) = false := decide_eq_false c21
                      clear c21
                      by_cases c30 : x10_3 = true
                      · subst c30
                        have H1 : (if x5_2.length < 8796093022208 then (sRPlaces.l1 k3 a0 (x5_2 ++ [(⟨x7_1, x8_2⟩ : S37)]) t599 x7_1 (wrap64 (x8_2 + 1))) else (none)) = some r := by rw [if_pos rfl] at H; exact H
                        clear H
                        have H := H1
                        clear H1
                        by_cases c31 : x5_2.length < 8796093022208
                        · rw [if_pos c31] at H
                          have LMc31 := Az.mk c31
                          clear c31
                          obtain ⟨y608, hy608⟩ : ∃ y_ : List (S37), y_ = (x5_2 ++ [(⟨x7_1, x8_2⟩ : S37)]) := ⟨_, rfl⟩
                          replace H : (sRPlaces.l1 k3 a0 y608 t599 x7_1 (wrap64 (x8_2 + 1))) = some r := by first | (rw [hy608]; with_reducible exact H) | (have H2_ := (Option.bind_some _ _).symm.trans H; rw [hy608]; with_reducible exact H2_) | (have H2_ := (Option.bind_some _ _).symm.trans H; with_reducible exact H2_) | with_reducible exact H | (rw [hy608]; exact H) | exact H
                          have Ny608 := Az.mk hy608
                          clear hy608
                          have H' := Az.mk H
                          clear H
                          obtain ⟨Ao32, co32, eo32⟩ := Kd.N_slice HO_6.out
                          subst eo32
                          go_wp2_with (first | ((with_reducible refine gate_builtin (b := .append) (xs := #[.tmp 50, .tmp 54]) rfl ?_); at_builtin; refine Kd.R_append k37 (w0 := w) w.heap.size rfl (.tmp 50) (.tmp 54) 27 37 (.agg #[(.int .i64 0), (.int .i64 0)]) 16 rfl Try.underlying27 info37 rfl (by decide) (by omega) u5 x5_2 (⟨x7_1, x8_2⟩ : S37) [.int .i64 x7_1, .int .i64 x8_2] (fun k_ => some k_ ≠ (.slice Ao17 y602.length co17 : Value).ownBlock) (fun _ => False) rfl rfl ?aP (fun _ hk => hk.elim) ?aF ?aO ?aB ?aS ?aL ?_; (case aP => exact k37_mkM _ _ _ (⟨x7_1, x8_2⟩ : S37)); (case aB => exact (by repeat (first | (with_reducible first | exact HB.out | apply zq2 | apply zq1 | apply zqd | refine zq3 ?_ GE594.out | refine zq3 ?_ GE605.out) | exact HB.out))); (case aF => exact (fun k_ hk => Kd.fresh' (Kd.R_lt (by (with_reducible repeat (first | apply Kd.R_alloc | apply Kd.R_drewN | apply Kd.R_drew)); exact HO_606002.out)) k_ hk)); (case aO => exact (by (with_reducible repeat (first | apply Kd.R_alloc | apply Kd.R_drewN | apply Kd.R_drew)); exact HO_5.out)); (case aS => exact (below_size (by repeat (first | (with_reducible first | exact HB.out | apply zq2 | apply zq1 | apply zqd | refine zq3 ?_ GE594.out | refine zq3 ?_ GE605.out) | exact HB.out)))); (case aL => have := LMc31.out; omega); intro v609 w33 ho hb hg hat; rw [← Ny608.out] at ho; have n0_ := Az.mk (Kd.N_afterv (ok := (fun k_ => some k_ ≠ (.slice Ao17 y602.length co17 : Value).ownBlock ∧ k_ ≠ gb594 ∧ k_ ≠ gb605)) (by (with_reducible repeat (first | apply Kd.N_alloc | apply Kd.N_drewN | apply Kd.N_drew)); exact Kd.N_mono HO_6.out (fun _ hk => ⟨⟨hk.2.1, ⟨hk.2.2.1, hk.2.2.2⟩⟩, hk.1⟩)) hg hat); have n1_ := Az.mk (Kd.R_after (ok := (fun _ => True)) (by (with_reducible repeat (first | apply Kd.R_alloc | apply Kd.R_drewN | apply Kd.R_drew)); exact Kd.R_mono HO_606002.out (fun _ hk => ⟨trivial, hk⟩)) hg hat); have n2_ := Az.mk (blk_grown (g := gb594) (o := .cells #[.int .i64 a1_0, .slice A1_1 l1_1.length c1_1] 57 (0, 0)) (by (with_reducible repeat (first | refine zq6 ?_ _ | refine zq8 ?_ | refine zq7 ?_ _)); exact BK594.out) hg (Kd.R_ne HO_5.out BK594.out (by decide))); have n3_ := Az.mk (blk_grown (g := gb605) (o := .cells #[.int .i64 0, .int .i64 0, .slice Ao17 y602.length co17] 29 (0, 0)) (by (with_reducible repeat (first | refine zq6 ?_ _ | refine zq8 ?_ | refine zq7 ?_ _)); exact BK605.out) hg (Kd.R_ne HO_5.out BK605.out (by decide))); have n4_ := Az.mk (hb); have n5_ := Az.mk (ho); clear HO_6; clear HO_606002; clear BK594; clear BK605; clear HB; clear HO_5; have HO_6 := n0_; have HO_606002 := n1_; have BK594 := n2_; have BK605 := n3_; have HB := n4_; have HO610 := n5_; clear n0_ n1_ n2_ n3_ n4_ n5_; clear ho hb hg hat))
                          go_roundg k3
                          case measure => have := HK1.out; have := HK2.out; have := HK3.out; omega
                          case rel => exact ⟨(y608), (wrap64 (x8_2 + 1)), (by first | rfl | (simp; done) | (simp [*]; done)), H', ⟨by have := HK1.out; have := HK2.out; have := HK3.out; omega⟩, ⟨by (with_reducible repeat (first | apply Kd.R_alloc | apply Kd.R_drewN | apply Kd.R_drew)); exact Kd.R_mono HO610.out (fun _ hk => trivial)⟩, ⟨by (with_reducible repeat (first | apply Kd.N_alloc | apply Kd.N_drewN | apply Kd.N_drew)); exact Kd.N_mono HO_6.out (fun _ hk => ⟨hk.2, hk.1.2.1⟩)⟩, ⟨by (with_reducible repeat (first | refine zq6 ?_ _ | refine zq8 ?_ | refine zq7 ?_ _)); exact BK594.out⟩, ⟨by repeat (first | (with_reducible first | exact HB.out | apply zq2 | apply zq1 | apply zqd | refine zq3 ?_ GE594.out | refine zq3 ?_ GE605.out) | exact HB.out)⟩⟩
                        · rw [if_neg c31] at H
                          exact absurd H (by simp)
                      · replace c30 := Bool.eq_false_iff.mpr c30
                        subst c30
                        have H1 : (sRPlaces.l1 k3 a0 x5_2 t599 x7_1 (wrap64 (x8_2 + 1))) = some r := by rw [if_neg (show ¬ (false = true) by decide)] at H; exact H
                        clear H
                        have H := H1
                        clear H1
                        have H' := Az.mk H
                        clear H
                        obtain ⟨Ao34, co34, eo34⟩ := Kd.N_slice HO_6.out
                        subst eo34
                        go_wp2
                        go_roundg k3
                        case measure => have := HK1.out; have := HK2.out; have := HK3.out; omega
                        case rel => exact ⟨(x5_2), (wrap64 (x8_2 + 1)), (by first | rfl | (simp; done) | (simp [*]; done)), H', ⟨by have := HK1.out; have := HK2.out; have := HK3.out; omega⟩, ⟨by (with_reducible repeat (first | apply Kd.R_alloc | apply Kd.R_drewN | apply Kd.R_drew)); exact Kd.R_mono HO_5.out (fun _ hk => trivial)⟩, ⟨by (with_reducible repeat (first | apply Kd.N_alloc | apply Kd.N_drewN | apply Kd.N_drew)); exact Kd.N_mono HO_6.out (fun _ hk => ⟨hk.1, hk.2.2.1⟩)⟩, ⟨by (with_reducible repeat (first | refine zq6 ?_ _ | refine zq8 ?_ | refine zq7 ?_ _)); exact BK594.out⟩, ⟨by repeat (first | (with_reducible first | exact HB.out | apply zq2 | apply zq1 | apply zqd | refine zq3 ?_ GE594.out | refine zq3 ?_ GE605.out) | exact HB.out)⟩⟩
              · rw [if_neg c14] at H
                have c14b0 : decide (x8_2 < 12) = false := decide_eq_false c14
                clear c14
                have H' := Az.mk H
                clear H
                go_wp2
                go_roundg k2
                case measure => have := HK1.out; have := HK2.out; omega
                case rel => exact ⟨(x5_2), (wrap64 (x7_1 + 1)), (by first | rfl | (simp; done) | (simp [*]; done)), H', ⟨by have := HK1.out; have := HK2.out; omega⟩, ⟨by (with_reducible repeat (first | apply Kd.R_alloc | apply Kd.R_drewN | apply Kd.R_drew)); exact HO_5.out⟩, ⟨by (with_reducible repeat (first | apply Kd.N_alloc | apply Kd.N_drewN | apply Kd.N_drew)); exact HO_6.out⟩, ⟨by (with_reducible repeat (first | refine zq6 ?_ _ | refine zq8 ?_ | refine zq7 ?_ _)); exact BK594.out⟩, ⟨by repeat (first | (with_reducible first | exact HB.out | apply zq2 | apply zq1 | apply zqd | refine zq3 ?_ GE594.out) | exact HB.out)⟩⟩
        · rw [if_neg c13] at H
          have c13b0 : decide (x7_1 < a0) = false := decide_eq_false c13
          clear c13
          obtain rfl := Option.some.inj H
          go_wp2
          go_ret
          exact ⟨_, by first | rfl | (simp [errW_none, errW_some] <;> rfl) | (simp [*, errW_none, errW_some] <;> rfl), by (with_reducible repeat (first | apply Kd.R_alloc | apply Kd.R_drewN | apply Kd.R_drew)); exact HO_5.out, by repeat (first | (with_reducible first | exact HB.out | apply zq2 | apply zq1 | apply zqd | refine zq3 ?_ GE594.out) | exact HB.out)⟩
  · replace c4 := Bool.eq_false_iff.mpr c4
    subst c4
    have H1 : (some y595) = some r := by rw [if_neg (show ¬ (false = true) by decide)] at H; exact H
    clear H
    have H := H1
    clear H1
    obtain rfl := Option.some.inj H
    go_enter Try.func44, Try.ntmps44
    go_wp2_with (first | ((with_reducible refine zqg (N := 3) rfl ?_); refine zqb ?hg (N := 3) ?hd (cs := #[.int .i64 a1_0, .slice A1_1 l1_1.length c1_1]) (t := 57) ?hr ?_; (case hd => rfl); (case hg => rfl); (case hr => first | (go_simp; done) | (go_simp; rfl)); intro gb594 hg w35 hbox hb; have n0_ := Az.mk (below_step (by repeat (first | (with_reducible first | exact HB.out | apply zq2 | apply zq1 | apply zqd) | exact HB.out)) hb); have n1_ := Az.mk (hbox); have n2_ := Az.mk ((by rw [hg]; exact (below_size (by repeat (first | (with_reducible first | exact HB.out | apply zq2 | apply zq1 | apply zqd) | exact HB.out))) : w.heap.size ≤ gb594)); have n3_ := Az.mk ((by rw [hg]; exact (below_size (by repeat (first | (with_reducible first | exact HB.out | apply zq2 | apply zq1 | apply zqd) | exact HB.out))) : w.heap.size ≤ gb594)); clear HB; have HB := n0_; have BK594 := n1_; have GW594 := n2_; have GE594 := n3_; clear n0_ n1_ n2_ n3_; clear hb hbox hg) | ((with_reducible refine zqg (N := 12) rfl ?_); refine Kd.R_lit k37 _ 37 ?hg (N := 12) ?hd (xs := ([] : List (S37))) (inner := []) (ok := fun _ => True) (okp := fun _ => True) ?hr ?hp (fun _ hk => hk) trivial (Below.refl _ _) (Nat.le_refl _) (by simp) ?_; (case hd => rfl); (case hg => rfl); (case hr => first | (go_simp; done) | (go_simp; rfl)); (case hp => exact (Reps.none _ _)); intro v596 w36 ho37 hb hg_ hnew_; clear hg_ hnew_; (first | rw [← Ny595.out] at ho37 | (simp only [Int.reduceToNat] at ho37; rw [← Ny595.out] at ho37)); have n0_ := Az.mk (Kd.R_lower ho37 (below_size (by repeat (first | (with_reducible first | exact HB.out | apply zq2 | apply zq1 | apply zqd | refine zq3 ?_ GE594.out) | exact HB.out)))); have n1_ := Az.mk (blk_below (g := gb594) (o := .cells #[.int .i64 a1_0, .slice A1_1 l1_1.length c1_1] 57 (0, 0)) (by (with_reducible repeat (first | refine zq6 ?_ _ | refine zq8 ?_ | refine zq7 ?_ _)); exact BK594.out) hb); have n2_ := Az.mk (below_step (by repeat (first | (with_reducible first | exact HB.out | apply zq2 | apply zq1 | apply zqd | refine zq3 ?_ GE594.out) | exact HB.out)) hb); clear BK594; clear HB; have HO597 := n0_; have BK594 := n1_; have HB := n2_; clear n0_ n1_ n2_; clear hb ho37; have hcz38_0 : w36.cell? ⟨gb594, 0, none⟩ = some (.int .i64 a1_0) := (zq4 BK594.out 0).trans rfl; have hcz38_1 : w36.cell? ⟨gb594, 1, none⟩ = some (.slice A1_1 l1_1.length c1_1) := (zq4 BK594.out 1).trans rfl; have hfz38_0 := zq5 BK594.out 0; have hfz38_1 := zq5 BK594.out 1) | ((with_reducible refine gate_callee (f := 36) rfl ?_); refine zq9 (some 15) rfl rfl Try.func36 (by kernel_rfl) rfl #[.int .i64 a0, .agg #[.int .i64 a1_0, .slice A1_1 l1_1.length c1_1]] rfl (by (try simp only [List.map_toArray, List.map_cons, List.map_nil]); first | done | rfl | (simp only [List.length_drop, List.length_take]; rfl)) ?_; (with_reducible refine (sRootOk.calls k a0 a1_0 _ _ l1_1 false _ ?side1 ?side2 A3.out).mono ?_); (case side1 => repeat (first | exact (Kd.C_below HR1_1.out HB.out) | (with_reducible refine Kd.C_alloc ?_ _) | (with_reducible refine Kd.C_drewN ?_ _) | (with_reducible refine Kd.C_drew ?_))); (case side2 => exact HC1_1.out); rintro e w39 ⟨rfl, hb⟩; refine ⟨_, rfl, ?_⟩; have n0_ := Az.mk (Kd.R_below (by (with_reducible repeat (first | apply Kd.R_alloc | apply Kd.R_drewN | apply Kd.R_drew)); exact HO597.out) hb); have n1_ := Az.mk (blk_below (g := gb594) (o := .cells #[.int .i64 a1_0, .slice A1_1 l1_1.length c1_1] 57 (0, 0)) (by (with_reducible repeat (first | refine zq6 ?_ _ | refine zq8 ?_ | refine zq7 ?_ _)); exact BK594.out) hb); have n2_ := Az.mk (below_step (by repeat (first | (with_reducible first | exact HB.out | apply zq2 | apply zq1 | apply zqd | refine zq3 ?_ GE594.out) | exact HB.out)) hb); clear HO597; clear BK594; clear HB; have HO597 := n0_; have BK594 := n1_; have HB := n2_; clear n0_ n1_ n2_; (try clear hb); (try clear hb2); (try clear hk); (try clear hi)))
    go_ret
    exact ⟨_, by first | rfl | (simp [errW_none, errW_some] <;> rfl) | (simp [*, errW_none, errW_some] <;> rfl), by (with_reducible repeat (first | apply Kd.R_alloc | apply Kd.R_drewN | apply Kd.R_drew)); exact HO597.out, by repeat (first | (with_reducible first | exact HB.out | apply zq2 | apply zq1 | apply zqd | refine zq3 ?_ GE594.out) | exact HB.out)⟩
end Go.Proofs.Ytkoimmeghdbodaa.Print
namespace Go.Proofs.Ytkoimmeghdbodaa.Pure
open Go.RowKit Go.Lib Go.Sort Go.Proofs.Ytkoimmeghdbodaa.Print Go.Proofs.YtkoimmeghdbodaaW.PrintWords Go.Proofs.YtkoimmeghdbodaaW.PrintLast
theorem sRootOk_ev {n tx : Int} {vs : List S65} (hF : FitM vs) : Ev (fun k => sRootOk.f k n tx vs) (rootB n tx vs) := ⟨0, fun k _ => by
  unfold sRootOk.f
  rw [if_pos hF]⟩
theorem sp_l2 (n : Int) (ps : List S29) (hl : ps.length ≤ 12) (hF : ∀ p ∈ ps, p.f2.length ≤ 1048576) (acc : List S37) (ha : acc.length ≤ 1000) (x7 x8 : Nat) (h8 : x8 < 12) {r : List S37} (b0 : Bool)
    (K : Ev (fun k => sRPlaces.l1 k n (acc ++ if b0 = true then [(⟨(x7 : Int), (x8 : Int)⟩ : S37)] else []) ps (x7 : Int) ((x8 + 1 : Nat) : Int)) r) (d : Nat) :
    ∀ (i : Nat) (b : Bool), i + d = ps.length → (b || (ps.drop i).any fun q => meetB [(⟨(x7 : Int), (x8 : Int)⟩ : S37)] q.f2) = b0 → Ev (fun k => sRPlaces.l2 k n acc ps (x7 : Int) (x8 : Int) b (i : Int) 0 0 [(⟨(x7 : Int), (x8 : Int)⟩ : S37)]) r := by
  have e8 : wrap64 ((x8 : Int) + 1) = ((x8 + 1 : Nat) : Int) := by rw [wrap_ok (by omega)]; omega
  induction d with
  | zero =>
    intro i b hi hb
    rw [List.drop_of_length_le (by omega), List.any_nil, Bool.or_false] at hb
    subst hb
    refine Ev.next ?_
    simp only [sRPlaces.l2, e8]
    clear e8
    refine Ev.neg (by omega) ?_
    cases b
    · refine Ev.neg (by simp) ?_
      simpa using K
    · refine Ev.pos rfl (Ev.pos (by omega) ?_)
      simpa using K
  | succ d ih =>
    intro i b hi hb
    have e : wrap64 ((i : Int) + 1) = ((i + 1 : Nat) : Int) := by rw [wrap_ok (by omega)]; omega
    have hpi := hF _ (getD_mem (z := z29) (i := i) (l := ps) (by omega))
    rw [drop_getD ps z29 i (by omega), List.any_cons] at hb
    refine Ev.next ?_
    simp only [sRPlaces.l2, e, rd29n]
    clear e e8
    refine Ev.pos (by omega) ?_
    cases b
    · refine Ev.neg (by simp) (Ev.pos (by omega) ?_)
      have hm := meet_ev (⟨0, 0, [(⟨(x7 : Int), (x8 : Int)⟩ : S37)]⟩ : S29) (ps.getD i z29) (by simp) hpi
      exact Ev.bind hm (ih (i + 1) _ (by omega) (by rw [Bool.false_or] at hb; exact hb))
    · exact Ev.pos rfl (ih (i + 1) true (by omega) (by rw [Bool.true_or] at hb ⊢; exact hb))
theorem sp_l1 (n : Int) (ps : List S29) (hl : ps.length ≤ 12) (hF : ∀ p ∈ ps, p.f2.length ≤ 1048576) (x7 : Nat) (h7 : x7 < 10) {r : List S37} (K : Ev (fun k => sRPlaces.l0 k n (gridF ps (12 * (x7 + 1))) ps ((x7 + 1 : Nat) : Int)) r) (d : Nat) :
    ∀ s : Nat, s + d = 12 → Ev (fun k => sRPlaces.l1 k n (gridF ps (12 * x7 + s)) ps (x7 : Int) (s : Int)) r := by
  have e7 : wrap64 ((x7 : Int) + 1) = ((x7 + 1 : Nat) : Int) := by rw [wrap_ok (by omega)]; omega
  induction d with
  | zero =>
    intro s hs
    have hs : s = 12 := by omega
    subst hs
    refine Ev.next ?_
    simp only [sRPlaces.l1, e7]
    clear e7
    refine Ev.neg (by omega) ?_
    rw [Nat.mul_add, Nat.mul_one] at K
    exact K
  | succ d ih =>
    intro s hs
    have hih := ih (s + 1) (by omega)
    have hlen := gridF_len ps (12 * x7 + s)
    rw [← Nat.add_assoc, gridF_succ, gr_mk x7 s (by omega)] at hih
    have h := sp_l2 n ps hl hF (gridF ps (12 * x7 + s)) (by omega) x7 s (by omega) (hit ps ⟨(x7 : Int), (s : Int)⟩) hih ps.length 0 false (Nat.zero_add _) (by rw [Bool.false_or]; rfl)
    refine Ev.next ?_
    simp only [sRPlaces.l1]
    exact Ev.pos (by omega) h
theorem sp_l0 (n : Nat) (hn : n ≤ 4) (ps : List S29) (hl : ps.length ≤ 12) (hF : ∀ p ∈ ps, p.f2.length ≤ 1048576) (d : Nat) : ∀ x7 : Nat, x7 + d = n → Ev (fun k => sRPlaces.l0 k (n : Int) (gridF ps (12 * x7)) ps (x7 : Int)) (gridF ps (12 * n)) := by
  induction d with
  | zero =>
    intro x hx
    have hx : x = n := by omega
    subst hx
    refine Ev.next ?_
    simp only [sRPlaces.l0]
    exact Ev.neg (by omega) (Ev.ret rfl)
  | succ d ih =>
    intro x hx
    have h := sp_l1 (n : Int) ps hl hF x (by omega) (ih (x + 1) (by omega)) 12 0 rfl
    refine Ev.next ?_
    simp only [sRPlaces.l0]
    exact Ev.pos (by omega) h
theorem sPlaces_ev (n tx : Int) (vs : List S65) (hF : FitM vs) : Ev (fun k => sRPlaces.f k n tx vs) (rootPl n tx vs) := by
  unfold sRPlaces.f
  refine Ev.take rfl (Ev.bind (sRootOk_ev hF) ?_)
  by_cases h : rootB n tx vs = true
  · refine Ev.pos h ?_
    have hr := rootPl_grid n tx vs h
    have hb := h
    unfold rootB at hb
    simp only [Bool.and_eq_true, decide_eq_true_iff] at hb
    have hg := vols_good hb.2.2.2.1
    have hp := ptrs_take_len hg.2.1 vs.length (Nat.le_refl _)
    rw [List.take_length] at hp
    have hlen := hg.1
    refine Ev.bind (all_ev tx vs hg.1 hg.2.1) ?_
    obtain ⟨m, rfl⟩ := Int.eq_ofNat_of_zero_le (show 0 ≤ n by omega)
    rw [hr, show (12 * (m : Int)).toNat = 12 * m by omega]
    exact sp_l0 m (by omega) (ptrs vs) (by omega) (fun p hp => by
      obtain ⟨x, hx, h⟩ := List.mem_flatMap.1 hp
      exact hF.places x hx p h) m 0 (Nat.zero_add _)
  · refine Ev.neg h (Ev.ret ?_)
    unfold rootPl
    rw [if_neg h]
end Go.Proofs.Ytkoimmeghdbodaa.Pure
namespace Go.Proofs.Ytkoimmeghdbodaa.Hd
open Go.RowKit Go.Proofs.Ytkoimmeghdbodaa.Print Go.Proofs.YtkoimmeghdbodaaW.PrintWords Go.Proofs.YtkoimmeghdbodaaW.PrintLast Go.Proofs.YtkoimmeghdbodaaW.PrintMore Go.Proofs.Ytkoimmeghdbodaa.Pure
theorem sRPl_call (n tx : Int) {D : List S65} (hF : FitM D) {w : World} {M : AC} (h : RdR w M D) {B : Nat} (hB : B ≤ w.heap.size) :
    Calls Try.prog 44 #[.int .i64 n, .agg (cR M (tx, D))] w fun e w' => ∃ M', e = .returned (pV M' (rootPl n tx D)) ∧ OwP w' B w.heap.size w'.heap.size M' (rootPl n tx D) ∧ Below w.heap.size w w' := by
  obtain ⟨k, hk⟩ := Ev.rounds (sPlaces_ev n tx D hF)
  refine (sRPlaces.calls k n tx M.1 M.2 D _ w h.2 h.1 hk).mono ?_
  rintro e w' ⟨v, rfl, hR, hb⟩
  obtain ⟨M', rfl, hO⟩ := owP_of hB hR
  exact ⟨M', rfl, hO, hb⟩
end Go.Proofs.Ytkoimmeghdbodaa.Hd
namespace Go.Proofs.Ytkoimmeghdbodaa.Hq
open Go.RowKit Go.Proofs.Ytkoimmeghdbodaa.Print Go.Proofs.YtkoimmeghdbodaaW.PrintWords Go.Proofs.YtkoimmeghdbodaaW.PrintLast Go.Proofs.YtkoimmeghdbodaaW.PrintMore Go.Proofs.Ytkoimmeghdbodaa.Pure Go.Proofs.Ytkoimmeghdbodaa.Hd
set_option linter.unusedVariables false
set_option linter.unusedSimpArgs false
theorem lpaPl_l0 (l : List S37) (hl : l.length ≤ 1048576) (d : Nat) : ∀ i : Nat, i + d = l.length → Ev (fun k => laws_lpaPlaces.l0 k l l (i : Int)) true := by
  induction d with
  | zero =>
    intro i hi
    refine Ev.next ?_
    simp only [laws_lpaPlaces.l0]
    exact Ev.neg (by omega) (Ev.ret rfl)
  | succ d ih =>
    intro i hi
    have e : wrap64 ((i : Int) + 1) = ((i + 1 : Nat) : Int) := by rw [wrap_ok (by omega)]; omega
    have hih := ih (i + 1) (by omega)
    refine Ev.next ?_
    simp only [laws_lpaPlaces.l0, e]
    clear e
    exact Ev.pos (by omega) (Ev.pos (by omega) (Ev.pos (by omega) (Ev.neg (by simp) hih)))
theorem lpaIn_l0 (l : List S37) (p : S37) (hl : l.length ≤ 1048576) (d : Nat) : ∀ i : Nat, i + d = l.length → Ev (fun k => laws_lpaIn.l0 k l (i : Int) p.f0 p.f1) (decide (p ∈ l.drop i)) := by
  induction d with
  | zero =>
    intro i hi
    refine Ev.next ?_
    simp only [laws_lpaIn.l0]
    exact Ev.neg (by omega) (Ev.ret (by rw [List.drop_of_length_le (by omega)]; simp))
  | succ d ih =>
    intro i hi
    have e : wrap64 ((i : Int) + 1) = ((i + 1 : Nat) : Int) := by rw [wrap_ok (by omega)]; omega
    have hih := ih (i + 1) (by omega)
    have hd := drop_getD l z37 i (by omega)
    refine Ev.next ?_
    simp only [laws_lpaIn.l0, e, rd37n]
    clear e
    refine Ev.pos (by omega) (Ev.pos (by omega) ?_)
    have key := eq37 (l.getD i z37) p
    rw [key, hd]
    by_cases c : l.getD i z37 = p
    · refine Ev.pos (decide_eq_true c) (Ev.ret ?_)
      rw [c]
      simp
    · refine Ev.neg (by rw [decide_eq_true_iff]; exact c) ?_
      have : decide (p ∈ l.getD i z37 :: l.drop (i + 1)) = decide (p ∈ l.drop (i + 1)) := by
        rw [Bool.eq_iff_iff, decide_eq_true_iff, decide_eq_true_iff, List.mem_cons]
        exact ⟨fun h => h.resolve_left fun h => c h.symm, Or.inr⟩
      rw [this]
      exact hih
section
variable {base : Nat} {ws w : World} {L : List Part} {S : Nat → Prop} {wc : World} {B lo hi : Nat} {M M' : AC} {l l' : List S37}
theorem Hq.rdP (h : Hq base ws w L) (i : Nat) (e : L[i]? = some (.set (fun k => lo ≤ k ∧ k < hi) wc)) (O : OwP wc B lo hi M l) : RdP w M l := by
  have := Kd.R_reads' (h.rr i e O)
  exact ⟨this.2.1, this.2.2⟩
theorem lpaPl_call (hl : l.length ≤ 1048576) (e : l' = l) (h : RdP w M l) (h' : RdP w M' l') : Calls Try.prog 28 #[pV M l, pV M' l'] w fun e w' => e = .returned (.bool true) ∧ Below w.heap.size w w' := by
  subst e
  obtain ⟨k, hk⟩ := Ev.rounds (show Ev (fun k => laws_lpaPlaces.f k l' l') true from Ev.pos rfl (lpaPl_l0 l' hl _ 0 (Nat.zero_add _)))
  exact (laws_lpaPlaces.calls k M.1 M.2 l' M'.1 M'.2 l' true w h.2 h.1 h'.2 h'.1 hk).mono fun e w' h => ⟨h.1, h.2.below⟩
theorem lpaIn_call (hl : l.length ≤ 1048576) (p : S37) (h : RdP w M l) : Calls Try.prog 42 #[pV M l, .agg #[.int .i64 p.f0, .int .i64 p.f1]] w fun e w' => e = .returned (.bool (decide (p ∈ l))) ∧ Below w.heap.size w w' := by
  have h0 := lpaIn_l0 l p hl l.length 0 (Nat.zero_add _)
  rw [List.drop_zero] at h0
  obtain ⟨k, hk⟩ := Ev.rounds h0
  exact laws_lpaIn.calls k M.1 M.2 l p.f0 p.f1 _ w h.2 h.1 hk
end
section
variable {w : World} {n : Int} {M : AC} {B : Nat} {D : List S65} {l : List S37}
theorem implPl_q (tx : Int) (e : rootPl n tx D = l) (hF : FitM D) (h : RdR w M D) (hB : B ≤ w.heap.size) : Calls Try.prog 41 #[.int .i64 n, .agg (cR M (tx, D))] w fun e w' => ∃ M', e = .returned (pV M' l) ∧ OwP w' B w.heap.size w'.heap.size M' l ∧ Below w.heap.size w w' := e ▸ implPl_call n tx hF h hB
theorem specPl_q (tx : Int) (e : rootPl n tx D = l) (hF : FitM D) (h : RdR w M D) (hB : B ≤ w.heap.size) : Calls Try.prog 44 #[.int .i64 n, .agg (cR M (tx, D))] w fun e w' => ∃ M', e = .returned (pV M' l) ∧ OwP w' B w.heap.size w'.heap.size M' l ∧ Below w.heap.size w w' := e ▸ sRPl_call n tx hF h hB
theorem specRt_q (tx : Int) {r : Bool} (e : rootB n tx D = r) (hF : FitM D) (h : RdR w M D) : Calls Try.prog 36 #[.int .i64 n, .agg (cR M (tx, D))] w fun e w' => e = .returned (.bool r) ∧ Below w.heap.size w w' := e ▸ sRoot_call n tx M.1 M.2 D w h.2 h.1 hF
variable {ta tb : Int} {Ma Mb : AC} {Da Db : List S65}
end
end Go.Proofs.Ytkoimmeghdbodaa.Hq
namespace Go.Proofs.Ytkoimmeghdbodaa.Hq
open Go.RowKit Go.Proofs.Ytkoimmeghdbodaa.Print Go.Proofs.YtkoimmeghdbodaaW.PrintWords Go.Proofs.YtkoimmeghdbodaaW.PrintLast Go.Proofs.YtkoimmeghdbodaaW.PrintMore Go.Proofs.Ytkoimmeghdbodaa.Pure Go.Proofs.Ytkoimmeghdbodaa.Hd
set_option linter.unusedVariables false
set_option linter.unusedSimpArgs false
theorem size37q : (Try.prog.info? 37).map (·.size) = some 2 := by kernel_rfl
theorem mem_all {D : List S65} {x : S65} {y : S29} {z : S37} (hx : x ∈ D) (hy : y ∈ x.f1) (hz : z ∈ y.f2) : z ∈ placesAll (ptrs D) := List.mem_flatMap.2 ⟨y, List.mem_flatMap.2 ⟨x, hx, hy⟩, hz⟩
theorem nil_of {w : World} {D : List S65} (h : Kd.C k65 w none D.length D) : D = [] := by
 cases D with
 | nil => rfl
 | cons x D =>
  obtain ⟨ad, e, _⟩ := h.2.2 (by simp)
  cases e
theorem rootPl_nil (n t : Int) : rootPl n t [] = [] := by
 unfold rootPl
 by_cases h : rootB n t [] = true
 ·rw [if_pos h]; exact compactPl_nil
 ·rw [if_neg h]
theorem rootPl_strict {n tx : Int} {D : List S65} (h : rootB n tx D = true) : (rootPl n tx D).Pairwise (fun x y => ltPl x y = true) := by
 unfold rootPl
 rw [if_pos h]
 exact compactPl_strict _
theorem strict_at {l : List S37} (h : l.Pairwise (fun x y => ltPl x y = true)) {i : Nat} (h1 : 1 ≤ i) (hi : i < l.length) : (l.getD (i - 1) z37).f0 < (l.getD i z37).f0 ∨ ((l.getD (i - 1) z37).f0 = (l.getD i z37).f0 ∧ (l.getD (i - 1) z37).f1 < (l.getD i z37).f1) := by
 have h := List.pairwise_iff_getElem.1 h (i - 1) i (by omega) hi (by omega)
 rw [ltPl_iff] at h
 simp only [List.getD, List.getElem?_eq_getElem hi, List.getElem?_eq_getElem (show i - 1 < l.length by omega), Option.getD_some]
 exact h
theorem lpaIn_q {w : World} {M : AC} {l : List S37} {p : S37} {r : Bool} (hr : decide (p ∈ l) = r) (hl : l.length ≤ 1048576) (h : RdP w M l) : Calls Try.prog 42 #[pV M l, .agg #[.int .i64 p.f0, .int .i64 p.f1]] w fun e w' => e = .returned (.bool r) ∧ Below w.heap.size w w' := hr ▸ lpaIn_call hl p h
set_option maxHeartbeats 8000000 in
set_option maxRecDepth 100000 in
theorem law_FnRootPlaces (w : World) {A : Option Addr} {c : Nat} {l : List Int} (hC : Kd.C (Kd.int .u8) w A l.length l) (hc : l.length ≤ c) (hw : ∀ x ∈ l, (Lit.int .u8 x).wf = true) : Calls Try.prog 9 #[.slice A l.length c] w fun e w' => e = .returned (.bool true) ∧ Below w.heap.size w w' := by
 have hs57 := size57
 have hs37 := size37q
 have HC := Az.mk hC
 have tk0 : True := trivial
 clear hC
 by_cases hlen : (l.length : Int) > 1048576
 ·have hl1 : decide (1048576 < (l.length : Int)) = true := decide_eq_true hlen
  clear hlen
  go_enter Try.func9, Try.ntmps9
  go_wp2
  go_ret
  exact ⟨rfl, Below.refl _ _⟩
 ·have hl1 : decide (1048576 < (l.length : Int)) = false := decide_eq_false hlen
  clear hlen
  go_enter Try.func9, Try.ntmps9
  go_upto_region 4 with (first | (go_at_call 43; have _tk := tk0; refine (drawPlaces_call _ HC.out hc hw).mono ?_; rintro e w15 ⟨n, ta, Ma, Da, rfl, hn, hf, ho, hb⟩; have HN := Az.mk hn; have FVa := Az.mk hf; have HFa := Az.mk hf.fit; have HRa := Az.mk ho.rd; have HB0 := Az.mk hb; have H := Az.mk (Hq.start w15); clear hn hf ho hb; clear tk0 _tk; have tk1 : True := trivial) | ((with_reducible refine zqg (N := 4) rfl ?_); refine H.out.bx rfl (#[.int .i64 0, .slice none 0 0]) 57 ?hr ?_; (case hr => first | (go_simp; done) | (go_simp; rfl)); intro g4 w4 H1; clear H; have H := H1; clear H1; (try simp only [Act.put, zs1, zs2, zs3])) | ((with_reducible refine gate_store (t := 57) (p := 4) rfl ?_); refine H.out.st_row 0 rfl rfl (x := .tmp 4) (y := .tmp 17) rfl rfl rfl (cR Ma (ta, Da)) rfl hs57 rfl (cR_one _ _) ?_; intro ws3_7 H1; clear H; have H := H1; clear H1))
  (try simp only [Act.put, zs1, zs2, zs3])
  obtain ⟨rp, hrp⟩ : ∃ rp, rootPl n ta Da = rp := ⟨_, rfl⟩
  have Erp := Az.mk hrp
  have HLN := Az.mk (show rp.length ≤ 1048576 from hrp ▸ rootPl_len n ta Da)
  clear hrp
  cases hrb : rootB n ta Da with
  | false =>
   have RBa := Az.mk hrb
   clear hrb
   go_wp2_with (first | ((with_reducible refine zqg (N := 19) rfl ?_); refine H.out.ld_row 0 rfl rfl rfl rfl Try.underlying57 rfl hs57 ?_; (try simp only [Act.put, zs1, zs2, zs3])) | (go_at_call 41; have _tk := tk1; refine (implPl_q ta Erp.out HFa.out (rdBelow HRa.out H.out.bel) H.out.ge).mono ?_; rintro e w20 ⟨M20, rfl, ho, hb⟩; have O20 := Az.mk ho; have H1 := Az.mk (H.out.made hb); clear ho hb; clear H; have H := H1; clear H1; clear tk1 _tk; have tk2 : True := trivial) | ((with_reducible refine zqg (N := 23) rfl ?_); refine H.out.ld_row 1 rfl rfl rfl rfl Try.underlying57 rfl hs57 ?_; (try simp only [Act.put, zs1, zs2, zs3])) | (go_at_call 44; have _tk := tk2; refine (specPl_q ta Erp.out HFa.out (rdBelow HRa.out H.out.bel) H.out.ge).mono ?_; rintro e w24 ⟨M24, rfl, ho, hb⟩; have O24 := Az.mk ho; have H1 := Az.mk (H.out.made hb); clear ho hb; clear H; have H := H1; clear H1; clear tk2 _tk; have tk3 : True := trivial) | (go_at_call 28; have _tk := tk3; refine (lpaPl_call HLN.out rfl (H.out.rdP 1 rfl O20.out) (H.out.rdP 0 rfl O24.out)).mono ?_; rintro e w25 ⟨rfl, hb⟩; have H1 := Az.mk (H.out.step hb); clear hb; clear H; have H := H1; clear H1; clear tk3 _tk; have tk4 : True := trivial) | ((with_reducible refine zqg (N := 29) rfl ?_); refine gate_guard (by rfl) ?_; dsimp only; refine H.out.ld_row 2 rfl rfl rfl rfl Try.underlying57 rfl hs57 ?_; (try simp only [Act.put, zs1, zs2, zs3])) | (go_at_call 36; have _tk := tk4; refine (specRt_q ta RBa.out HFa.out (rdBelow HRa.out H.out.bel)).mono ?_; rintro e w30 ⟨rfl, hb⟩; have H1 := Az.mk (H.out.step hb); clear hb; clear H; have H := H1; clear H1; clear tk4 _tk; have tk5 : True := trivial) | ((with_reducible refine zqg (N := 35) rfl ?_); refine H.out.ld_row 2 rfl rfl rfl rfl Try.underlying57 rfl hs57 ?_; (try simp only [Act.put, zs1, zs2, zs3])) | (go_at_call 44; have _tk := tk5; refine (specPl_q ta Erp.out HFa.out (rdBelow HRa.out H.out.bel) H.out.ge).mono ?_; rintro e w36 ⟨M36, rfl, ho, hb⟩; have O36 := Az.mk ho; have H1 := Az.mk (H.out.made hb); clear ho hb; clear H; have H := H1; clear H1; clear tk5 _tk; have tk6 : True := trivial) | (go_at_call 28; have _tk := tk6; refine (lpaPl_call HLN.out rfl (H.out.rdP 2 rfl O20.out) (H.out.rdP 0 rfl O36.out)).mono ?_; rintro e w37 ⟨rfl, hb⟩; have H1 := Az.mk (H.out.step hb); clear hb; clear H; have H := H1; clear H1; clear tk6 _tk; have tk7 : True := trivial))
   (try simp only [Act.put, zs1, zs2, zs3])
   go_ret
   exact ⟨rfl, HB0.out.trans (H.out.bel.mono HB0.out.size)⟩
  | true =>
   have RBa := Az.mk hrb
   clear hrb
   go_upto_region 7 with (first | ((with_reducible refine zqg (N := 19) rfl ?_); refine H.out.ld_row 0 rfl rfl rfl rfl Try.underlying57 rfl hs57 ?_; (try simp only [Act.put, zs1, zs2, zs3])) | (go_at_call 41; have _tk := tk1; refine (implPl_q ta Erp.out HFa.out (rdBelow HRa.out H.out.bel) H.out.ge).mono ?_; rintro e w20 ⟨M20, rfl, ho, hb⟩; have O20 := Az.mk ho; have H1 := Az.mk (H.out.made hb); clear ho hb; clear H; have H := H1; clear H1; clear tk1 _tk; have tk2 : True := trivial) | ((with_reducible refine zqg (N := 23) rfl ?_); refine H.out.ld_row 1 rfl rfl rfl rfl Try.underlying57 rfl hs57 ?_; (try simp only [Act.put, zs1, zs2, zs3])) | (go_at_call 44; have _tk := tk2; refine (specPl_q ta Erp.out HFa.out (rdBelow HRa.out H.out.bel) H.out.ge).mono ?_; rintro e w24 ⟨M24, rfl, ho, hb⟩; have O24 := Az.mk ho; have H1 := Az.mk (H.out.made hb); clear ho hb; clear H; have H := H1; clear H1; clear tk2 _tk; have tk3 : True := trivial) | (go_at_call 28; have _tk := tk3; refine (lpaPl_call HLN.out rfl (H.out.rdP 1 rfl O20.out) (H.out.rdP 0 rfl O24.out)).mono ?_; rintro e w25 ⟨rfl, hb⟩; have H1 := Az.mk (H.out.step hb); clear hb; clear H; have H := H1; clear H1; clear tk3 _tk; have tk4 : True := trivial) | ((with_reducible refine zqg (N := 29) rfl ?_); refine gate_guard (by rfl) ?_; dsimp only; refine H.out.ld_row 2 rfl rfl rfl rfl Try.underlying57 rfl hs57 ?_; (try simp only [Act.put, zs1, zs2, zs3])) | (go_at_call 36; have _tk := tk4; refine (specRt_q ta RBa.out HFa.out (rdBelow HRa.out H.out.bel)).mono ?_; rintro e w30 ⟨rfl, hb⟩; have H1 := Az.mk (H.out.step hb); clear hb; clear H; have H := H1; clear H1; clear tk4 _tk; have tk5 : True := trivial))
   (try simp only [Act.put, zs1, zs2, zs3])
   obtain ⟨lo, hi, wl, O20, H⟩ : ∃ lo hi wl, Az (OwP wl w15.heap.size lo hi M20 rp) ∧ Az (Hq w15.heap.size w15 _ [.set (fun k => lo ≤ k ∧ k < hi) wl, .box g4 (cR Ma (ta, Da)) 57]) := ⟨_, _, _, O20, ⟨H.out.sel [1, 2] _ (by decide) rfl⟩⟩
   obtain ⟨Am, cm⟩ := Ma
   have SH := Az.mk (root_shape RBa.out)
   cases Am with
   | none =>
    have hD : Da = [] := nil_of HRa.out.2
    subst hD
    have hrp : rp = [] := by rw [← Erp.out]; exact rootPl_nil n ta
    subst hrp
    go_wp2
    go_loopg [6] 1 (fun kq v6 w' => v6 = .int .i64 0 ∧ Az (Hq w15.heap.size w15 w' [.set (fun k => lo ≤ k ∧ k < hi) wl, .box g4 (cR (none, cm) (ta, [])) 57]))
    case atStart => exact ⟨rfl, H⟩
    case round =>
     clear H
     obtain ⟨rfl, H⟩ := hrel
     go_wp2_with (first | ((with_reducible refine zqg (N := 40) rfl ?_); refine H.out.ld_cell 1 rfl 1 (v := .slice none ([] : List S65).length cm) rfl rfl rfl rfl Try.underlying55 rfl ?_; (try simp only [Act.put, zs1, zs2, zs3])))
     (try simp only [Act.put, zs1, zs2, zs3])
     simp only [pV]
     go_loopg [9] 1 (fun kq v9 w' => v9 = .int .i64 1 ∧ Az (Hq w15.heap.size w15 w' [.set (fun k => lo ≤ k ∧ k < hi) wl, .box g4 (cR (none, cm) (ta, [])) 57]))
     case atStart => exact ⟨rfl, H⟩
     case round =>
      clear H
      obtain ⟨rfl, H⟩ := hrel
      go_wp2
      go_ret
      exact ⟨rfl, HB0.out.trans (H.out.bel.mono HB0.out.size)⟩
   | some ad =>
    go_wp2
    go_loopg [6] Da.length (fun kq v6 w' => ∃ (i : Nat), v6 = .int .i64 (i : Int) ∧ Az (i + kq = Da.length) ∧ Az (Hq w15.heap.size w15 w' [.set (fun k => lo ≤ k ∧ k < hi) wl, .box g4 (cR (some ad, cm) (ta, Da)) 57]))
    case atStart => exact ⟨0, rfl, ⟨Nat.zero_add _⟩, H⟩
    case round =>
     clear H
     obtain ⟨i, rfl, HI, H⟩ := hrel
     by_cases hi : i < Da.length
     ·have c42 : decide (i < Da.length) = true := decide_eq_true hi
      have c42i : decide ((i : Int) < (Da.length : Int)) = true := decide_eq_true (by omega)
      have HE := Az.mk hi
      have HWi : Az (wrap64 ((i : Int) + 1) = ((i + 1 : Nat) : Int)) := ⟨by rw [wrap_ok (by have := SH.out.1; omega)]; omega⟩
      have p1 := eq_true (show (0 : Int) ≤ (i : Int) by omega)
      have q1 := eq_true (show (i : Int) < (Da.length : Int) by omega)
      have q1n := eq_true hi
      clear hi
      obtain ⟨gk6, hg6⟩ : ∃ x, x = gk := ⟨_, rfl⟩
      subst hg6
      obtain ⟨x, hx⟩ : ∃ x, x = Da.getD i z65 := ⟨_, rfl⟩
      have HX := Az.mk hx
      have HX3 := Az.mk (show x.f1.length = 3 by rw [hx]; exact SH.out.2 _ (getD_mem HE.out))
      clear hx
      go_wp2_with (first | ((with_reducible refine zqg (N := 40) rfl ?_); refine H.out.ld_cell 1 rfl 1 (v := .slice (some ad) Da.length cm) rfl rfl rfl rfl Try.underlying55 rfl ?_; (try simp only [Act.put, zs1, zs2, zs3])))
      (try simp only [Act.put, zs1, zs2, zs3])
      go_loopg [7] 3 (fun kq v7 w' => ∃ (k : Nat), v7 = .int .i64 (k : Int) ∧ Az (k + kq = 3) ∧ Az (Hq w15.heap.size w15 w' [.set (fun k => lo ≤ k ∧ k < hi) wl, .box g4 (cR (some ad, cm) (ta, Da)) 57]))
      case atStart => exact ⟨0, rfl, ⟨rfl⟩, H⟩
      case round =>
       clear H
       obtain ⟨k, rfl, HK, H⟩ := hrel
       obtain ⟨ad2, A1, c1, e2, hx_0, hx_1, hl1, hi1⟩ := at_T65 (rdBelow HRa.out H.out.bel).2 (i : Int) (by omega) (by have := HE.out; omega)
       cases e2
       simp only [Int.toNat_natCast, rd_T65] at hx_0 hx_1 hl1 hi1
       rw [← HX.out] at hx_0 hx_1 hl1 hi1
       rw [HX3.out] at hx_1
       by_cases hk : k < 3
       ·have c53 : decide (k < 3) = true := decide_eq_true hk
        have c53i : decide ((k : Int) < 3) = true := decide_eq_true (by omega)
        have HE2 := Az.mk hk
        have HWk : Az (wrap64 ((k : Int) + 1) = ((k + 1 : Nat) : Int)) := ⟨by rw [wrap_ok (by omega)]; omega⟩
        have p2 := eq_true (show (0 : Int) ≤ (k : Int) by omega)
        have q2 := eq_true (show (k : Int) < 3 by omega)
        have q2n := eq_true hk
        clear hk hl1 hi1
        obtain ⟨gk7, hg7⟩ : ∃ x, x = gk := ⟨_, rfl⟩
        subst hg7
        obtain ⟨y, hy⟩ : ∃ y, y = x.f1.getD k z29 := ⟨_, rfl⟩
        have HY := Az.mk hy
        have HY5 := Az.mk (show y.f2.length ≤ 5 by rw [hy]; exact (FVa.out.vol x (by rw [HX.out]; exact getD_mem HE.out)).2 _ (getD_mem (by rw [HX3.out]; exact HE2.out)))
        clear hy
        go_wp2_with (first | ((with_reducible refine zqg (N := 47) rfl ?_); refine H.out.ld_cell 1 rfl 1 (v := .slice (some ad) Da.length cm) rfl rfl rfl rfl Try.underlying55 rfl ?_; (try simp only [Act.put, zs1, zs2, zs3])))
        (try simp only [Act.put, zs1, zs2, zs3])
        go_loopg [8] y.f2.length (fun kq v8 w' => ∃ (m : Nat), v8 = .int .i64 (m : Int) ∧ Az (m + kq = y.f2.length) ∧ Az (Hq w15.heap.size w15 w' [.set (fun k => lo ≤ k ∧ k < hi) wl, .box g4 (cR (some ad, cm) (ta, Da)) 57]))
        case atStart => exact ⟨0, rfl, ⟨Nat.zero_add _⟩, H⟩
        case round =>
         clear H hx_0 hx_1
         obtain ⟨m, rfl, HM, H⟩ := hrel
         have tk0 : True := trivial
         obtain ⟨ad2, A1, c1, e2, hx_0, hx_1, hl1, hi1⟩ := at_T65 (rdBelow HRa.out H.out.bel).2 (i : Int) (by omega) (by have := HE.out; omega)
         cases e2
         simp only [Int.toNat_natCast, rd_T65] at hx_0 hx_1 hl1 hi1
         rw [← HX.out] at hx_0 hx_1 hl1 hi1
         rw [HX3.out] at hx_1
         have hl1' := hl1
         rw [HX3.out] at hl1'
         obtain ⟨ad3, A2, c2, e3, hy_0, hy_1, hy_2, hl2, hi2⟩ := at_T29 hi1 (k : Int) (by omega) (by have := HE2.out; have := HX3.out; omega)
         subst e3
         simp only [Int.toNat_natCast, rd_T29] at hy_0 hy_1 hy_2 hl2 hi2
         rw [← HY.out] at hy_0 hy_1 hy_2 hl2 hi2
         by_cases hm : m < y.f2.length
         ·have c68 : decide (m < y.f2.length) = true := decide_eq_true hm
          have c68i : decide ((m : Int) < (y.f2.length : Int)) = true := decide_eq_true (by omega)
          have HE3 := Az.mk hm
          have HWm : Az (wrap64 ((m : Int) + 1) = ((m + 1 : Nat) : Int)) := ⟨by rw [wrap_ok (by have := HY5.out; omega)]; omega⟩
          have p3 := eq_true (show (0 : Int) ≤ (m : Int) by omega)
          have q3 := eq_true (show (m : Int) < (y.f2.length : Int) by omega)
          have q3n := eq_true hm
          obtain ⟨ad4, e4, hz_0, hz_1⟩ := at_T37 hi2 (m : Int) (by omega) (by omega)
          subst e4
          simp only [Int.toNat_natCast, rd_T37] at hz_0 hz_1
          obtain ⟨z, hz⟩ : ∃ z, z = y.f2.getD m z37 := ⟨_, rfl⟩
          rw [← hz] at hz_0 hz_1
          have hin : decide (z ∈ rp) = true := decide_eq_true (by rw [← Erp.out, rootPl_mem RBa.out]; exact mem_all (x := x) (y := y) (by rw [HX.out]; exact getD_mem HE.out) (by rw [HY.out]; exact getD_mem (by rw [HX3.out]; exact HE2.out)) (by rw [hz]; exact getD_mem HE3.out))
          have HIN := Az.mk hin
          clear hm hl1 hi1 hl1' hl2 hi2 hz hin
          obtain ⟨gk8, hg8⟩ : ∃ x, x = gk := ⟨_, rfl⟩
          subst hg8
          go_wp2_with (first | ((with_reducible refine zqg (N := 58) rfl ?_); refine H.out.ld_cell 1 rfl 1 (v := .slice (some ad) Da.length cm) rfl rfl rfl rfl Try.underlying55 rfl ?_; (try simp only [Act.put, zs1, zs2, zs3])) | ((with_reducible refine zqg (N := 73) rfl ?_); refine H.out.ld_cell 1 rfl 1 (v := .slice (some ad) Da.length cm) rfl rfl rfl rfl Try.underlying55 rfl ?_; (try simp only [Act.put, zs1, zs2, zs3])) | (go_at_call 42; have _tk := tk0; refine (lpaIn_q HIN.out HLN.out (H.out.rdP 0 rfl O20.out)).mono ?_; rintro e w85 ⟨rfl, hb⟩; have H1 := Az.mk (H.out.step hb); clear hb; clear H; have H := H1; clear H1; clear tk0 _tk; have tk1 : True := trivial))
          (try simp only [Act.put, zs1, zs2, zs3])
          go_roundg (y.f2.length - (m + 1))
          case measure => have := HM.out; have := HE3.out; omega
          case rel => exact ⟨m + 1, by rw [← HWm.out], ⟨by have := HE3.out; omega⟩, H⟩
         ·have c68 : decide (m < y.f2.length) = false := decide_eq_false hm
          have c68i : decide ((m : Int) < (y.f2.length : Int)) = false := decide_eq_false (by omega)
          clear hm hl1 hi1 hl1' hl2 hi2
          go_wp2_with (first | ((with_reducible refine zqg (N := 58) rfl ?_); refine H.out.ld_cell 1 rfl 1 (v := .slice (some ad) Da.length cm) rfl rfl rfl rfl Try.underlying55 rfl ?_; (try simp only [Act.put, zs1, zs2, zs3])))
          (try simp only [Act.put, zs1, zs2, zs3])
          go_roundg (3 - (k + 1))
          case measure => have := HK.out; have := HE2.out; omega
          case rel => exact ⟨k + 1, by rw [← HWk.out], ⟨by have := HE2.out; omega⟩, H⟩
       ·have c53 : decide (k < 3) = false := decide_eq_false hk
        have c53i : decide ((k : Int) < 3) = false := decide_eq_false (by omega)
        clear hk hl1 hi1
        go_wp2_with (first | ((with_reducible refine zqg (N := 47) rfl ?_); refine H.out.ld_cell 1 rfl 1 (v := .slice (some ad) Da.length cm) rfl rfl rfl rfl Try.underlying55 rfl ?_; (try simp only [Act.put, zs1, zs2, zs3])))
        (try simp only [Act.put, zs1, zs2, zs3])
        go_roundg (Da.length - (i + 1))
        case measure => have := HI.out; have := HE.out; omega
        case rel => exact ⟨i + 1, by rw [← HWi.out], ⟨by have := HE.out; omega⟩, H⟩
     ·have c42 : decide (i < Da.length) = false := decide_eq_false hi
      have c42i : decide ((i : Int) < (Da.length : Int)) = false := decide_eq_false (by omega)
      clear hi HI
      obtain ⟨Ap, cp⟩ := M20
      simp only [pV]
      go_wp2_with (first | ((with_reducible refine zqg (N := 40) rfl ?_); refine H.out.ld_cell 1 rfl 1 (v := .slice (some ad) Da.length cm) rfl rfl rfl rfl Try.underlying55 rfl ?_; (try simp only [Act.put, zs1, zs2, zs3])))
      (try simp only [Act.put, zs1, zs2, zs3])
      go_loopg [9] (rp.length + 1) (fun kq v9 w' => ∃ (i : Nat), v9 = .int .i64 (i : Int) ∧ Az (1 ≤ i) ∧ Az (i + kq = rp.length + 2) ∧ Az (Hq w15.heap.size w15 w' [.set (fun k => lo ≤ k ∧ k < hi) wl, .box g4 (cR (some ad, cm) (ta, Da)) 57]))
      case atStart => exact ⟨1, rfl, ⟨Nat.le_refl _⟩, ⟨by omega⟩, H⟩
      case round =>
       clear H
       obtain ⟨i, rfl, HI1, HI, H⟩ := hrel
       by_cases hi : i < rp.length
       ·have c90 : decide (i < rp.length) = true := decide_eq_true hi
        have c90i : decide ((i : Int) < (rp.length : Int)) = true := decide_eq_true (by omega)
        have HE := Az.mk hi
        have HWi : Az (wrap64 ((i : Int) + 1) = ((i + 1 : Nat) : Int)) := ⟨by rw [wrap_ok (by have := HLN.out; omega)]; omega⟩
        have hm : wrap64 ((i : Int) - 1) = ((i - 1 : Nat) : Int) := by rw [wrap_ok (by have := HLN.out; omega)]; have := HI1.out; omega
        have hst := strict_at (l := rp) (by rw [← Erp.out]; exact rootPl_strict RBa.out) (i := i) HI1.out HE.out
        have hr := (H.out.rdP 0 rfl O20.out).2
        obtain ⟨ad, eA, hp_0, hp_1⟩ := at_T37 hr ((i - 1 : Nat) : Int) (by omega) (by have := HE.out; omega)
        obtain ⟨ad2, e2, hq_0, hq_1⟩ := at_T37 hr (i : Int) (by omega) (by omega)
        simp only at eA e2
        subst eA
        cases e2
        simp only [Int.toNat_natCast, rd_T37] at hp_0 hp_1 hq_0 hq_1
        obtain ⟨a, ha⟩ : ∃ a, a = rp.getD (i - 1) z37 := ⟨_, rfl⟩
        obtain ⟨b, hb⟩ : ∃ b, b = rp.getD i z37 := ⟨_, rfl⟩
        rw [← ha] at hp_0 hp_1 hst
        rw [← hb] at hq_0 hq_1 hst
        have c104 : decide (a.f0 > b.f0) = false := decide_eq_false (by omega)
        have c104b : decide (b.f0 < a.f0) = false := decide_eq_false (by omega)
        have p0 := eq_true (show (0 : Int) ≤ (i : Int) by omega)
        have q0 := eq_true (show (i : Int) < (rp.length : Int) by omega)
        have q0n := eq_true hi
        have p5 := eq_true (show (0 : Int) ≤ ((i - 1 : Nat) : Int) by omega)
        have q5 := eq_true (show ((i - 1 : Nat) : Int) < (rp.length : Int) by have := HE.out; omega)
        have q5n := eq_true (show i - 1 < rp.length by have := HE.out; omega)
        clear hr ha hb hi
        obtain ⟨gk9, hg9⟩ : ∃ x, x = gk := ⟨_, rfl⟩
        subst hg9
        go_wp2
        have hS : wr.drew.cell? (ad.add ((i - 1) * 2)) = some (.int .i64 a.f0) ∧ wr.drew.cell? ⟨(ad.add ((i - 1) * 2)).block, (ad.add ((i - 1) * 2)).off + 1, none⟩ = some (.int .i64 a.f1) ∧ wr.drew.cell? (ad.add (i * 2)) = some (.int .i64 b.f0) ∧ wr.drew.cell? ⟨(ad.add (i * 2)).block, (ad.add (i * 2)).off + 1, none⟩ = some (.int .i64 b.f1) := ⟨hp_0, hp_1, hq_0, hq_1⟩
        by_cases hd : a.f0 = b.f0
        ·have c117 : decide (a.f0 = b.f0) = true := decide_eq_true hd
         have c117b : (a.f0 == b.f0) = true := beq_iff_eq.mpr hd
         have c130 : decide (a.f1 ≥ b.f1) = false := decide_eq_false (by omega)
         have c130b : decide (b.f1 ≤ a.f1) = false := decide_eq_false (by omega)
         clear hd hst
         clear hp_0 hp_1 hq_0 hq_1
         refine start_ (n := 40) (S := fun w' => w'.cell? (ad.add ((i - 1) * 2)) = some (.int .i64 a.f0) ∧ w'.cell? ⟨(ad.add ((i - 1) * 2)).block, (ad.add ((i - 1) * 2)).off + 1, none⟩ = some (.int .i64 a.f1) ∧ w'.cell? (ad.add (i * 2)) = some (.int .i64 b.f0) ∧ w'.cell? ⟨(ad.add (i * 2)).block, (ad.add (i * 2)).off + 1, none⟩ = some (.int .i64 b.f1)) (ds := []) (bm 40 0) (by kernel_rfl) rfl rfl (hS) (fun hHeld => ?_)
         refine zqp (i := 0) (N := some 93) (v := ?_) (a' := ?_) (bm 40 1) rfl rfl (by kernel_rfl) (fun _ _ _ h => h) (Or.inl ⟨by rfl, ?_⟩) ?_ ?_
         rotate_left
         ·intro w'
          go_simp
          with_reducible rfl
         rotate_left
         ·simp only [Act.put, zs1, zs2, zs3, i64_w, i32_w]
          rfl
         refine zqp (i := 1) (N := some 94) (v := ?_) (a' := ?_) (bm 40 3) rfl rfl (by kernel_rfl) (fun _ _ _ h => h) (Or.inl ⟨by rfl, ?_⟩) ?_ ?_
         rotate_left
         ·intro w'
          go_simp
          with_reducible rfl
         rotate_left
         ·simp only [Act.put, zs1, zs2, zs3, i64_w, i32_w]
          rfl
         refine zqp (i := 2) (N := some 95) (v := ?_) (a' := ?_) (bm 40 7) rfl rfl (by kernel_rfl) (fun _ _ _ h => h) (Or.inl ⟨by rfl, ?_⟩) ?_ ?_
         rotate_left
         ·intro w'
          go_simp
          with_reducible rfl
         rotate_left
         ·simp only [Act.put, zs1, zs2, zs3, i64_w, i32_w]
          rfl
         refine zqp (i := 3) (N := some 96) (v := ?_) (a' := ?_) (bm 40 15) rfl rfl (by kernel_rfl) (fun _ _ _ h => h) (Or.inl ⟨by rfl, ?_⟩) ?_ ?_
         rotate_left
         ·intro w'
          go_simp
          with_reducible rfl
         rotate_left
         ·simp only [Act.put, zs1, zs2, zs3, i64_w, i32_w]
          rfl
         refine zqp (i := 4) (N := some 97) (v := ?_) (a' := ?_) (bm 40 31) rfl rfl (by kernel_rfl) (fun _ _ _ h => h) (Or.inl ⟨by rfl, ?_⟩) ?_ ?_
         rotate_left
         ·intro w'
          go_simp
          with_reducible rfl
         rotate_left
         ·simp only [Act.put, zs1, zs2, zs3, i64_w, i32_w]
          rfl
         refine zqp (i := 6) (N := some 99) (v := ?_) (a' := ?_) (bm 40 95) rfl rfl (by kernel_rfl) (fun _ _ _ h => h) (Or.inl ⟨by rfl, ?_⟩) ?_ ?_
         rotate_left
         ·intro w'
          go_simp
          with_reducible rfl
         rotate_left
         ·simp only [Act.put, zs1, zs2, zs3, i64_w, i32_w]
          rfl
         refine zqp (i := 7) (N := some 100) (v := ?_) (a' := ?_) (bm 40 223) rfl rfl (by kernel_rfl) (fun _ _ _ h => h) (Or.inl ⟨by rfl, ?_⟩) ?_ ?_
         rotate_left
         ·intro w'
          go_simp
          with_reducible rfl
         rotate_left
         ·simp only [Act.put, zs1, zs2, zs3, i64_w, i32_w]
          rfl
         refine zqp (i := 8) (N := some 101) (v := ?_) (a' := ?_) (bm 40 479) rfl rfl (by kernel_rfl) (fun _ _ _ h => h) (Or.inl ⟨by rfl, ?_⟩) ?_ ?_
         rotate_left
         ·intro w'
          go_simp
          with_reducible rfl
         rotate_left
         ·simp only [Act.put, zs1, zs2, zs3, i64_w, i32_w]
          rfl
         refine zqp (i := 9) (N := some 102) (v := ?_) (a' := ?_) (bm 40 991) rfl rfl (by kernel_rfl) (fun _ _ _ h => h) (Or.inl ⟨by rfl, ?_⟩) ?_ ?_
         rotate_left
         ·intro w'
          go_simp
          with_reducible rfl
         rotate_left
         ·simp only [Act.put, zs1, zs2, zs3, i64_w, i32_w]
          rfl
         refine zqt (i := 5) (N := some 98) (v := ?_) (a' := ?_) (bm 40 1023) rfl rfl (by kernel_rfl) (fun _ _ _ h => h) (Or.inl ⟨by rfl, ?_⟩) hHeld ?_ ?_
         rotate_left
         ·rintro w' ⟨s0, s1, s2, s3⟩
          go_simp
          with_reducible rfl
         rotate_left
         ·simp only [Act.put, zs1, zs2, zs3, i64_w, i32_w]
          rfl
         refine zqt (i := 10) (N := some 103) (v := ?_) (a' := ?_) (bm 40 2047) rfl rfl (by kernel_rfl) (fun _ _ _ h => h) (Or.inl ⟨by rfl, ?_⟩) hHeld ?_ ?_
         rotate_left
         ·rintro w' ⟨s0, s1, s2, s3⟩
          go_simp
          with_reducible rfl
         rotate_left
         ·simp only [Act.put, zs1, zs2, zs3, i64_w, i32_w]
          rfl
         refine zqp (i := 11) (N := some 104) (v := ?_) (a' := ?_) (bm 40 4095) rfl rfl (by kernel_rfl) (fun _ _ _ h => h) (Or.inl ⟨by rfl, ?_⟩) ?_ ?_
         rotate_left
         ·intro w'
          go_simp
          with_reducible rfl
         rotate_left
         ·simp only [Act.put, zs1, zs2, zs3, i64_w, i32_w]
          rfl
         refine zqp (i := 12) (N := some 105) (v := ?_) (a' := ?_) (bm 40 8191) rfl rfl (by kernel_rfl) (fun _ _ _ h => h) (Or.inl ⟨by rfl, ?_⟩) ?_ ?_
         rotate_left
         ·intro w'
          go_simp
          with_reducible rfl
         rotate_left
         ·simp only [Act.put, zs1, zs2, zs3, i64_w, i32_w]
          rfl
         refine zqp (i := 13) (N := some 106) (v := ?_) (a' := ?_) (bm 40 16383) rfl rfl (by kernel_rfl) (fun _ _ _ h => h) (Or.inl ⟨by rfl, ?_⟩) ?_ ?_
         rotate_left
         ·intro w'
          go_simp
          with_reducible rfl
         rotate_left
         ·simp only [Act.put, zs1, zs2, zs3, i64_w, i32_w]
          rfl
         refine zqp (i := 14) (N := some 107) (v := ?_) (a' := ?_) (bm 40 32767) rfl rfl (by kernel_rfl) (fun _ _ _ h => h) (Or.inl ⟨by rfl, ?_⟩) ?_ ?_
         rotate_left
         ·intro w'
          go_simp
          with_reducible rfl
         rotate_left
         ·simp only [Act.put, zs1, zs2, zs3, i64_w, i32_w]
          rfl
         refine zqp (i := 15) (N := some 108) (v := ?_) (a' := ?_) (bm 40 65535) rfl rfl (by kernel_rfl) (fun _ _ _ h => h) (Or.inl ⟨by rfl, ?_⟩) ?_ ?_
         rotate_left
         ·intro w'
          go_simp
          with_reducible rfl
         rotate_left
         ·simp only [Act.put, zs1, zs2, zs3, i64_w, i32_w]
          rfl
         refine zqp (i := 16) (N := some 109) (v := ?_) (a' := ?_) (bm 40 131071) rfl rfl (by kernel_rfl) (fun _ _ _ h => h) (Or.inl ⟨by rfl, ?_⟩) ?_ ?_
         rotate_left
         ·intro w'
          go_simp
          with_reducible rfl
         rotate_left
         ·simp only [Act.put, zs1, zs2, zs3, i64_w, i32_w]
          rfl
         refine zqp (i := 17) (N := some 110) (v := ?_) (a' := ?_) (bm 40 262143) rfl rfl (by kernel_rfl) (fun _ _ _ h => h) (Or.inl ⟨by rfl, ?_⟩) ?_ ?_
         rotate_left
         ·intro w'
          go_simp
          with_reducible rfl
         rotate_left
         ·simp only [Act.put, zs1, zs2, zs3, i64_w, i32_w]
          rfl
         refine zqp (i := 19) (N := some 112) (v := ?_) (a' := ?_) (bm 40 786431) rfl rfl (by kernel_rfl) (fun _ _ _ h => h) (Or.inl ⟨by rfl, ?_⟩) ?_ ?_
         rotate_left
         ·intro w'
          go_simp
          with_reducible rfl
         rotate_left
         ·simp only [Act.put, zs1, zs2, zs3, i64_w, i32_w]
          rfl
         refine zqp (i := 20) (N := some 113) (v := ?_) (a' := ?_) (bm 40 1835007) rfl rfl (by kernel_rfl) (fun _ _ _ h => h) (Or.inl ⟨by rfl, ?_⟩) ?_ ?_
         rotate_left
         ·intro w'
          go_simp
          with_reducible rfl
         rotate_left
         ·simp only [Act.put, zs1, zs2, zs3, i64_w, i32_w]
          rfl
         refine zqp (i := 21) (N := some 114) (v := ?_) (a' := ?_) (bm 40 3932159) rfl rfl (by kernel_rfl) (fun _ _ _ h => h) (Or.inl ⟨by rfl, ?_⟩) ?_ ?_
         rotate_left
         ·intro w'
          go_simp
          with_reducible rfl
         rotate_left
         ·simp only [Act.put, zs1, zs2, zs3, i64_w, i32_w]
          rfl
         refine zqp (i := 22) (N := some 115) (v := ?_) (a' := ?_) (bm 40 8126463) rfl rfl (by kernel_rfl) (fun _ _ _ h => h) (Or.inl ⟨by rfl, ?_⟩) ?_ ?_
         rotate_left
         ·intro w'
          go_simp
          with_reducible rfl
         rotate_left
         ·simp only [Act.put, zs1, zs2, zs3, i64_w, i32_w]
          rfl
         refine zqt (i := 18) (N := some 111) (v := ?_) (a' := ?_) (bm 40 8388607) rfl rfl (by kernel_rfl) (fun _ _ _ h => h) (Or.inl ⟨by rfl, ?_⟩) hHeld ?_ ?_
         rotate_left
         ·rintro w' ⟨s0, s1, s2, s3⟩
          go_simp
          with_reducible rfl
         rotate_left
         ·simp only [Act.put, zs1, zs2, zs3, i64_w, i32_w]
          rfl
         refine zqt (i := 23) (N := some 116) (v := ?_) (a' := ?_) (bm 40 16777215) rfl rfl (by kernel_rfl) (fun _ _ _ h => h) (Or.inl ⟨by rfl, ?_⟩) hHeld ?_ ?_
         rotate_left
         ·rintro w' ⟨s0, s1, s2, s3⟩
          go_simp
          with_reducible rfl
         rotate_left
         ·simp only [Act.put, zs1, zs2, zs3, i64_w, i32_w]
          rfl
         refine zqp (i := 24) (N := some 117) (v := ?_) (a' := ?_) (bm 40 33554431) rfl rfl (by kernel_rfl) (fun _ _ _ h => h) (Or.inl ⟨by rfl, ?_⟩) ?_ ?_
         rotate_left
         ·intro w'
          go_simp
          with_reducible rfl
         rotate_left
         ·simp only [Act.put, zs1, zs2, zs3, i64_w, i32_w]
          rfl
         refine zqp (i := 25) (N := some 118) (v := ?_) (a' := ?_) (bm 40 67108863) rfl rfl (by kernel_rfl) (fun _ _ _ h => h) (Or.inl ⟨by rfl, ?_⟩) ?_ ?_
         rotate_left
         ·intro w'
          go_simp
          with_reducible rfl
         rotate_left
         ·simp only [Act.put, zs1, zs2, zs3, i64_w, i32_w]
          rfl
         refine zqp (i := 26) (N := some 119) (v := ?_) (a' := ?_) (bm 40 134217727) rfl rfl (by kernel_rfl) (fun _ _ _ h => h) (Or.inl ⟨by rfl, ?_⟩) ?_ ?_
         rotate_left
         ·intro w'
          go_simp
          with_reducible rfl
         rotate_left
         ·simp only [Act.put, zs1, zs2, zs3, i64_w, i32_w]
          rfl
         refine zqp (i := 27) (N := some 120) (v := ?_) (a' := ?_) (bm 40 268435455) rfl rfl (by kernel_rfl) (fun _ _ _ h => h) (Or.inl ⟨by rfl, ?_⟩) ?_ ?_
         rotate_left
         ·intro w'
          go_simp
          with_reducible rfl
         rotate_left
         ·simp only [Act.put, zs1, zs2, zs3, i64_w, i32_w]
          rfl
         refine zqp (i := 28) (N := some 121) (v := ?_) (a' := ?_) (bm 40 536870911) rfl rfl (by kernel_rfl) (fun _ _ _ h => h) (Or.inl ⟨by rfl, ?_⟩) ?_ ?_
         rotate_left
         ·intro w'
          go_simp
          with_reducible rfl
         rotate_left
         ·simp only [Act.put, zs1, zs2, zs3, i64_w, i32_w]
          rfl
         refine zqp (i := 29) (N := some 122) (v := ?_) (a' := ?_) (bm 40 1073741823) rfl rfl (by kernel_rfl) (fun _ _ _ h => h) (Or.inl ⟨by rfl, ?_⟩) ?_ ?_
         rotate_left
         ·intro w'
          go_simp
          with_reducible rfl
         rotate_left
         ·simp only [Act.put, zs1, zs2, zs3, i64_w, i32_w]
          rfl
         refine zqp (i := 30) (N := some 123) (v := ?_) (a' := ?_) (bm 40 2147483647) rfl rfl (by kernel_rfl) (fun _ _ _ h => h) (Or.inl ⟨by rfl, ?_⟩) ?_ ?_
         rotate_left
         ·intro w'
          go_simp
          with_reducible rfl
         rotate_left
         ·simp only [Act.put, zs1, zs2, zs3, i64_w, i32_w]
          rfl
         refine zqp (i := 32) (N := some 125) (v := ?_) (a' := ?_) (bm 40 6442450943) rfl rfl (by kernel_rfl) (fun _ _ _ h => h) (Or.inl ⟨by rfl, ?_⟩) ?_ ?_
         rotate_left
         ·intro w'
          go_simp
          with_reducible rfl
         rotate_left
         ·simp only [Act.put, zs1, zs2, zs3, i64_w, i32_w]
          rfl
         refine zqp (i := 33) (N := some 126) (v := ?_) (a' := ?_) (bm 40 15032385535) rfl rfl (by kernel_rfl) (fun _ _ _ h => h) (Or.inl ⟨by rfl, ?_⟩) ?_ ?_
         rotate_left
         ·intro w'
          go_simp
          with_reducible rfl
         rotate_left
         ·simp only [Act.put, zs1, zs2, zs3, i64_w, i32_w]
          rfl
         refine zqp (i := 34) (N := some 127) (v := ?_) (a' := ?_) (bm 40 32212254719) rfl rfl (by kernel_rfl) (fun _ _ _ h => h) (Or.inl ⟨by rfl, ?_⟩) ?_ ?_
         rotate_left
         ·intro w'
          go_simp
          with_reducible rfl
         rotate_left
         ·simp only [Act.put, zs1, zs2, zs3, i64_w, i32_w]
          rfl
         refine zqp (i := 35) (N := some 128) (v := ?_) (a' := ?_) (bm 40 66571993087) rfl rfl (by kernel_rfl) (fun _ _ _ h => h) (Or.inl ⟨by rfl, ?_⟩) ?_ ?_
         rotate_left
         ·intro w'
          go_simp
          with_reducible rfl
         rotate_left
         ·simp only [Act.put, zs1, zs2, zs3, i64_w, i32_w]
          rfl
         refine zqt (i := 31) (N := some 124) (v := ?_) (a' := ?_) (bm 40 68719476735) rfl rfl (by kernel_rfl) (fun _ _ _ h => h) (Or.inl ⟨by rfl, ?_⟩) hHeld ?_ ?_
         rotate_left
         ·rintro w' ⟨s0, s1, s2, s3⟩
          go_simp
          with_reducible rfl
         rotate_left
         ·simp only [Act.put, zs1, zs2, zs3, i64_w, i32_w]
          rfl
         refine zqt (i := 36) (N := some 129) (v := ?_) (a' := ?_) (bm 40 137438953471) rfl rfl (by kernel_rfl) (fun _ _ _ h => h) (Or.inl ⟨by rfl, ?_⟩) hHeld ?_ ?_
         rotate_left
         ·rintro w' ⟨s0, s1, s2, s3⟩
          go_simp
          with_reducible rfl
         rotate_left
         ·simp only [Act.put, zs1, zs2, zs3, i64_w, i32_w]
          rfl
         refine zqp (i := 37) (N := some 130) (v := ?_) (a' := ?_) (bm 40 274877906943) rfl rfl (by kernel_rfl) (fun _ _ _ h => h) (Or.inl ⟨by rfl, ?_⟩) ?_ ?_
         rotate_left
         ·intro w'
          go_simp
          with_reducible rfl
         rotate_left
         ·simp only [Act.put, zs1, zs2, zs3, i64_w, i32_w]
          rfl
         refine zqp (i := 38) (N := some 131) (v := ?_) (a' := ?_) (bm 40 549755813887) rfl rfl (by kernel_rfl) (fun _ _ _ h => h) (Or.inl ⟨by rfl, ?_⟩) ?_ ?_
         rotate_left
         ·intro w'
          go_simp
          with_reducible rfl
         rotate_left
         ·simp only [Act.put, zs1, zs2, zs3, i64_w, i32_w]
          rfl
         refine zqp (i := 39) (N := some 132) (v := ?_) (a' := ?_) (bm 40 1099511627775) rfl rfl (by kernel_rfl) (fun _ _ _ h => h) (Or.inl ⟨by rfl, ?_⟩) ?_ ?_
         rotate_left
         ·intro w'
          go_simp
          with_reducible rfl
         rotate_left
         ·simp only [Act.put, zs1, zs2, zs3, i64_w, i32_w]
          rfl
         refine done_ (by kernel_rfl) ?_
         go_wp2
         go_roundg (rp.length + 2 - (i + 1))
         case measure => have := HI.out; have := HE.out; omega
         case rel => exact ⟨i + 1, by rw [← HWi.out], ⟨by omega⟩, ⟨by have := HE.out; omega⟩, ⟨H.out.drew⟩⟩
        ·have c117 : decide (a.f0 = b.f0) = false := decide_eq_false hd
         have c117b : (a.f0 == b.f0) = false := beq_eq_false_iff_ne.mpr hd
         clear hd hst
         clear hp_0 hp_1 hq_0 hq_1
         refine start_ (n := 40) (S := fun w' => w'.cell? (ad.add ((i - 1) * 2)) = some (.int .i64 a.f0) ∧ w'.cell? ⟨(ad.add ((i - 1) * 2)).block, (ad.add ((i - 1) * 2)).off + 1, none⟩ = some (.int .i64 a.f1) ∧ w'.cell? (ad.add (i * 2)) = some (.int .i64 b.f0) ∧ w'.cell? ⟨(ad.add (i * 2)).block, (ad.add (i * 2)).off + 1, none⟩ = some (.int .i64 b.f1)) (ds := []) (bm 40 0) (by kernel_rfl) rfl rfl (hS) (fun hHeld => ?_)
         refine zqp (i := 0) (N := some 93) (v := ?_) (a' := ?_) (bm 40 1) rfl rfl (by kernel_rfl) (fun _ _ _ h => h) (Or.inl ⟨by rfl, ?_⟩) ?_ ?_
         rotate_left
         ·intro w'
          go_simp
          with_reducible rfl
         rotate_left
         ·simp only [Act.put, zs1, zs2, zs3, i64_w, i32_w]
          rfl
         refine zqp (i := 1) (N := some 94) (v := ?_) (a' := ?_) (bm 40 3) rfl rfl (by kernel_rfl) (fun _ _ _ h => h) (Or.inl ⟨by rfl, ?_⟩) ?_ ?_
         rotate_left
         ·intro w'
          go_simp
          with_reducible rfl
         rotate_left
         ·simp only [Act.put, zs1, zs2, zs3, i64_w, i32_w]
          rfl
         refine zqp (i := 2) (N := some 95) (v := ?_) (a' := ?_) (bm 40 7) rfl rfl (by kernel_rfl) (fun _ _ _ h => h) (Or.inl ⟨by rfl, ?_⟩) ?_ ?_
         rotate_left
         ·intro w'
          go_simp
          with_reducible rfl
         rotate_left
         ·simp only [Act.put, zs1, zs2, zs3, i64_w, i32_w]
          rfl
         refine zqp (i := 3) (N := some 96) (v := ?_) (a' := ?_) (bm 40 15) rfl rfl (by kernel_rfl) (fun _ _ _ h => h) (Or.inl ⟨by rfl, ?_⟩) ?_ ?_
         rotate_left
         ·intro w'
          go_simp
          with_reducible rfl
         rotate_left
         ·simp only [Act.put, zs1, zs2, zs3, i64_w, i32_w]
          rfl
         refine zqp (i := 4) (N := some 97) (v := ?_) (a' := ?_) (bm 40 31) rfl rfl (by kernel_rfl) (fun _ _ _ h => h) (Or.inl ⟨by rfl, ?_⟩) ?_ ?_
         rotate_left
         ·intro w'
          go_simp
          with_reducible rfl
         rotate_left
         ·simp only [Act.put, zs1, zs2, zs3, i64_w, i32_w]
          rfl
         refine zqp (i := 6) (N := some 99) (v := ?_) (a' := ?_) (bm 40 95) rfl rfl (by kernel_rfl) (fun _ _ _ h => h) (Or.inl ⟨by rfl, ?_⟩) ?_ ?_
         rotate_left
         ·intro w'
          go_simp
          with_reducible rfl
         rotate_left
         ·simp only [Act.put, zs1, zs2, zs3, i64_w, i32_w]
          rfl
         refine zqp (i := 7) (N := some 100) (v := ?_) (a' := ?_) (bm 40 223) rfl rfl (by kernel_rfl) (fun _ _ _ h => h) (Or.inl ⟨by rfl, ?_⟩) ?_ ?_
         rotate_left
         ·intro w'
          go_simp
          with_reducible rfl
         rotate_left
         ·simp only [Act.put, zs1, zs2, zs3, i64_w, i32_w]
          rfl
         refine zqp (i := 8) (N := some 101) (v := ?_) (a' := ?_) (bm 40 479) rfl rfl (by kernel_rfl) (fun _ _ _ h => h) (Or.inl ⟨by rfl, ?_⟩) ?_ ?_
         rotate_left
         ·intro w'
          go_simp
          with_reducible rfl
         rotate_left
         ·simp only [Act.put, zs1, zs2, zs3, i64_w, i32_w]
          rfl
         refine zqp (i := 9) (N := some 102) (v := ?_) (a' := ?_) (bm 40 991) rfl rfl (by kernel_rfl) (fun _ _ _ h => h) (Or.inl ⟨by rfl, ?_⟩) ?_ ?_
         rotate_left
         ·intro w'
          go_simp
          with_reducible rfl
         rotate_left
         ·simp only [Act.put, zs1, zs2, zs3, i64_w, i32_w]
          rfl
         refine zqt (i := 5) (N := some 98) (v := ?_) (a' := ?_) (bm 40 1023) rfl rfl (by kernel_rfl) (fun _ _ _ h => h) (Or.inl ⟨by rfl, ?_⟩) hHeld ?_ ?_
         rotate_left
         ·rintro w' ⟨s0, s1, s2, s3⟩
          go_simp
          with_reducible rfl
         rotate_left
         ·simp only [Act.put, zs1, zs2, zs3, i64_w, i32_w]
          rfl
         refine zqt (i := 10) (N := some 103) (v := ?_) (a' := ?_) (bm 40 2047) rfl rfl (by kernel_rfl) (fun _ _ _ h => h) (Or.inl ⟨by rfl, ?_⟩) hHeld ?_ ?_
         rotate_left
         ·rintro w' ⟨s0, s1, s2, s3⟩
          go_simp
          with_reducible rfl
         rotate_left
         ·simp only [Act.put, zs1, zs2, zs3, i64_w, i32_w]
          rfl
         refine zqp (i := 11) (N := some 104) (v := ?_) (a' := ?_) (bm 40 4095) rfl rfl (by kernel_rfl) (fun _ _ _ h => h) (Or.inl ⟨by rfl, ?_⟩) ?_ ?_
         rotate_left
         ·intro w'
          go_simp
          with_reducible rfl
         rotate_left
         ·simp only [Act.put, zs1, zs2, zs3, i64_w, i32_w]
          rfl
         refine zqp (i := 12) (N := some 105) (v := ?_) (a' := ?_) (bm 40 8191) rfl rfl (by kernel_rfl) (fun _ _ _ h => h) (Or.inl ⟨by rfl, ?_⟩) ?_ ?_
         rotate_left
         ·intro w'
          go_simp
          with_reducible rfl
         rotate_left
         ·simp only [Act.put, zs1, zs2, zs3, i64_w, i32_w]
          rfl
         refine zqp (i := 13) (N := some 106) (v := ?_) (a' := ?_) (bm 40 16383) rfl rfl (by kernel_rfl) (fun _ _ _ h => h) (Or.inl ⟨by rfl, ?_⟩) ?_ ?_
         rotate_left
         ·intro w'
          go_simp
          with_reducible rfl
         rotate_left
         ·simp only [Act.put, zs1, zs2, zs3, i64_w, i32_w]
          rfl
         refine zqp (i := 14) (N := some 107) (v := ?_) (a' := ?_) (bm 40 32767) rfl rfl (by kernel_rfl) (fun _ _ _ h => h) (Or.inl ⟨by rfl, ?_⟩) ?_ ?_
         rotate_left
         ·intro w'
          go_simp
          with_reducible rfl
         rotate_left
         ·simp only [Act.put, zs1, zs2, zs3, i64_w, i32_w]
          rfl
         refine zqp (i := 15) (N := some 108) (v := ?_) (a' := ?_) (bm 40 65535) rfl rfl (by kernel_rfl) (fun _ _ _ h => h) (Or.inl ⟨by rfl, ?_⟩) ?_ ?_
         rotate_left
         ·intro w'
          go_simp
          with_reducible rfl
         rotate_left
         ·simp only [Act.put, zs1, zs2, zs3, i64_w, i32_w]
          rfl
         refine zqp (i := 16) (N := some 109) (v := ?_) (a' := ?_) (bm 40 131071) rfl rfl (by kernel_rfl) (fun _ _ _ h => h) (Or.inl ⟨by rfl, ?_⟩) ?_ ?_
         rotate_left
         ·intro w'
          go_simp
          with_reducible rfl
         rotate_left
         ·simp only [Act.put, zs1, zs2, zs3, i64_w, i32_w]
          rfl
         refine zqp (i := 17) (N := some 110) (v := ?_) (a' := ?_) (bm 40 262143) rfl rfl (by kernel_rfl) (fun _ _ _ h => h) (Or.inl ⟨by rfl, ?_⟩) ?_ ?_
         rotate_left
         ·intro w'
          go_simp
          with_reducible rfl
         rotate_left
         ·simp only [Act.put, zs1, zs2, zs3, i64_w, i32_w]
          rfl
         refine zqp (i := 19) (N := some 112) (v := ?_) (a' := ?_) (bm 40 786431) rfl rfl (by kernel_rfl) (fun _ _ _ h => h) (Or.inl ⟨by rfl, ?_⟩) ?_ ?_
         rotate_left
         ·intro w'
          go_simp
          with_reducible rfl
         rotate_left
         ·simp only [Act.put, zs1, zs2, zs3, i64_w, i32_w]
          rfl
         refine zqp (i := 20) (N := some 113) (v := ?_) (a' := ?_) (bm 40 1835007) rfl rfl (by kernel_rfl) (fun _ _ _ h => h) (Or.inl ⟨by rfl, ?_⟩) ?_ ?_
         rotate_left
         ·intro w'
          go_simp
          with_reducible rfl
         rotate_left
         ·simp only [Act.put, zs1, zs2, zs3, i64_w, i32_w]
          rfl
         refine zqp (i := 21) (N := some 114) (v := ?_) (a' := ?_) (bm 40 3932159) rfl rfl (by kernel_rfl) (fun _ _ _ h => h) (Or.inl ⟨by rfl, ?_⟩) ?_ ?_
         rotate_left
         ·intro w'
          go_simp
          with_reducible rfl
         rotate_left
         ·simp only [Act.put, zs1, zs2, zs3, i64_w, i32_w]
          rfl
         refine zqp (i := 22) (N := some 115) (v := ?_) (a' := ?_) (bm 40 8126463) rfl rfl (by kernel_rfl) (fun _ _ _ h => h) (Or.inl ⟨by rfl, ?_⟩) ?_ ?_
         rotate_left
         ·intro w'
          go_simp
          with_reducible rfl
         rotate_left
         ·simp only [Act.put, zs1, zs2, zs3, i64_w, i32_w]
          rfl
         refine zqt (i := 18) (N := some 111) (v := ?_) (a' := ?_) (bm 40 8388607) rfl rfl (by kernel_rfl) (fun _ _ _ h => h) (Or.inl ⟨by rfl, ?_⟩) hHeld ?_ ?_
         rotate_left
         ·rintro w' ⟨s0, s1, s2, s3⟩
          go_simp
          with_reducible rfl
         rotate_left
         ·simp only [Act.put, zs1, zs2, zs3, i64_w, i32_w]
          rfl
         refine zqt (i := 23) (N := some 116) (v := ?_) (a' := ?_) (bm 40 16777215) rfl rfl (by kernel_rfl) (fun _ _ _ h => h) (Or.inl ⟨by rfl, ?_⟩) hHeld ?_ ?_
         rotate_left
         ·rintro w' ⟨s0, s1, s2, s3⟩
          go_simp
          with_reducible rfl
         rotate_left
         ·simp only [Act.put, zs1, zs2, zs3, i64_w, i32_w]
          rfl
         refine zqp (i := 24) (N := some 117) (v := ?_) (a' := ?_) (bm 40 33554431) rfl rfl (by kernel_rfl) (fun _ _ _ h => h) (Or.inl ⟨by rfl, ?_⟩) ?_ ?_
         rotate_left
         ·intro w'
          go_simp
          with_reducible rfl
         rotate_left
         ·simp only [Act.put, zs1, zs2, zs3, i64_w, i32_w]
          rfl
         refine zqp (i := 25) (N := some 118) (v := ?_) (a' := ?_) (bm 40 67108863) rfl rfl (by kernel_rfl) (fun _ _ _ h => h) (Or.inl ⟨by rfl, ?_⟩) ?_ ?_
         rotate_left
         ·intro w'
          go_simp
          with_reducible rfl
         rotate_left
         ·simp only [Act.put, zs1, zs2, zs3, i64_w, i32_w]
          rfl
         refine zqp (i := 26) (N := some 119) (v := undef) (a' := ?_) (bm 40 134217727) rfl rfl (by kernel_rfl) (fun _ _ _ h => h) (Or.inr ⟨by rfl, rfl⟩) ?_ ?_
         rotate_left
         ·simp only [Act.put, zs1, zs2, zs3, i64_w, i32_w]
          rfl
         refine zqp (i := 27) (N := some 120) (v := undef) (a' := ?_) (bm 40 268435455) rfl rfl (by kernel_rfl) (fun _ _ _ h => h) (Or.inr ⟨by rfl, rfl⟩) ?_ ?_
         rotate_left
         ·simp only [Act.put, zs1, zs2, zs3, i64_w, i32_w]
          rfl
         refine zqp (i := 28) (N := some 121) (v := undef) (a' := ?_) (bm 40 536870911) rfl rfl (by kernel_rfl) (fun _ _ _ h => h) (Or.inr ⟨by rfl, rfl⟩) ?_ ?_
         rotate_left
         ·simp only [Act.put, zs1, zs2, zs3, i64_w, i32_w]
          rfl
         refine zqp (i := 29) (N := some 122) (v := undef) (a' := ?_) (bm 40 1073741823) rfl rfl (by kernel_rfl) (fun _ _ _ h => h) (Or.inr ⟨by rfl, rfl⟩) ?_ ?_
         rotate_left
         ·simp only [Act.put, zs1, zs2, zs3, i64_w, i32_w]
          rfl
         refine zqp (i := 30) (N := some 123) (v := undef) (a' := ?_) (bm 40 2147483647) rfl rfl (by kernel_rfl) (fun _ _ _ h => h) (Or.inr ⟨by rfl, rfl⟩) ?_ ?_
         rotate_left
         ·simp only [Act.put, zs1, zs2, zs3, i64_w, i32_w]
          rfl
         refine zqp (i := 31) (N := some 124) (v := undef) (a' := ?_) (bm 40 4294967295) rfl rfl (by kernel_rfl) (fun _ _ _ h => h) (Or.inr ⟨by rfl, rfl⟩) ?_ ?_
         rotate_left
         ·simp only [Act.put, zs1, zs2, zs3, i64_w, i32_w]
          rfl
         refine zqp (i := 32) (N := some 125) (v := undef) (a' := ?_) (bm 40 8589934591) rfl rfl (by kernel_rfl) (fun _ _ _ h => h) (Or.inr ⟨by rfl, rfl⟩) ?_ ?_
         rotate_left
         ·simp only [Act.put, zs1, zs2, zs3, i64_w, i32_w]
          rfl
         refine zqp (i := 33) (N := some 126) (v := undef) (a' := ?_) (bm 40 17179869183) rfl rfl (by kernel_rfl) (fun _ _ _ h => h) (Or.inr ⟨by rfl, rfl⟩) ?_ ?_
         rotate_left
         ·simp only [Act.put, zs1, zs2, zs3, i64_w, i32_w]
          rfl
         refine zqp (i := 34) (N := some 127) (v := undef) (a' := ?_) (bm 40 34359738367) rfl rfl (by kernel_rfl) (fun _ _ _ h => h) (Or.inr ⟨by rfl, rfl⟩) ?_ ?_
         rotate_left
         ·simp only [Act.put, zs1, zs2, zs3, i64_w, i32_w]
          rfl
         refine zqp (i := 35) (N := some 128) (v := undef) (a' := ?_) (bm 40 68719476735) rfl rfl (by kernel_rfl) (fun _ _ _ h => h) (Or.inr ⟨by rfl, rfl⟩) ?_ ?_
         rotate_left
         ·simp only [Act.put, zs1, zs2, zs3, i64_w, i32_w]
          rfl
         refine zqp (i := 36) (N := some 129) (v := undef) (a' := ?_) (bm 40 137438953471) rfl rfl (by kernel_rfl) (fun _ _ _ h => h) (Or.inr ⟨by rfl, rfl⟩) ?_ ?_
         rotate_left
         ·simp only [Act.put, zs1, zs2, zs3, i64_w, i32_w]
          rfl
         refine zqp (i := 37) (N := some 130) (v := undef) (a' := ?_) (bm 40 274877906943) rfl rfl (by kernel_rfl) (fun _ _ _ h => h) (Or.inr ⟨by rfl, rfl⟩) ?_ ?_
         rotate_left
         ·simp only [Act.put, zs1, zs2, zs3, i64_w, i32_w]
          rfl
         refine zqp (i := 38) (N := some 131) (v := ?_) (a' := ?_) (bm 40 549755813887) rfl rfl (by kernel_rfl) (fun _ _ _ h => h) (Or.inl ⟨by rfl, ?_⟩) ?_ ?_
         rotate_left
         ·intro w'
          go_simp
          with_reducible rfl
         rotate_left
         ·simp only [Act.put, zs1, zs2, zs3, i64_w, i32_w]
          rfl
         refine zqp (i := 39) (N := some 132) (v := ?_) (a' := ?_) (bm 40 1099511627775) rfl rfl (by kernel_rfl) (fun _ _ _ h => h) (Or.inl ⟨by rfl, ?_⟩) ?_ ?_
         rotate_left
         ·intro w'
          go_simp
          with_reducible rfl
         rotate_left
         ·simp only [Act.put, zs1, zs2, zs3, i64_w, i32_w]
          rfl
         refine done_ (by kernel_rfl) ?_
         go_wp2
         go_roundg (rp.length + 2 - (i + 1))
         case measure => have := HI.out; have := HE.out; omega
         case rel => exact ⟨i + 1, by rw [← HWi.out], ⟨by omega⟩, ⟨by have := HE.out; omega⟩, ⟨H.out.drew⟩⟩
       ·have c90 : decide (i < rp.length) = false := decide_eq_false hi
        have c90i : decide ((i : Int) < (rp.length : Int)) = false := decide_eq_false (by omega)
        clear hi
        go_wp2
        go_ret
        exact ⟨rfl, HB0.out.trans (H.out.bel.mono HB0.out.size)⟩
end Go.Proofs.Ytkoimmeghdbodaa.Hq
namespace Go.Proofs.Ytkoimmeghdbodaa.fnRootPlaces
open Go.ChangeShapes Go.WideShapes Go.ChangeAt Go.RowKit Go.Proofs.Ytkoimmeghdbodaa.Print Go.Proofs.Ytkoimmeghdbodaa.Take Go.Proofs.YtkoimmeghdbodaaW.PrintWords
open Go.ChangeMaps (open_string shut_string)
set_option linter.unusedVariables false
theorem own : ownKnob Try.prog.godebug = none := by kernel_rfl
theorem laidOut : laidOutB Try.prog = true := by kernel_rfl
set_option maxRecDepth 100000 in
theorem lifted (os : Os) (started : os.Started) (H : Type) (enc : TypeId × Value → H) :
    ReturnsInHanded {} Try.checked os 9 .any (Rows.fnRootPlacesSpec.pre6 enc Try.prog Try.f9 Rows.fnRootPlacesRow.domain false) (Rows.fnRootPlacesSpec.post enc Try.prog Try.f9 false true false false) := by
  refine returnsInHanded_of_change_sized (C := Try.checked) own started (by kernel_rfl) Try.func9
    (ChangeSpec.witness6 (enc := enc) (C := Try.checked) false ⟨#[], #[.slice none 0 0], []⟩ 8 (by kernel_rfl) (by kernel_rfl) (by kernel_rfl) (by kernel_rfl)) ?_
  intro W base args ds gs before hval0 hW hcnd hsz0 _
  have hsz : (DataW.weightsEach Try.prog (Try.f9.params.toList ++ Rows.fnRootPlacesSpec.plain.varTypes Try.prog) (ds ++ gs)).all (· ≤ reachBytes) = true := hsz0
  have hval : ∀ (j : Nat) t v, Try.f9.params[j]? = some t → args[j]? = some v → Value.okWide Try.prog W .any base t v := hval0
  have hW' := hW
  obtain ⟨p, q, hA0, hV, rfl, hfz, hnd⟩ := hW
  have hA : DataW.TrodAll enc Try.prog W 0 (fun _ => true) true Try.f9.params.toList args.toList ds p := hA0
  rw [Try.params9] at hA hval hsz
  obtain ⟨v0, vs0, d0, ds0, p0, q0, hargs, rfl, rfl, h0, r0⟩ := trodAll_cons hA
  obtain ⟨rfl, rfl, rfl⟩ := trodAll_nil r0
  obtain rfl : args = #[v0] := by cases args; simp_all
  obtain ⟨rfl, rfl⟩ := trodVars_none hV
  obtain ⟨b0, len0, cap0, rfl⟩ := okWide_slice Try.underlying33 (hval 0 33 v0 rfl rfl)
  have k0 := h0
  have lt0 : ∀ x ∈ p0, x.block < W.heap.size := by obtain ⟨m, hm⟩ := k0; exact DataW.trod_lt m _ _ _ hm
  obtain ⟨A0, c0, l0, e0, hr0, hc0, w0⟩ := Opens.arg o33 rfl h0
  cases e0
  clear hA0 hval0 hsz0 hsz
  skip
  refine (Hq.law_FnRootPlaces W hr0 hc0 w0.2).mono fun e W' ⟨he, bel0⟩ => ?_
  have bel := bel0
  subst he
  exact ⟨_, rfl, _, _, _, [], _, [], hW', trodAll_mk1 (shut_bool Try.underlying4 _), (trodAll_cons_mk (Below.trod laidOut (by kernel_rfl) (of_decide_eq_true (by kernel_rfl)) k0 bel lt0) trodAll_mk0), rfl, bel.frame _, fun h => by cases h⟩
theorem over : Rows.fnRootPlacesRow.holds Try.pinned (OpenSpec.ofChange Rows.fnRootPlacesSpec) :=
  OpenClaim.holds_of_wide 9 Try.f9 rfl rfl rfl rfl rfl rfl rfl ⟨rfl, rfl, rfl, rfl, rfl⟩ rfl rfl rfl rfl rfl (by kernel_rfl) Try.func9 (by kernel_rfl)
    (of_decide_eq_true (by kernel_rfl)) (by unfold Func.isWrapper; first | (rw [if_pos (by decide +kernel)]; kernel_rfl) | (rw [if_neg (by decide +kernel)]; exact ⟨rfl, rfl⟩))
    (fun os started H enc _ => lifted os started H enc)
theorem proved : Rows.FnRootPlacesSaid := over
#print axioms proved
end Go.Proofs.Ytkoimmeghdbodaa.fnRootPlaces
namespace Go.Proofs.Ytkoimmeghdbodaa
theorem fnRootPlaces_holds : Rows.FnRootPlacesSaid := fnRootPlaces.proved
end Go.Proofs.Ytkoimmeghdbodaa
