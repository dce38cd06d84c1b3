/- Proved, with what follows on it: the row of the law FnExactSpaceFree. Conditions: the row's alone. Texts of this session and words that the kit's print laid for this seat, merged and cut by shrink.py, a program of this session. -/
import Derived.Test.YtkoimmeghdbodaaZFnExactSpaceFreeB
namespace Go.Proofs.Ytkoimmeghdbodaa.Print
open Go.RowKit Go.Proofs.YtkoimmeghdbodaaW.PrintWords Go.Proofs.YtkoimmeghdbodaaW.PrintLast Go.Proofs.YtkoimmeghdbodaaW.PrintMore
attribute [local go_sem] max2_int min2_int max_two min_two max_three min_three max_four min_four   -- for this text's walks alone
set_option linter.unusedVariables false
set_option linter.unusedSimpArgs false
mutual
def impl_PtrOk.j0 : Nat → Int → Bool → Int → Int → List (S37) → Option (Bool)
 | 0, _, _, _, _, _ => none
 | k + 1, x0, x41, x136000, x136001, x136002 => if x41 = true then (some false) else (impl_PtrOk.l0 k x0 x136002 (x136002.length : Int) 0 x136000 x136001 x136002)
def impl_PtrOk.l0 : Nat → Int → List (S37) → Int → Int → Int → Int → List (S37) → Option (Bool)
 | 0, _, _, _, _, _, _, _ => none
 | k + 1, x0, x43, x44, x45, x136000, x136001, x136002 => if x45 < x44 then (if 0 ≤ x45 then (if x45 < (x43.length : Int) then ((impl_Place_ok.f ((rd_T37 x43 x45).f0) ((rd_T37 x43 x45).f1) x0).bind fun t142 => (if t142 = true then (if x45 ≤ (x136002.length : Int) then ((slices_ContainsFunc_Place.f (x136002.take (x45 : Int).toNat) ((rd_T37 x43 x45).f0) ((rd_T37 x43 x45).f1)).bind fun t147 => (if t147 = true then (some false) else (impl_PtrOk.l0 k x0 x43 x44 (wrap64 (x45 + 1)) x136000 x136001 x136002))) else (none)) else (some false))) else (none)) else (none)) else (some true)
end
def impl_PtrOk.f (k : Nat) (a0 : Int) (a1_0 : Int) (a1_1 : Int) (l1_2 : List (S37)) : Option (Bool) := (impl_isPool.f a0).bind fun t136 => (if t136 = true then ((impl_Ptr_none.f a1_0 a1_1 l1_2).bind fun t137 => (if t137 = true then (some true) else (if a1_0 < 1 then (impl_PtrOk.j0 k a0 true a1_0 a1_1 l1_2) else ((impl_textMost.f a0).bind fun t138 => (if a1_0 > t138 then (impl_PtrOk.j0 k a0 true a1_0 a1_1 l1_2) else (if a1_1 < 0 then (impl_PtrOk.j0 k a0 true a1_0 a1_1 l1_2) else (if a1_1 > 1000000000 then (impl_PtrOk.j0 k a0 true a1_0 a1_1 l1_2) else ((impl_columns.f a1_0).bind fun t139 => (impl_PtrOk.j0 k a0 ((l1_2.length : Int) != (wrap64 (t139 + 1))) a1_0 a1_1 l1_2))))))))) else (some false))
def impl_PtrOk.T5 : Bool × List (List Nat × List Nat) := (true, [([], []), ([0], [0]), ([1], [1]), ([2], [2]), ([3], [3]), ([4, 3], [3, 4]), ([3], [3]), ([6, 3, 3], [3, 6]), ([5, 7, 3], [3, 5, 7]), ([3, 8], [3, 8]), ([9, 7], [9]), ([10], [10]), ([11, 10], [10, 11]), ([12, 10], [10, 12]), ([10, 13], [10, 13]), ([14, 10], [14]), ([15], [15]), ([16, 15], [15, 16]), ([17, 15], [15, 17]), ([15, 18], [15, 18]), ([19, 15], [19]), ([20], [20]), ([21, 20], [20, 21]), ([22, 20], [20, 22]), ([20], [20]), ([24, 20], [20, 24]), ([25, 20, 20], [20, 25]), ([26, 20], [20, 26]), ([23, 27, 20], [20, 23, 27]), ([20, 28], [20, 28])])
def impl_PtrOk.B5 : List Nat := [0, 1, 3, 7, 15, 31, 15, 79, 255, 511, 1023, 2047, 4095, 8191, 16383, 32767, 65535, 131071, 262143, 524287, 1048575, 2097151, 4194303, 8388607, 2097151, 18874367, 52428799, 119537663, 268435455, 536870911]
theorem impl_PtrOk.tab5 : rtab .any (opsOf Try.f20 5) = impl_PtrOk.T5 := by kernel_rfl
theorem impl_PtrOk.bits5 : waitsOk impl_PtrOk.T5.2 impl_PtrOk.B5 = true := by kernel_rfl
set_option maxHeartbeats 8000000 in
set_option maxRecDepth 100000 in
theorem impl_PtrOk.calls (k : Nat) (a0 : Int) (a1_0 : Int) (a1_1 : Int) (A1_2 : Option Addr) (c1_2 : Nat) (l1_2 : List (S37)) (r : Bool) (w : World) (hr1_2 : Kd.C k37 w A1_2 l1_2.length l1_2) (hc1_2 : l1_2.length ≤ c1_2) (h : impl_PtrOk.f k a0 a1_0 a1_1 l1_2 = some r) :
  Calls Try.prog 20 #[.int .i64 a0, .agg #[.int .i64 a1_0, .int .i64 a1_1, .slice A1_2 l1_2.length c1_2]] w fun e w' => e = .returned (.bool r) ∧ Below w.heap.size w w' := by
 have hu29 := Try.underlying29
 have hu37 := Try.underlying37
 have HR1_2 := Az.mk hr1_2
 have HC1_2 := Az.mk hc1_2
 clear hr1_2 hc1_2
 have HB := Az.mk (Below.refl w.heap.size w)
 have H : ((impl_isPool.f a0).bind fun t136 => (if t136 = true then ((impl_Ptr_none.f a1_0 a1_1 l1_2).bind fun t137 => (if t137 = true then (some true) else (if a1_0 < 1 then (impl_PtrOk.j0 k a0 true a1_0 a1_1 l1_2) else ((impl_textMost.f a0).bind fun t138 => (if a1_0 > t138 then (impl_PtrOk.j0 k a0 true a1_0 a1_1 l1_2) else (if a1_1 < 0 then (impl_PtrOk.j0 k a0 true a1_0 a1_1 l1_2) else (if a1_1 > 1000000000 then (impl_PtrOk.j0 k a0 true a1_0 a1_1 l1_2) else ((impl_columns.f a1_0).bind fun t139 => (impl_PtrOk.j0 k a0 ((l1_2.length : Int) != (wrap64 (t139 + 1))) a1_0 a1_1 l1_2))))))))) else (some false))) = some r := h
 clear h
 replace H := Option.bind_eq_some_iff.mp H
 obtain ⟨t136, A30, H⟩ := H
 replace H : (if t136 = true then ((impl_Ptr_none.f a1_0 a1_1 l1_2).bind fun t137 => (if t137 = true then (some true) else (if a1_0 < 1 then (impl_PtrOk.j0 k a0 true a1_0 a1_1 l1_2) else ((impl_textMost.f a0).bind fun t138 => (if a1_0 > t138 then (impl_PtrOk.j0 k a0 true a1_0 a1_1 l1_2) else (if a1_1 < 0 then (impl_PtrOk.j0 k a0 true a1_0 a1_1 l1_2) else (if a1_1 > 1000000000 then (impl_PtrOk.j0 k a0 true a1_0 a1_1 l1_2) else ((impl_columns.f a1_0).bind fun t139 => (impl_PtrOk.j0 k a0 ((l1_2.length : Int) != (wrap64 (t139 + 1))) a1_0 a1_1 l1_2))))))))) else (some false)) = some r := H
 have A3 := Az.mk A30
 clear A30
 by_cases c4 : t136 = true
 ·subst c4
  have H1 : ((impl_Ptr_none.f a1_0 a1_1 l1_2).bind fun t137 => (if t137 = true then (some true) else (if a1_0 < 1 then (impl_PtrOk.j0 k a0 true a1_0 a1_1 l1_2) else ((impl_textMost.f a0).bind fun t138 => (if a1_0 > t138 then (impl_PtrOk.j0 k a0 true a1_0 a1_1 l1_2) else (if a1_1 < 0 then (impl_PtrOk.j0 k a0 true a1_0 a1_1 l1_2) else (if a1_1 > 1000000000 then (impl_PtrOk.j0 k a0 true a1_0 a1_1 l1_2) else ((impl_columns.f a1_0).bind fun t139 => (impl_PtrOk.j0 k a0 ((l1_2.length : Int) != (wrap64 (t139 + 1))) a1_0 a1_1 l1_2))))))))) = some r := by rw [if_pos rfl] at H; exact H
  clear H
  have H := H1
  clear H1
  replace H := Option.bind_eq_some_iff.mp H
  obtain ⟨t137, A50, H⟩ := H
  replace H : (if t137 = true then (some true) else (if a1_0 < 1 then (impl_PtrOk.j0 k a0 true a1_0 a1_1 l1_2) else ((impl_textMost.f a0).bind fun t138 => (if a1_0 > t138 then (impl_PtrOk.j0 k a0 true a1_0 a1_1 l1_2) else (if a1_1 < 0 then (impl_PtrOk.j0 k a0 true a1_0 a1_1 l1_2) else (if a1_1 > 1000000000 then (impl_PtrOk.j0 k a0 true a1_0 a1_1 l1_2) else ((impl_columns.f a1_0).bind fun t139 => (impl_PtrOk.j0 k a0 ((l1_2.length : Int) != (wrap64 (t139 + 1))) a1_0 a1_1 l1_2)))))))) = some r := H
  have A5 := Az.mk A50
  clear A50
  by_cases c6 : t137 = true
  ·subst c6
   have H1 : (some true) = some r := by rw [if_pos rfl] at H; exact H
   clear H
   have H := H1
   clear H1
   obtain rfl := Option.some.inj H
   go_enter Try.func20, Try.ntmps20
   go_wp2_with (first | ((with_reducible refine zqg (N := 3) rfl ?_); (try (refine gate_guard (by rfl) ?_; dsimp only)); refine zqb ?hg (N := 3) ?hd (cs := #[.int .i64 a1_0, .int .i64 a1_1, .slice A1_2 l1_2.length c1_2]) (t := 29) ?hr ?_; (case hd => rfl); (case hg => rfl); (case hr => first | (go_simp; done) | (go_simp; rfl)); intro gb135 hg w7 hbox hb; have n0_ := Az.mk (below_step (by repeat (first | (with_reducible first | exact HB.out | apply zq2 | apply zq1 | apply zqd) | exact HB.out)) hb); have n1_ := Az.mk (hbox); have n2_ := Az.mk ((by rw [hg]; exact (below_size (by repeat (first | (with_reducible first | exact HB.out | apply zq2 | apply zq1 | apply zqd) | exact HB.out))) : w.heap.size ≤ gb135)); have n3_ := Az.mk ((by rw [hg]; exact (below_size (by repeat (first | (with_reducible first | exact HB.out | apply zq2 | apply zq1 | apply zqd) | exact HB.out))) : w.heap.size ≤ gb135)); clear HB; have HB := n0_; have BK135 := n1_; have GW135 := n2_; have GE135 := n3_; clear n0_ n1_ n2_ n3_; clear hb hbox hg) | ((with_reducible refine gate_callee (f := 55) rfl ?_); refine zq9 (some 8) rfl rfl Try.func55 (by kernel_rfl) rfl #[.int .i64 a0] rfl (by (try simp only [List.map_toArray, List.map_cons, List.map_nil]); first | done | rfl | (simp only [List.length_drop, List.length_take]; rfl)) ?_; (with_reducible refine (impl_isPool.calls a0 true _ A3.out).mono ?_); rintro e w' ⟨rfl, ⟨nd, rfl⟩⟩; refine ⟨_, rfl, ?_⟩; have hcz8_0 : w7.cell? ⟨gb135, 0, none⟩ = some (.int .i64 a1_0) := (zq4 BK135.out 0).trans rfl; have hcz8_1 : w7.cell? ⟨gb135, 1, none⟩ = some (.int .i64 a1_1) := (zq4 BK135.out 1).trans rfl; have hcz8_2 : w7.cell? ⟨gb135, 2, none⟩ = some (.slice A1_2 l1_2.length c1_2) := (zq4 BK135.out 2).trans rfl; have hfz8_0 := zq5 BK135.out 0; have hfz8_1 := zq5 BK135.out 1; have hfz8_2 := zq5 BK135.out 2) | ((with_reducible refine gate_callee (f := 56) rfl ?_); refine zq9 (some 11) rfl rfl Try.func56 (by kernel_rfl) rfl #[.agg #[.int .i64 a1_0, .int .i64 a1_1, .slice A1_2 l1_2.length c1_2]] rfl (by (try simp only [List.map_toArray, List.map_cons, List.map_nil]); first | done | rfl | (simp only [List.length_drop, List.length_take]; rfl)) ?_; (with_reducible refine (impl_Ptr_none.calls a1_0 a1_1 _ _ l1_2 true _ ?side1 ?side2 A5.out).mono ?_); (case side1 => repeat (first | exact (Kd.C_below HR1_2.out (by repeat (first | (with_reducible first | exact HB.out | apply zq2 | apply zq1 | apply zqd | refine zq3 ?_ GE135.out) | exact HB.out))) | (with_reducible refine Kd.C_alloc ?_ _) | (with_reducible refine Kd.C_drewN ?_ _) | (with_reducible refine Kd.C_drew ?_))); (case side2 => exact HC1_2.out); rintro e w9 ⟨rfl, hb⟩; refine ⟨_, rfl, ?_⟩; have n0_ := Az.mk (blk_below (g := gb135) (o := .cells #[.int .i64 a1_0, .int .i64 a1_1, .slice A1_2 l1_2.length c1_2] 29 (0, 0)) (by (with_reducible repeat (first | refine zq6 ?_ _ | refine zq8 ?_ | refine zq7 ?_ _)); exact BK135.out) hb); have n1_ := Az.mk (below_step (by repeat (first | (with_reducible first | exact HB.out | apply zq2 | apply zq1 | apply zqd | refine zq3 ?_ GE135.out) | exact HB.out)) hb); clear BK135; clear HB; have BK135 := n0_; have HB := n1_; clear n0_ n1_; (try clear hb); (try clear hb2); (try clear hk); (try clear hi)))
   go_ret
   exact ⟨by first | rfl | (simp [errW_none, errW_some] <;> rfl) | (simp [*, errW_none, errW_some] <;> rfl), by repeat (first | (with_reducible first | exact HB.out | apply zq2 | apply zq1 | apply zqd | refine zq3 ?_ GE135.out) | exact HB.out)⟩
  ·replace c6 := Bool.eq_false_iff.mpr c6
   subst c6
   have H1 : (if a1_0 < 1 then (impl_PtrOk.j0 k a0 true a1_0 a1_1 l1_2) else ((impl_textMost.f a0).bind fun t138 => (if a1_0 > t138 then (impl_PtrOk.j0 k a0 true a1_0 a1_1 l1_2) else (if a1_1 < 0 then (impl_PtrOk.j0 k a0 true a1_0 a1_1 l1_2) else (if a1_1 > 1000000000 then (impl_PtrOk.j0 k a0 true a1_0 a1_1 l1_2) else ((impl_columns.f a1_0).bind fun t139 => (impl_PtrOk.j0 k a0 ((l1_2.length : Int) != (wrap64 (t139 + 1))) a1_0 a1_1 l1_2))))))) = some r := by rw [if_neg (show ¬ (false = true) by decide)] at H; exact H
   clear H
   have H := H1
   clear H1
   have HC10 := Az.mk H
   clear H
   go_enter Try.func20, Try.ntmps20
   go_upto_region 5 with (first | ((with_reducible refine zqg (N := 3) rfl ?_); (try (refine gate_guard (by rfl) ?_; dsimp only)); refine zqb ?hg (N := 3) ?hd (cs := #[.int .i64 a1_0, .int .i64 a1_1, .slice A1_2 l1_2.length c1_2]) (t := 29) ?hr ?_; (case hd => rfl); (case hg => rfl); (case hr => first | (go_simp; done) | (go_simp; rfl)); intro gb135 hg w11 hbox hb; have n0_ := Az.mk (below_step (by repeat (first | (with_reducible first | exact HB.out | apply zq2 | apply zq1 | apply zqd) | exact HB.out)) hb); have n1_ := Az.mk (hbox); have n2_ := Az.mk ((by rw [hg]; exact (below_size (by repeat (first | (with_reducible first | exact HB.out | apply zq2 | apply zq1 | apply zqd) | exact HB.out))) : w.heap.size ≤ gb135)); have n3_ := Az.mk ((by rw [hg]; exact (below_size (by repeat (first | (with_reducible first | exact HB.out | apply zq2 | apply zq1 | apply zqd) | exact HB.out))) : w.heap.size ≤ gb135)); clear HB; have HB := n0_; have BK135 := n1_; have GW135 := n2_; have GE135 := n3_; clear n0_ n1_ n2_ n3_; clear hb hbox hg) | ((with_reducible refine gate_callee (f := 55) rfl ?_); refine zq9 (some 8) rfl rfl Try.func55 (by kernel_rfl) rfl #[.int .i64 a0] rfl (by (try simp only [List.map_toArray, List.map_cons, List.map_nil]); first | done | rfl | (simp only [List.length_drop, List.length_take]; rfl)) ?_; (with_reducible refine (impl_isPool.calls a0 true _ A3.out).mono ?_); rintro e w' ⟨rfl, ⟨nd, rfl⟩⟩; refine ⟨_, rfl, ?_⟩; have hcz12_0 : w11.cell? ⟨gb135, 0, none⟩ = some (.int .i64 a1_0) := (zq4 BK135.out 0).trans rfl; have hcz12_1 : w11.cell? ⟨gb135, 1, none⟩ = some (.int .i64 a1_1) := (zq4 BK135.out 1).trans rfl; have hcz12_2 : w11.cell? ⟨gb135, 2, none⟩ = some (.slice A1_2 l1_2.length c1_2) := (zq4 BK135.out 2).trans rfl; have hfz12_0 := zq5 BK135.out 0; have hfz12_1 := zq5 BK135.out 1; have hfz12_2 := zq5 BK135.out 2) | ((with_reducible refine gate_callee (f := 56) rfl ?_); refine zq9 (some 11) rfl rfl Try.func56 (by kernel_rfl) rfl #[.agg #[.int .i64 a1_0, .int .i64 a1_1, .slice A1_2 l1_2.length c1_2]] rfl (by (try simp only [List.map_toArray, List.map_cons, List.map_nil]); first | done | rfl | (simp only [List.length_drop, List.length_take]; rfl)) ?_; (with_reducible refine (impl_Ptr_none.calls a1_0 a1_1 _ _ l1_2 false _ ?side1 ?side2 A5.out).mono ?_); (case side1 => repeat (first | exact (Kd.C_below HR1_2.out (by repeat (first | (with_reducible first | exact HB.out | apply zq2 | apply zq1 | apply zqd | refine zq3 ?_ GE135.out) | exact HB.out))) | (with_reducible refine Kd.C_alloc ?_ _) | (with_reducible refine Kd.C_drewN ?_ _) | (with_reducible refine Kd.C_drew ?_))); (case side2 => exact HC1_2.out); rintro e w13 ⟨rfl, hb⟩; refine ⟨_, rfl, ?_⟩; have n0_ := Az.mk (blk_below (g := gb135) (o := .cells #[.int .i64 a1_0, .int .i64 a1_1, .slice A1_2 l1_2.length c1_2] 29 (0, 0)) (by (with_reducible repeat (first | refine zq6 ?_ _ | refine zq8 ?_ | refine zq7 ?_ _)); exact BK135.out) hb); have n1_ := Az.mk (below_step (by repeat (first | (with_reducible first | exact HB.out | apply zq2 | apply zq1 | apply zqd | refine zq3 ?_ GE135.out) | exact HB.out)) hb); clear BK135; clear HB; have BK135 := n0_; have HB := n1_; clear n0_ n1_; (try clear hb); (try clear hb2); (try clear hk); (try clear hi)))
   (try simp only [Act.put, zs1, zs2, zs3])
   go_cut [41] (fun v41 wc => ∃ (kq : Nat) (x41_9 : Bool), v41 = .bool x41_9 ∧ Az (impl_PtrOk.j0 kq a0 x41_9 a1_0 a1_1 l1_2 = some r) ∧ Az (kq ≤ k) ∧ Az (wc.heap[gb135]? = some (.cells #[.int .i64 a1_0, .int .i64 a1_1, (.slice A1_2 l1_2.length c1_2)] 29 (0, 0))) ∧ Az (Below w.heap.size w wc))
   case first =>
    have H := HC10.out
    clear HC10
    by_cases c14 : a1_0 < 1
    ·rw [if_pos c14] at H
     have c14b0 : decide (a1_0 < 1) = true := decide_eq_true c14
     clear c14
     (first | rw [c14b0] | (simp only [i64_w, i32_w]; rw [c14b0]) | skip)
     have H' := Az.mk H
     clear H
     try go_wp2
     have n0_ := Az.mk (zq8 BK135.out)
     have n1_ := Az.mk (zqd HB.out)
     clear BK135
     clear HB
     have BK135 := n0_
     have HB := n1_
     clear n0_ n1_
     refine start_ (n := 30) (S := fun w' => w'.cell? ⟨gb135, 0, none⟩ = some (.int .i64 a1_0) ∧ w'.cell? ⟨gb135, 1, none⟩ = some (.int .i64 a1_1) ∧ w'.cell? ⟨gb135, 2, none⟩ = some (.slice A1_2 l1_2.length c1_2)) (ds := []) (bm 30 0) (by kernel_rfl) rfl rfl ⟨(zq4 BK135.out 0).trans rfl, (zq4 BK135.out 1).trans rfl, (zq4 BK135.out 2).trans rfl⟩ (fun hHeld => ?_); refine with_tabW impl_PtrOk.tab5 impl_PtrOk.bits5 (fun HT_ HW_ => ?_)
     generalize w13.drew = w15 at BK135 HB hHeld ⊢
     refine zqp (i := 0) (N := some 12) (v := ?_) (a' := ?_) (bm 30 1) rfl rfl (any_of HT_.out (by kernel_rfl)) (fun _ _ _ h => h) (Or.inl ⟨by rfl, ?_⟩) ?_ ?_
     rotate_left
     ·intro w'
      go_simp
      with_reducible rfl
     rotate_left
     ·simp only [Act.put, zs1, zs2, zs3, i64_w, i32_w]
      rfl
     refine zqt (i := 1) (N := some 13) (v := ?_) (a' := ?_) (bm 30 3) rfl rfl (take_ofW HT_.out HW_.out (by kernel_rfl)) (fun _ _ _ h => h) (Or.inl ⟨by rfl, ?_⟩) hHeld ?_ ?_
     rotate_left
     ·rintro w' ⟨s0, s1, s2⟩
      go_simp
      with_reducible rfl
     rotate_left
     ·simp only [Act.put, zs1, zs2, zs3, i64_w, i32_w]
      rfl
     refine zqp (i := 2) (N := some 14) (v := ?_) (a' := ?_) (bm 30 7) rfl rfl (any_of HT_.out (by kernel_rfl)) (fun _ _ _ h => h) (Or.inl ⟨by rfl, ?_⟩) ?_ ?_
     rotate_left
     ·intro w'
      go_simp
      with_reducible rfl
     rotate_left
     ·simp only [Act.put, zs1, zs2, zs3, i64_w, i32_w]
      rfl
     refine zqp (i := 3) (N := some 15) (v := ?_) (a' := ?_) (bm 30 15) rfl rfl (any_of HT_.out (by kernel_rfl)) (fun _ _ _ h => h) (Or.inl ⟨by rfl, ?_⟩) ?_ ?_
     rotate_left
     ·intro w'
      go_simp
      with_reducible rfl
     rotate_left
     ·simp only [Act.put, zs1, zs2, zs3, i64_w, i32_w]
      rfl
     refine zqp (i := 4) (N := some 16) (v := undef) (a' := ?_) (bm 30 31) rfl rfl (any_of HT_.out (by kernel_rfl)) (fun _ _ _ h => h) (Or.inr ⟨by rfl, rfl⟩) ?_ ?_
     rotate_left
     ·simp only [Act.put, zs1, zs2, zs3, i64_w, i32_w]
      rfl
     refine zqp (i := 5) (N := some 17) (v := undef) (a' := ?_) (bm 30 63) rfl rfl (any_of HT_.out (by kernel_rfl)) (fun _ _ _ h => h) (Or.inr ⟨by rfl, rfl⟩) ?_ ?_
     rotate_left
     ·simp only [Act.put, zs1, zs2, zs3, i64_w, i32_w]
      rfl
     refine zqp (i := 6) (N := some 18) (v := undef) (a' := ?_) (bm 30 127) rfl rfl (any_of HT_.out (by kernel_rfl)) (fun _ _ _ h => h) (Or.inr ⟨by rfl, rfl⟩) ?_ ?_
     rotate_left
     ·simp only [Act.put, zs1, zs2, zs3, i64_w, i32_w]
      rfl
     refine zqp (i := 7) (N := some 19) (v := undef) (a' := ?_) (bm 30 255) rfl rfl (any_of HT_.out (by kernel_rfl)) (fun _ _ _ h => h) (Or.inr ⟨by rfl, rfl⟩) ?_ ?_
     rotate_left
     ·simp only [Act.put, zs1, zs2, zs3, i64_w, i32_w]
      rfl
     refine zqp (i := 8) (N := some 20) (v := undef) (a' := ?_) (bm 30 511) rfl rfl (any_of HT_.out (by kernel_rfl)) (fun _ _ _ h => h) (Or.inr ⟨by rfl, rfl⟩) ?_ ?_
     rotate_left
     ·simp only [Act.put, zs1, zs2, zs3, i64_w, i32_w]
      rfl
     refine zqp (i := 9) (N := some 21) (v := ?_) (a' := ?_) (bm 30 1023) rfl rfl (any_of HT_.out (by kernel_rfl)) (fun _ _ _ h => h) (Or.inl ⟨by rfl, ?_⟩) ?_ ?_
     rotate_left
     ·intro w'
      go_simp
      with_reducible rfl
     rotate_left
     ·simp only [Act.put, zs1, zs2, zs3, i64_w, i32_w]
      rfl
     refine zqp (i := 10) (N := some 22) (v := ?_) (a' := ?_) (bm 30 2047) rfl rfl (any_of HT_.out (by kernel_rfl)) (fun _ _ _ h => h) (Or.inl ⟨by rfl, ?_⟩) ?_ ?_
     rotate_left
     ·intro w'
      go_simp
      with_reducible rfl
     rotate_left
     ·simp only [Act.put, zs1, zs2, zs3, i64_w, i32_w]
      rfl
     refine zqp (i := 11) (N := some 23) (v := undef) (a' := ?_) (bm 30 4095) rfl rfl (any_of HT_.out (by kernel_rfl)) (fun _ _ _ h => h) (Or.inr ⟨by rfl, rfl⟩) ?_ ?_
     rotate_left
     ·simp only [Act.put, zs1, zs2, zs3, i64_w, i32_w]
      rfl
     refine zqp (i := 12) (N := some 24) (v := undef) (a' := ?_) (bm 30 8191) rfl rfl (any_of HT_.out (by kernel_rfl)) (fun _ _ _ h => h) (Or.inr ⟨by rfl, rfl⟩) ?_ ?_
     rotate_left
     ·simp only [Act.put, zs1, zs2, zs3, i64_w, i32_w]
      rfl
     refine zqp (i := 13) (N := some 25) (v := undef) (a' := ?_) (bm 30 16383) rfl rfl (any_of HT_.out (by kernel_rfl)) (fun _ _ _ h => h) (Or.inr ⟨by rfl, rfl⟩) ?_ ?_
     rotate_left
     ·simp only [Act.put, zs1, zs2, zs3, i64_w, i32_w]
      rfl
     refine zqp (i := 14) (N := some 26) (v := ?_) (a' := ?_) (bm 30 32767) rfl rfl (any_of HT_.out (by kernel_rfl)) (fun _ _ _ h => h) (Or.inl ⟨by rfl, ?_⟩) ?_ ?_
     rotate_left
     ·intro w'
      go_simp
      with_reducible rfl
     rotate_left
     ·simp only [Act.put, zs1, zs2, zs3, i64_w, i32_w]
      rfl
     refine zqp (i := 15) (N := some 27) (v := ?_) (a' := ?_) (bm 30 65535) rfl rfl (any_of HT_.out (by kernel_rfl)) (fun _ _ _ h => h) (Or.inl ⟨by rfl, ?_⟩) ?_ ?_
     rotate_left
     ·intro w'
      go_simp
      with_reducible rfl
     rotate_left
     ·simp only [Act.put, zs1, zs2, zs3, i64_w, i32_w]
      rfl
     refine zqp (i := 16) (N := some 28) (v := undef) (a' := ?_) (bm 30 131071) rfl rfl (any_of HT_.out (by kernel_rfl)) (fun _ _ _ h => h) (Or.inr ⟨by rfl, rfl⟩) ?_ ?_
     rotate_left
     ·simp only [Act.put, zs1, zs2, zs3, i64_w, i32_w]
      rfl
     refine zqp (i := 17) (N := some 29) (v := undef) (a' := ?_) (bm 30 262143) rfl rfl (any_of HT_.out (by kernel_rfl)) (fun _ _ _ h => h) (Or.inr ⟨by rfl, rfl⟩) ?_ ?_
     rotate_left
     ·simp only [Act.put, zs1, zs2, zs3, i64_w, i32_w]
      rfl
     refine zqp (i := 18) (N := some 30) (v := undef) (a' := ?_) (bm 30 524287) rfl rfl (any_of HT_.out (by kernel_rfl)) (fun _ _ _ h => h) (Or.inr ⟨by rfl, rfl⟩) ?_ ?_
     rotate_left
     ·simp only [Act.put, zs1, zs2, zs3, i64_w, i32_w]
      rfl
     refine zqp (i := 19) (N := some 31) (v := ?_) (a' := ?_) (bm 30 1048575) rfl rfl (any_of HT_.out (by kernel_rfl)) (fun _ _ _ h => h) (Or.inl ⟨by rfl, ?_⟩) ?_ ?_
     rotate_left
     ·intro w'
      go_simp
      with_reducible rfl
     rotate_left
     ·simp only [Act.put, zs1, zs2, zs3, i64_w, i32_w]
      rfl
     refine zqp (i := 20) (N := some 32) (v := ?_) (a' := ?_) (bm 30 2097151) rfl rfl (any_of HT_.out (by kernel_rfl)) (fun _ _ _ h => h) (Or.inl ⟨by rfl, ?_⟩) ?_ ?_
     rotate_left
     ·intro w'
      go_simp
      with_reducible rfl
     rotate_left
     ·simp only [Act.put, zs1, zs2, zs3, i64_w, i32_w]
      rfl
     refine zqp (i := 21) (N := some 33) (v := undef) (a' := ?_) (bm 30 4194303) rfl rfl (any_of HT_.out (by kernel_rfl)) (fun _ _ _ h => h) (Or.inr ⟨by rfl, rfl⟩) ?_ ?_
     rotate_left
     ·simp only [Act.put, zs1, zs2, zs3, i64_w, i32_w]
      rfl
     refine zqp (i := 22) (N := some 34) (v := undef) (a' := ?_) (bm 30 8388607) rfl rfl (any_of HT_.out (by kernel_rfl)) (fun _ _ _ h => h) (Or.inr ⟨by rfl, rfl⟩) ?_ ?_
     rotate_left
     ·simp only [Act.put, zs1, zs2, zs3, i64_w, i32_w]
      rfl
     refine zqp (i := 23) (N := some 35) (v := undef) (a' := ?_) (bm 30 16777215) rfl rfl (any_of HT_.out (by kernel_rfl)) (fun _ _ _ h => h) (Or.inr ⟨by rfl, rfl⟩) ?_ ?_
     rotate_left
     ·simp only [Act.put, zs1, zs2, zs3, i64_w, i32_w]
      rfl
     refine zqp (i := 24) (N := some 36) (v := undef) (a' := ?_) (bm 30 33554431) rfl rfl (any_of HT_.out (by kernel_rfl)) (fun _ _ _ h => h) (Or.inr ⟨by rfl, rfl⟩) ?_ ?_
     rotate_left
     ·simp only [Act.put, zs1, zs2, zs3, i64_w, i32_w]
      rfl
     refine zqp (i := 25) (N := some 37) (v := undef) (a' := ?_) (bm 30 67108863) rfl rfl (any_of HT_.out (by kernel_rfl)) (fun _ _ _ h => h) (Or.inr ⟨by rfl, rfl⟩) ?_ ?_
     rotate_left
     ·simp only [Act.put, zs1, zs2, zs3, i64_w, i32_w]
      rfl
     refine zqp (i := 26) (N := some 38) (v := undef) (a' := ?_) (bm 30 134217727) rfl rfl (any_of HT_.out (by kernel_rfl)) (fun _ _ _ h => h) (Or.inr ⟨by rfl, rfl⟩) ?_ ?_
     rotate_left
     ·simp only [Act.put, zs1, zs2, zs3, i64_w, i32_w]
      rfl
     refine zqp (i := 27) (N := some 39) (v := undef) (a' := ?_) (bm 30 268435455) rfl rfl (any_of HT_.out (by kernel_rfl)) (fun _ _ _ h => h) (Or.inr ⟨by rfl, rfl⟩) ?_ ?_
     rotate_left
     ·simp only [Act.put, zs1, zs2, zs3, i64_w, i32_w]
      rfl
     refine zqp (i := 28) (N := some 40) (v := undef) (a' := ?_) (bm 30 536870911) rfl rfl (any_of HT_.out (by kernel_rfl)) (fun _ _ _ h => h) (Or.inr ⟨by rfl, rfl⟩) ?_ ?_
     rotate_left
     ·simp only [Act.put, zs1, zs2, zs3, i64_w, i32_w]
      rfl
     refine zqp (i := 29) (N := some 41) (v := ?_) (a' := ?_) (bm 30 1073741823) rfl rfl (any_of HT_.out (by kernel_rfl)) (fun _ _ _ h => h) (Or.inl ⟨by rfl, ?_⟩) ?_ ?_
     rotate_left
     ·intro w'
      go_simp
      with_reducible rfl
     rotate_left
     ·simp only [Act.put, zs1, zs2, zs3, i64_w, i32_w]
      rfl
     refine done_ (done_of HT_.out (by kernel_rfl)) ?_
     try go_wp2
     go_meet
     case rel => exact ⟨_, (true), (by first | rfl | (simp; done) | (simp [*]; done)), H', ⟨by first | omega | exact Nat.le_refl _⟩, ⟨by (with_reducible repeat (first | refine zq6 ?_ _ | refine zq8 ?_ | refine zq7 ?_ _)); exact BK135.out⟩, ⟨by repeat (first | (with_reducible first | exact HB.out | apply zq2 | apply zq1 | apply zqd | refine zq3 ?_ GE135.out) | exact HB.out)⟩⟩
    ·rw [if_neg c14] at H
     have c14b0 : decide (a1_0 < 1) = false := decide_eq_false c14
     clear c14
     (first | rw [c14b0] | (simp only [i64_w, i32_w]; rw [c14b0]) | skip)
     replace H := Option.bind_eq_some_iff.mp H
     obtain ⟨t138, A160, H⟩ := H
     replace H : (if a1_0 > t138 then (impl_PtrOk.j0 k a0 true a1_0 a1_1 l1_2) else (if a1_1 < 0 then (impl_PtrOk.j0 k a0 true a1_0 a1_1 l1_2) else (if a1_1 > 1000000000 then (impl_PtrOk.j0 k a0 true a1_0 a1_1 l1_2) else ((impl_columns.f a1_0).bind fun t139 => (impl_PtrOk.j0 k a0 ((l1_2.length : Int) != (wrap64 (t139 + 1))) a1_0 a1_1 l1_2))))) = some r := H
     have A16 := Az.mk A160
     clear A160
     by_cases c17 : a1_0 > t138
     ·rw [if_pos c17] at H
      have c17b0 : decide (t138 < a1_0) = true := decide_eq_true c17
      clear c17
      have H' := Az.mk H
      clear H
      try go_wp2
      have n0_ := Az.mk (zq8 BK135.out)
      have n1_ := Az.mk (zqd HB.out)
      clear BK135
      clear HB
      have BK135 := n0_
      have HB := n1_
      clear n0_ n1_
      refine start_ (n := 30) (S := fun w' => w'.cell? ⟨gb135, 0, none⟩ = some (.int .i64 a1_0) ∧ w'.cell? ⟨gb135, 1, none⟩ = some (.int .i64 a1_1) ∧ w'.cell? ⟨gb135, 2, none⟩ = some (.slice A1_2 l1_2.length c1_2)) (ds := []) (bm 30 0) (by kernel_rfl) rfl rfl ⟨(zq4 BK135.out 0).trans rfl, (zq4 BK135.out 1).trans rfl, (zq4 BK135.out 2).trans rfl⟩ (fun hHeld => ?_); refine with_tabW impl_PtrOk.tab5 impl_PtrOk.bits5 (fun HT_ HW_ => ?_)
      generalize w13.drew = w18 at BK135 HB hHeld ⊢
      refine zqp (i := 0) (N := some 12) (v := ?_) (a' := ?_) (bm 30 1) rfl rfl (any_of HT_.out (by kernel_rfl)) (fun _ _ _ h => h) (Or.inl ⟨by rfl, ?_⟩) ?_ ?_
      rotate_left
      ·intro w'
       go_simp
       with_reducible rfl
      rotate_left
      ·simp only [Act.put, zs1, zs2, zs3, i64_w, i32_w]
       rfl
      refine zqt (i := 1) (N := some 13) (v := ?_) (a' := ?_) (bm 30 3) rfl rfl (take_ofW HT_.out HW_.out (by kernel_rfl)) (fun _ _ _ h => h) (Or.inl ⟨by rfl, ?_⟩) hHeld ?_ ?_
      rotate_left
      ·rintro w' ⟨s0, s1, s2⟩
       go_simp
       with_reducible rfl
      rotate_left
      ·simp only [Act.put, zs1, zs2, zs3, i64_w, i32_w]
       rfl
      refine zqp (i := 2) (N := some 14) (v := ?_) (a' := ?_) (bm 30 7) rfl rfl (any_of HT_.out (by kernel_rfl)) (fun _ _ _ h => h) (Or.inl ⟨by rfl, ?_⟩) ?_ ?_
      rotate_left
      ·intro w'
       go_simp
       with_reducible rfl
      rotate_left
      ·simp only [Act.put, zs1, zs2, zs3, i64_w, i32_w]
       rfl
      refine zqp (i := 3) (N := some 15) (v := ?_) (a' := ?_) (bm 30 15) rfl rfl (any_of HT_.out (by kernel_rfl)) (fun _ _ _ h => h) (Or.inl ⟨by rfl, ?_⟩) ?_ ?_
      rotate_left
      ·intro w'
       go_simp
       with_reducible rfl
      rotate_left
      ·simp only [Act.put, zs1, zs2, zs3, i64_w, i32_w]
       rfl
      refine zqp (i := 4) (N := some 16) (v := ?_) (a' := ?_) (bm 30 31) rfl rfl (any_of HT_.out (by kernel_rfl)) (fun _ _ _ h => h) (Or.inl ⟨by rfl, ?_⟩) ?_ ?_
      rotate_left
      ·intro w'
       go_simp
       with_reducible rfl
      rotate_left
      ·simp only [Act.put, zs1, zs2, zs3, i64_w, i32_w]
       rfl
      refine zqp (i := 6) (N := some 18) (v := ?_) (a' := ?_) (bm 30 95) rfl rfl (any_of HT_.out (by kernel_rfl)) (fun _ _ _ h => h) (Or.inl ⟨by rfl, ?_⟩) ?_ ?_
      rotate_left
      ·intro w'
       go_simp
       with_reducible rfl
      rotate_left
      ·simp only [Act.put, zs1, zs2, zs3, i64_w, i32_w]
       rfl
      refine zqt (i := 5) (N := some 17) (v := ?_) (a' := ?_) (bm 30 127) rfl rfl (take_ofW HT_.out HW_.out (by kernel_rfl)) (fun _ _ _ h => h) (Or.inl ⟨by rfl, ?_⟩) hHeld ?_ ?_
      rotate_left
      ·rintro w' ⟨s0, s1, s2⟩
       go_simp
       with_reducible rfl
      rotate_left
      ·simp only [Act.put, zs1, zs2, zs3, i64_w, i32_w]
       rfl
      refine one_ (i := 7) (N := some 19) (bm 30 255) rfl rfl (one_of HT_.out (by kernel_rfl)) (by decide) (fun K hK => ?_)
      refine goes_ Try.func57 (by kernel_rfl) rfl #[.int .i64 a0] (by rfl) rfl rfl (by (try simp only [List.map_toArray, List.map_cons, List.map_nil]); first | done | rfl | (simp only [List.length_drop, List.length_take]; rfl)) ?_
      with_reducible refine (impl_textMost.calls a0 t138 _ A16.out).mono ?_
      rintro e w19 ⟨rfl, hb⟩
      refine ⟨_, rfl, ?_⟩
      have n0_ := Az.mk (blk_below (g := gb135) (o := .cells #[.int .i64 a1_0, .int .i64 a1_1, .slice A1_2 l1_2.length c1_2] 29 (0, 0)) (by (with_reducible repeat (first | refine zq6 ?_ _ | refine zq8 ?_ | refine zq7 ?_ _)); exact BK135.out) hb)
      have n1_ := Az.mk (below_step (by repeat (first | (with_reducible first | exact HB.out | apply zq2 | apply zq1 | apply zqd | refine zq3 ?_ GE135.out) | exact HB.out)) hb)
      clear BK135
      clear HB
      have BK135 := n0_
      have HB := n1_
      clear n0_ n1_
      (try clear hb)
      (try clear hb2)
      (try clear hk)
      (try clear hi)
      refine hK.out _ _ ⟨(zq4 BK135.out 0).trans rfl, (zq4 BK135.out 1).trans rfl, (zq4 BK135.out 2).trans rfl⟩ (fun hHeld => ?_)
      clear hK K
      refine norm_ (a' := ?_) ?_ ?_
      rotate_left
      ·show Act.put _ (some 19) _ = _
       simp only [Act.put, zs1, zs2, zs3, i64_w, i32_w]
       rfl
      refine zqp (i := 8) (N := some 20) (v := ?_) (a' := ?_) (bm 30 511) rfl rfl (any_of HT_.out (by kernel_rfl)) (fun _ _ _ h => h) (Or.inl ⟨by rfl, ?_⟩) ?_ ?_
      rotate_left
      ·intro w'
       go_simp
       with_reducible rfl
      rotate_left
      ·simp only [Act.put, zs1, zs2, zs3, i64_w, i32_w]
       rfl
      refine zqp (i := 9) (N := some 21) (v := ?_) (a' := ?_) (bm 30 1023) rfl rfl (any_of HT_.out (by kernel_rfl)) (fun _ _ _ h => h) (Or.inl ⟨by rfl, ?_⟩) ?_ ?_
      rotate_left
      ·intro w'
       go_simp
       with_reducible rfl
      rotate_left
      ·simp only [Act.put, zs1, zs2, zs3, i64_w, i32_w]
       rfl
      refine zqp (i := 10) (N := some 22) (v := ?_) (a' := ?_) (bm 30 2047) rfl rfl (any_of HT_.out (by kernel_rfl)) (fun _ _ _ h => h) (Or.inl ⟨by rfl, ?_⟩) ?_ ?_
      rotate_left
      ·intro w'
       go_simp
       with_reducible rfl
      rotate_left
      ·simp only [Act.put, zs1, zs2, zs3, i64_w, i32_w]
       rfl
      refine zqp (i := 11) (N := some 23) (v := undef) (a' := ?_) (bm 30 4095) rfl rfl (any_of HT_.out (by kernel_rfl)) (fun _ _ _ h => h) (Or.inr ⟨by rfl, rfl⟩) ?_ ?_
      rotate_left
      ·simp only [Act.put, zs1, zs2, zs3, i64_w, i32_w]
       rfl
      refine zqp (i := 12) (N := some 24) (v := undef) (a' := ?_) (bm 30 8191) rfl rfl (any_of HT_.out (by kernel_rfl)) (fun _ _ _ h => h) (Or.inr ⟨by rfl, rfl⟩) ?_ ?_
      rotate_left
      ·simp only [Act.put, zs1, zs2, zs3, i64_w, i32_w]
       rfl
      refine zqp (i := 13) (N := some 25) (v := undef) (a' := ?_) (bm 30 16383) rfl rfl (any_of HT_.out (by kernel_rfl)) (fun _ _ _ h => h) (Or.inr ⟨by rfl, rfl⟩) ?_ ?_
      rotate_left
      ·simp only [Act.put, zs1, zs2, zs3, i64_w, i32_w]
       rfl
      refine zqp (i := 14) (N := some 26) (v := ?_) (a' := ?_) (bm 30 32767) rfl rfl (any_of HT_.out (by kernel_rfl)) (fun _ _ _ h => h) (Or.inl ⟨by rfl, ?_⟩) ?_ ?_
      rotate_left
      ·intro w'
       go_simp
       with_reducible rfl
      rotate_left
      ·simp only [Act.put, zs1, zs2, zs3, i64_w, i32_w]
       rfl
      refine zqp (i := 15) (N := some 27) (v := ?_) (a' := ?_) (bm 30 65535) rfl rfl (any_of HT_.out (by kernel_rfl)) (fun _ _ _ h => h) (Or.inl ⟨by rfl, ?_⟩) ?_ ?_
      rotate_left
      ·intro w'
       go_simp
       with_reducible rfl
      rotate_left
      ·simp only [Act.put, zs1, zs2, zs3, i64_w, i32_w]
       rfl
      refine zqp (i := 16) (N := some 28) (v := undef) (a' := ?_) (bm 30 131071) rfl rfl (any_of HT_.out (by kernel_rfl)) (fun _ _ _ h => h) (Or.inr ⟨by rfl, rfl⟩) ?_ ?_
      rotate_left
      ·simp only [Act.put, zs1, zs2, zs3, i64_w, i32_w]
       rfl
      refine zqp (i := 17) (N := some 29) (v := undef) (a' := ?_) (bm 30 262143) rfl rfl (any_of HT_.out (by kernel_rfl)) (fun _ _ _ h => h) (Or.inr ⟨by rfl, rfl⟩) ?_ ?_
      rotate_left
      ·simp only [Act.put, zs1, zs2, zs3, i64_w, i32_w]
       rfl
      refine zqp (i := 18) (N := some 30) (v := undef) (a' := ?_) (bm 30 524287) rfl rfl (any_of HT_.out (by kernel_rfl)) (fun _ _ _ h => h) (Or.inr ⟨by rfl, rfl⟩) ?_ ?_
      rotate_left
      ·simp only [Act.put, zs1, zs2, zs3, i64_w, i32_w]
       rfl
      refine zqp (i := 19) (N := some 31) (v := ?_) (a' := ?_) (bm 30 1048575) rfl rfl (any_of HT_.out (by kernel_rfl)) (fun _ _ _ h => h) (Or.inl ⟨by rfl, ?_⟩) ?_ ?_
      rotate_left
      ·intro w'
       go_simp
       with_reducible rfl
      rotate_left
      ·simp only [Act.put, zs1, zs2, zs3, i64_w, i32_w]
       rfl
      refine zqp (i := 20) (N := some 32) (v := ?_) (a' := ?_) (bm 30 2097151) rfl rfl (any_of HT_.out (by kernel_rfl)) (fun _ _ _ h => h) (Or.inl ⟨by rfl, ?_⟩) ?_ ?_
      rotate_left
      ·intro w'
       go_simp
       with_reducible rfl
      rotate_left
      ·simp only [Act.put, zs1, zs2, zs3, i64_w, i32_w]
       rfl
      refine zqp (i := 21) (N := some 33) (v := undef) (a' := ?_) (bm 30 4194303) rfl rfl (any_of HT_.out (by kernel_rfl)) (fun _ _ _ h => h) (Or.inr ⟨by rfl, rfl⟩) ?_ ?_
      rotate_left
      ·simp only [Act.put, zs1, zs2, zs3, i64_w, i32_w]
       rfl
      refine zqp (i := 22) (N := some 34) (v := undef) (a' := ?_) (bm 30 8388607) rfl rfl (any_of HT_.out (by kernel_rfl)) (fun _ _ _ h => h) (Or.inr ⟨by rfl, rfl⟩) ?_ ?_
      rotate_left
      ·simp only [Act.put, zs1, zs2, zs3, i64_w, i32_w]
       rfl
      refine zqp (i := 23) (N := some 35) (v := undef) (a' := ?_) (bm 30 16777215) rfl rfl (any_of HT_.out (by kernel_rfl)) (fun _ _ _ h => h) (Or.inr ⟨by rfl, rfl⟩) ?_ ?_
      rotate_left
      ·simp only [Act.put, zs1, zs2, zs3, i64_w, i32_w]
       rfl
      refine zqp (i := 24) (N := some 36) (v := undef) (a' := ?_) (bm 30 33554431) rfl rfl (any_of HT_.out (by kernel_rfl)) (fun _ _ _ h => h) (Or.inr ⟨by rfl, rfl⟩) ?_ ?_
      rotate_left
      ·simp only [Act.put, zs1, zs2, zs3, i64_w, i32_w]
       rfl
      refine zqp (i := 25) (N := some 37) (v := undef) (a' := ?_) (bm 30 67108863) rfl rfl (any_of HT_.out (by kernel_rfl)) (fun _ _ _ h => h) (Or.inr ⟨by rfl, rfl⟩) ?_ ?_
      rotate_left
      ·simp only [Act.put, zs1, zs2, zs3, i64_w, i32_w]
       rfl
      refine zqp (i := 26) (N := some 38) (v := undef) (a' := ?_) (bm 30 134217727) rfl rfl (any_of HT_.out (by kernel_rfl)) (fun _ _ _ h => h) (Or.inr ⟨by rfl, rfl⟩) ?_ ?_
      rotate_left
      ·simp only [Act.put, zs1, zs2, zs3, i64_w, i32_w]
       rfl
      refine zqp (i := 27) (N := some 39) (v := undef) (a' := ?_) (bm 30 268435455) rfl rfl (any_of HT_.out (by kernel_rfl)) (fun _ _ _ h => h) (Or.inr ⟨by rfl, rfl⟩) ?_ ?_
      rotate_left
      ·simp only [Act.put, zs1, zs2, zs3, i64_w, i32_w]
       rfl
      refine zqp (i := 28) (N := some 40) (v := undef) (a' := ?_) (bm 30 536870911) rfl rfl (any_of HT_.out (by kernel_rfl)) (fun _ _ _ h => h) (Or.inr ⟨by rfl, rfl⟩) ?_ ?_
      rotate_left
      ·simp only [Act.put, zs1, zs2, zs3, i64_w, i32_w]
       rfl
      refine zqp (i := 29) (N := some 41) (v := ?_) (a' := ?_) (bm 30 1073741823) rfl rfl (any_of HT_.out (by kernel_rfl)) (fun _ _ _ h => h) (Or.inl ⟨by rfl, ?_⟩) ?_ ?_
      rotate_left
      ·intro w'
       go_simp
       with_reducible rfl
      rotate_left
      ·simp only [Act.put, zs1, zs2, zs3, i64_w, i32_w]
       rfl
      refine done_ (done_of HT_.out (by kernel_rfl)) ?_
      try go_wp2
      go_meet
      case rel => exact ⟨_, (true), (by first | rfl | (simp; done) | (simp [*]; done)), H', ⟨by first | omega | exact Nat.le_refl _⟩, ⟨by (with_reducible repeat (first | refine zq6 ?_ _ | refine zq8 ?_ | refine zq7 ?_ _)); exact BK135.out⟩, ⟨by repeat (first | (with_reducible first | exact HB.out | apply zq2 | apply zq1 | apply zqd | refine zq3 ?_ GE135.out) | exact HB.out)⟩⟩
     ·rw [if_neg c17] at H
      have c17b0 : decide (t138 < a1_0) = false := decide_eq_false c17
      clear c17
      by_cases c20 : a1_1 < 0
      ·rw [if_pos c20] at H
       have c20b0 : decide (a1_1 < 0) = true := decide_eq_true c20
       clear c20
       have H' := Az.mk H
       clear H
       try go_wp2
       have n0_ := Az.mk (zq8 BK135.out)
       have n1_ := Az.mk (zqd HB.out)
       clear BK135
       clear HB
       have BK135 := n0_
       have HB := n1_
       clear n0_ n1_
       refine start_ (n := 30) (S := fun w' => w'.cell? ⟨gb135, 0, none⟩ = some (.int .i64 a1_0) ∧ w'.cell? ⟨gb135, 1, none⟩ = some (.int .i64 a1_1) ∧ w'.cell? ⟨gb135, 2, none⟩ = some (.slice A1_2 l1_2.length c1_2)) (ds := []) (bm 30 0) (by kernel_rfl) rfl rfl ⟨(zq4 BK135.out 0).trans rfl, (zq4 BK135.out 1).trans rfl, (zq4 BK135.out 2).trans rfl⟩ (fun hHeld => ?_); refine with_tabW impl_PtrOk.tab5 impl_PtrOk.bits5 (fun HT_ HW_ => ?_)
       generalize w13.drew = w21 at BK135 HB hHeld ⊢
       refine zqp (i := 0) (N := some 12) (v := ?_) (a' := ?_) (bm 30 1) rfl rfl (any_of HT_.out (by kernel_rfl)) (fun _ _ _ h => h) (Or.inl ⟨by rfl, ?_⟩) ?_ ?_
       rotate_left
       ·intro w'
        go_simp
        with_reducible rfl
       rotate_left
       ·simp only [Act.put, zs1, zs2, zs3, i64_w, i32_w]
        rfl
       refine zqt (i := 1) (N := some 13) (v := ?_) (a' := ?_) (bm 30 3) rfl rfl (take_ofW HT_.out HW_.out (by kernel_rfl)) (fun _ _ _ h => h) (Or.inl ⟨by rfl, ?_⟩) hHeld ?_ ?_
       rotate_left
       ·rintro w' ⟨s0, s1, s2⟩
        go_simp
        with_reducible rfl
       rotate_left
       ·simp only [Act.put, zs1, zs2, zs3, i64_w, i32_w]
        rfl
       refine zqp (i := 2) (N := some 14) (v := ?_) (a' := ?_) (bm 30 7) rfl rfl (any_of HT_.out (by kernel_rfl)) (fun _ _ _ h => h) (Or.inl ⟨by rfl, ?_⟩) ?_ ?_
       rotate_left
       ·intro w'
        go_simp
        with_reducible rfl
       rotate_left
       ·simp only [Act.put, zs1, zs2, zs3, i64_w, i32_w]
        rfl
       refine zqp (i := 3) (N := some 15) (v := ?_) (a' := ?_) (bm 30 15) rfl rfl (any_of HT_.out (by kernel_rfl)) (fun _ _ _ h => h) (Or.inl ⟨by rfl, ?_⟩) ?_ ?_
       rotate_left
       ·intro w'
        go_simp
        with_reducible rfl
       rotate_left
       ·simp only [Act.put, zs1, zs2, zs3, i64_w, i32_w]
        rfl
       refine zqp (i := 4) (N := some 16) (v := ?_) (a' := ?_) (bm 30 31) rfl rfl (any_of HT_.out (by kernel_rfl)) (fun _ _ _ h => h) (Or.inl ⟨by rfl, ?_⟩) ?_ ?_
       rotate_left
       ·intro w'
        go_simp
        with_reducible rfl
       rotate_left
       ·simp only [Act.put, zs1, zs2, zs3, i64_w, i32_w]
        rfl
       refine zqp (i := 6) (N := some 18) (v := ?_) (a' := ?_) (bm 30 95) rfl rfl (any_of HT_.out (by kernel_rfl)) (fun _ _ _ h => h) (Or.inl ⟨by rfl, ?_⟩) ?_ ?_
       rotate_left
       ·intro w'
        go_simp
        with_reducible rfl
       rotate_left
       ·simp only [Act.put, zs1, zs2, zs3, i64_w, i32_w]
        rfl
       refine zqt (i := 5) (N := some 17) (v := ?_) (a' := ?_) (bm 30 127) rfl rfl (take_ofW HT_.out HW_.out (by kernel_rfl)) (fun _ _ _ h => h) (Or.inl ⟨by rfl, ?_⟩) hHeld ?_ ?_
       rotate_left
       ·rintro w' ⟨s0, s1, s2⟩
        go_simp
        with_reducible rfl
       rotate_left
       ·simp only [Act.put, zs1, zs2, zs3, i64_w, i32_w]
        rfl
       refine one_ (i := 7) (N := some 19) (bm 30 255) rfl rfl (one_of HT_.out (by kernel_rfl)) (by decide) (fun K hK => ?_)
       refine goes_ Try.func57 (by kernel_rfl) rfl #[.int .i64 a0] (by rfl) rfl rfl (by (try simp only [List.map_toArray, List.map_cons, List.map_nil]); first | done | rfl | (simp only [List.length_drop, List.length_take]; rfl)) ?_
       with_reducible refine (impl_textMost.calls a0 t138 _ A16.out).mono ?_
       rintro e w22 ⟨rfl, hb⟩
       refine ⟨_, rfl, ?_⟩
       have n0_ := Az.mk (blk_below (g := gb135) (o := .cells #[.int .i64 a1_0, .int .i64 a1_1, .slice A1_2 l1_2.length c1_2] 29 (0, 0)) (by (with_reducible repeat (first | refine zq6 ?_ _ | refine zq8 ?_ | refine zq7 ?_ _)); exact BK135.out) hb)
       have n1_ := Az.mk (below_step (by repeat (first | (with_reducible first | exact HB.out | apply zq2 | apply zq1 | apply zqd | refine zq3 ?_ GE135.out) | exact HB.out)) hb)
       clear BK135
       clear HB
       have BK135 := n0_
       have HB := n1_
       clear n0_ n1_
       (try clear hb)
       (try clear hb2)
       (try clear hk)
       (try clear hi)
       refine hK.out _ _ ⟨(zq4 BK135.out 0).trans rfl, (zq4 BK135.out 1).trans rfl, (zq4 BK135.out 2).trans rfl⟩ (fun hHeld => ?_)
       clear hK K
       refine norm_ (a' := ?_) ?_ ?_
       rotate_left
       ·show Act.put _ (some 19) _ = _
        simp only [Act.put, zs1, zs2, zs3, i64_w, i32_w]
        rfl
       refine zqp (i := 8) (N := some 20) (v := ?_) (a' := ?_) (bm 30 511) rfl rfl (any_of HT_.out (by kernel_rfl)) (fun _ _ _ h => h) (Or.inl ⟨by rfl, ?_⟩) ?_ ?_
       rotate_left
       ·intro w'
        go_simp
        with_reducible rfl
       rotate_left
       ·simp only [Act.put, zs1, zs2, zs3, i64_w, i32_w]
        rfl
       refine zqp (i := 9) (N := some 21) (v := ?_) (a' := ?_) (bm 30 1023) rfl rfl (any_of HT_.out (by kernel_rfl)) (fun _ _ _ h => h) (Or.inl ⟨by rfl, ?_⟩) ?_ ?_
       rotate_left
       ·intro w'
        go_simp
        with_reducible rfl
       rotate_left
       ·simp only [Act.put, zs1, zs2, zs3, i64_w, i32_w]
        rfl
       refine zqp (i := 10) (N := some 22) (v := ?_) (a' := ?_) (bm 30 2047) rfl rfl (any_of HT_.out (by kernel_rfl)) (fun _ _ _ h => h) (Or.inl ⟨by rfl, ?_⟩) ?_ ?_
       rotate_left
       ·intro w'
        go_simp
        with_reducible rfl
       rotate_left
       ·simp only [Act.put, zs1, zs2, zs3, i64_w, i32_w]
        rfl
       refine zqp (i := 11) (N := some 23) (v := ?_) (a' := ?_) (bm 30 4095) rfl rfl (any_of HT_.out (by kernel_rfl)) (fun _ _ _ h => h) (Or.inl ⟨by rfl, ?_⟩) ?_ ?_
       rotate_left
       ·intro w'
        go_simp
        with_reducible rfl
       rotate_left
       ·simp only [Act.put, zs1, zs2, zs3, i64_w, i32_w]
        rfl
       refine zqt (i := 12) (N := some 24) (v := ?_) (a' := ?_) (bm 30 8191) rfl rfl (take_ofW HT_.out HW_.out (by kernel_rfl)) (fun _ _ _ h => h) (Or.inl ⟨by rfl, ?_⟩) hHeld ?_ ?_
       rotate_left
       ·rintro w' ⟨s0, s1, s2⟩
        go_simp
        with_reducible rfl
       rotate_left
       ·simp only [Act.put, zs1, zs2, zs3, i64_w, i32_w]
        rfl
       refine zqp (i := 13) (N := some 25) (v := ?_) (a' := ?_) (bm 30 16383) rfl rfl (any_of HT_.out (by kernel_rfl)) (fun _ _ _ h => h) (Or.inl ⟨by rfl, ?_⟩) ?_ ?_
       rotate_left
       ·intro w'
        go_simp
        with_reducible rfl
       rotate_left
       ·simp only [Act.put, zs1, zs2, zs3, i64_w, i32_w]
        rfl
       refine zqp (i := 14) (N := some 26) (v := ?_) (a' := ?_) (bm 30 32767) rfl rfl (any_of HT_.out (by kernel_rfl)) (fun _ _ _ h => h) (Or.inl ⟨by rfl, ?_⟩) ?_ ?_
       rotate_left
       ·intro w'
        go_simp
        with_reducible rfl
       rotate_left
       ·simp only [Act.put, zs1, zs2, zs3, i64_w, i32_w]
        rfl
       refine zqp (i := 15) (N := some 27) (v := ?_) (a' := ?_) (bm 30 65535) rfl rfl (any_of HT_.out (by kernel_rfl)) (fun _ _ _ h => h) (Or.inl ⟨by rfl, ?_⟩) ?_ ?_
       rotate_left
       ·intro w'
        go_simp
        with_reducible rfl
       rotate_left
       ·simp only [Act.put, zs1, zs2, zs3, i64_w, i32_w]
        rfl
       refine zqp (i := 16) (N := some 28) (v := undef) (a' := ?_) (bm 30 131071) rfl rfl (any_of HT_.out (by kernel_rfl)) (fun _ _ _ h => h) (Or.inr ⟨by rfl, rfl⟩) ?_ ?_
       rotate_left
       ·simp only [Act.put, zs1, zs2, zs3, i64_w, i32_w]
        rfl
       refine zqp (i := 17) (N := some 29) (v := undef) (a' := ?_) (bm 30 262143) rfl rfl (any_of HT_.out (by kernel_rfl)) (fun _ _ _ h => h) (Or.inr ⟨by rfl, rfl⟩) ?_ ?_
       rotate_left
       ·simp only [Act.put, zs1, zs2, zs3, i64_w, i32_w]
        rfl
       refine zqp (i := 18) (N := some 30) (v := undef) (a' := ?_) (bm 30 524287) rfl rfl (any_of HT_.out (by kernel_rfl)) (fun _ _ _ h => h) (Or.inr ⟨by rfl, rfl⟩) ?_ ?_
       rotate_left
       ·simp only [Act.put, zs1, zs2, zs3, i64_w, i32_w]
        rfl
       refine zqp (i := 19) (N := some 31) (v := ?_) (a' := ?_) (bm 30 1048575) rfl rfl (any_of HT_.out (by kernel_rfl)) (fun _ _ _ h => h) (Or.inl ⟨by rfl, ?_⟩) ?_ ?_
       rotate_left
       ·intro w'
        go_simp
        with_reducible rfl
       rotate_left
       ·simp only [Act.put, zs1, zs2, zs3, i64_w, i32_w]
        rfl
       refine zqp (i := 20) (N := some 32) (v := ?_) (a' := ?_) (bm 30 2097151) rfl rfl (any_of HT_.out (by kernel_rfl)) (fun _ _ _ h => h) (Or.inl ⟨by rfl, ?_⟩) ?_ ?_
       rotate_left
       ·intro w'
        go_simp
        with_reducible rfl
       rotate_left
       ·simp only [Act.put, zs1, zs2, zs3, i64_w, i32_w]
        rfl
       refine zqp (i := 21) (N := some 33) (v := undef) (a' := ?_) (bm 30 4194303) rfl rfl (any_of HT_.out (by kernel_rfl)) (fun _ _ _ h => h) (Or.inr ⟨by rfl, rfl⟩) ?_ ?_
       rotate_left
       ·simp only [Act.put, zs1, zs2, zs3, i64_w, i32_w]
        rfl
       refine zqp (i := 22) (N := some 34) (v := undef) (a' := ?_) (bm 30 8388607) rfl rfl (any_of HT_.out (by kernel_rfl)) (fun _ _ _ h => h) (Or.inr ⟨by rfl, rfl⟩) ?_ ?_
       rotate_left
       ·simp only [Act.put, zs1, zs2, zs3, i64_w, i32_w]
        rfl
       refine zqp (i := 23) (N := some 35) (v := undef) (a' := ?_) (bm 30 16777215) rfl rfl (any_of HT_.out (by kernel_rfl)) (fun _ _ _ h => h) (Or.inr ⟨by rfl, rfl⟩) ?_ ?_
       rotate_left
       ·simp only [Act.put, zs1, zs2, zs3, i64_w, i32_w]
        rfl
       refine zqp (i := 24) (N := some 36) (v := undef) (a' := ?_) (bm 30 33554431) rfl rfl (any_of HT_.out (by kernel_rfl)) (fun _ _ _ h => h) (Or.inr ⟨by rfl, rfl⟩) ?_ ?_
       rotate_left
       ·simp only [Act.put, zs1, zs2, zs3, i64_w, i32_w]
        rfl
       refine zqp (i := 25) (N := some 37) (v := undef) (a' := ?_) (bm 30 67108863) rfl rfl (any_of HT_.out (by kernel_rfl)) (fun _ _ _ h => h) (Or.inr ⟨by rfl, rfl⟩) ?_ ?_
       rotate_left
       ·simp only [Act.put, zs1, zs2, zs3, i64_w, i32_w]
        rfl
       refine zqp (i := 26) (N := some 38) (v := undef) (a' := ?_) (bm 30 134217727) rfl rfl (any_of HT_.out (by kernel_rfl)) (fun _ _ _ h => h) (Or.inr ⟨by rfl, rfl⟩) ?_ ?_
       rotate_left
       ·simp only [Act.put, zs1, zs2, zs3, i64_w, i32_w]
        rfl
       refine zqp (i := 27) (N := some 39) (v := undef) (a' := ?_) (bm 30 268435455) rfl rfl (any_of HT_.out (by kernel_rfl)) (fun _ _ _ h => h) (Or.inr ⟨by rfl, rfl⟩) ?_ ?_
       rotate_left
       ·simp only [Act.put, zs1, zs2, zs3, i64_w, i32_w]
        rfl
       refine zqp (i := 28) (N := some 40) (v := undef) (a' := ?_) (bm 30 536870911) rfl rfl (any_of HT_.out (by kernel_rfl)) (fun _ _ _ h => h) (Or.inr ⟨by rfl, rfl⟩) ?_ ?_
       rotate_left
       ·simp only [Act.put, zs1, zs2, zs3, i64_w, i32_w]
        rfl
       refine zqp (i := 29) (N := some 41) (v := ?_) (a' := ?_) (bm 30 1073741823) rfl rfl (any_of HT_.out (by kernel_rfl)) (fun _ _ _ h => h) (Or.inl ⟨by rfl, ?_⟩) ?_ ?_
       rotate_left
       ·intro w'
        go_simp
        with_reducible rfl
       rotate_left
       ·simp only [Act.put, zs1, zs2, zs3, i64_w, i32_w]
        rfl
       refine done_ (done_of HT_.out (by kernel_rfl)) ?_
       try go_wp2
       go_meet
       case rel => exact ⟨_, (true), (by first | rfl | (simp; done) | (simp [*]; done)), H', ⟨by first | omega | exact Nat.le_refl _⟩, ⟨by (with_reducible repeat (first | refine zq6 ?_ _ | refine zq8 ?_ | refine zq7 ?_ _)); exact BK135.out⟩, ⟨by repeat (first | (with_reducible first | exact HB.out | apply zq2 | apply zq1 | apply zqd | refine zq3 ?_ GE135.out) | exact HB.out)⟩⟩
      ·rw [if_neg c20] at H
       have c20b0 : decide (a1_1 < 0) = false := decide_eq_false c20
       clear c20
       by_cases c23 : a1_1 > 1000000000
       ·rw [if_pos c23] at H
        have c23b0 : decide (1000000000 < a1_1) = true := decide_eq_true c23
        clear c23
        have H' := Az.mk H
        clear H
        try go_wp2
        have n0_ := Az.mk (zq8 BK135.out)
        have n1_ := Az.mk (zqd HB.out)
        clear BK135
        clear HB
        have BK135 := n0_
        have HB := n1_
        clear n0_ n1_
        refine start_ (n := 30) (S := fun w' => w'.cell? ⟨gb135, 0, none⟩ = some (.int .i64 a1_0) ∧ w'.cell? ⟨gb135, 1, none⟩ = some (.int .i64 a1_1) ∧ w'.cell? ⟨gb135, 2, none⟩ = some (.slice A1_2 l1_2.length c1_2)) (ds := []) (bm 30 0) (by kernel_rfl) rfl rfl ⟨(zq4 BK135.out 0).trans rfl, (zq4 BK135.out 1).trans rfl, (zq4 BK135.out 2).trans rfl⟩ (fun hHeld => ?_); refine with_tabW impl_PtrOk.tab5 impl_PtrOk.bits5 (fun HT_ HW_ => ?_)
        generalize w13.drew = w24 at BK135 HB hHeld ⊢
        refine zqp (i := 0) (N := some 12) (v := ?_) (a' := ?_) (bm 30 1) rfl rfl (any_of HT_.out (by kernel_rfl)) (fun _ _ _ h => h) (Or.inl ⟨by rfl, ?_⟩) ?_ ?_
        rotate_left
        ·intro w'
         go_simp
         with_reducible rfl
        rotate_left
        ·simp only [Act.put, zs1, zs2, zs3, i64_w, i32_w]
         rfl
        refine zqt (i := 1) (N := some 13) (v := ?_) (a' := ?_) (bm 30 3) rfl rfl (take_ofW HT_.out HW_.out (by kernel_rfl)) (fun _ _ _ h => h) (Or.inl ⟨by rfl, ?_⟩) hHeld ?_ ?_
        rotate_left
        ·rintro w' ⟨s0, s1, s2⟩
         go_simp
         with_reducible rfl
        rotate_left
        ·simp only [Act.put, zs1, zs2, zs3, i64_w, i32_w]
         rfl
        refine zqp (i := 2) (N := some 14) (v := ?_) (a' := ?_) (bm 30 7) rfl rfl (any_of HT_.out (by kernel_rfl)) (fun _ _ _ h => h) (Or.inl ⟨by rfl, ?_⟩) ?_ ?_
        rotate_left
        ·intro w'
         go_simp
         with_reducible rfl
        rotate_left
        ·simp only [Act.put, zs1, zs2, zs3, i64_w, i32_w]
         rfl
        refine zqp (i := 3) (N := some 15) (v := ?_) (a' := ?_) (bm 30 15) rfl rfl (any_of HT_.out (by kernel_rfl)) (fun _ _ _ h => h) (Or.inl ⟨by rfl, ?_⟩) ?_ ?_
        rotate_left
        ·intro w'
         go_simp
         with_reducible rfl
        rotate_left
        ·simp only [Act.put, zs1, zs2, zs3, i64_w, i32_w]
         rfl
        refine zqp (i := 4) (N := some 16) (v := ?_) (a' := ?_) (bm 30 31) rfl rfl (any_of HT_.out (by kernel_rfl)) (fun _ _ _ h => h) (Or.inl ⟨by rfl, ?_⟩) ?_ ?_
        rotate_left
        ·intro w'
         go_simp
         with_reducible rfl
        rotate_left
        ·simp only [Act.put, zs1, zs2, zs3, i64_w, i32_w]
         rfl
        refine zqp (i := 6) (N := some 18) (v := ?_) (a' := ?_) (bm 30 95) rfl rfl (any_of HT_.out (by kernel_rfl)) (fun _ _ _ h => h) (Or.inl ⟨by rfl, ?_⟩) ?_ ?_
        rotate_left
        ·intro w'
         go_simp
         with_reducible rfl
        rotate_left
        ·simp only [Act.put, zs1, zs2, zs3, i64_w, i32_w]
         rfl
        refine zqt (i := 5) (N := some 17) (v := ?_) (a' := ?_) (bm 30 127) rfl rfl (take_ofW HT_.out HW_.out (by kernel_rfl)) (fun _ _ _ h => h) (Or.inl ⟨by rfl, ?_⟩) hHeld ?_ ?_
        rotate_left
        ·rintro w' ⟨s0, s1, s2⟩
         go_simp
         with_reducible rfl
        rotate_left
        ·simp only [Act.put, zs1, zs2, zs3, i64_w, i32_w]
         rfl
        refine one_ (i := 7) (N := some 19) (bm 30 255) rfl rfl (one_of HT_.out (by kernel_rfl)) (by decide) (fun K hK => ?_)
        refine goes_ Try.func57 (by kernel_rfl) rfl #[.int .i64 a0] (by rfl) rfl rfl (by (try simp only [List.map_toArray, List.map_cons, List.map_nil]); first | done | rfl | (simp only [List.length_drop, List.length_take]; rfl)) ?_
        with_reducible refine (impl_textMost.calls a0 t138 _ A16.out).mono ?_
        rintro e w25 ⟨rfl, hb⟩
        refine ⟨_, rfl, ?_⟩
        have n0_ := Az.mk (blk_below (g := gb135) (o := .cells #[.int .i64 a1_0, .int .i64 a1_1, .slice A1_2 l1_2.length c1_2] 29 (0, 0)) (by (with_reducible repeat (first | refine zq6 ?_ _ | refine zq8 ?_ | refine zq7 ?_ _)); exact BK135.out) hb)
        have n1_ := Az.mk (below_step (by repeat (first | (with_reducible first | exact HB.out | apply zq2 | apply zq1 | apply zqd | refine zq3 ?_ GE135.out) | exact HB.out)) hb)
        clear BK135
        clear HB
        have BK135 := n0_
        have HB := n1_
        clear n0_ n1_
        (try clear hb)
        (try clear hb2)
        (try clear hk)
        (try clear hi)
        refine hK.out _ _ ⟨(zq4 BK135.out 0).trans rfl, (zq4 BK135.out 1).trans rfl, (zq4 BK135.out 2).trans rfl⟩ (fun hHeld => ?_)
        clear hK K
        refine norm_ (a' := ?_) ?_ ?_
        rotate_left
        ·show Act.put _ (some 19) _ = _
         simp only [Act.put, zs1, zs2, zs3, i64_w, i32_w]
         rfl
        refine zqp (i := 8) (N := some 20) (v := ?_) (a' := ?_) (bm 30 511) rfl rfl (any_of HT_.out (by kernel_rfl)) (fun _ _ _ h => h) (Or.inl ⟨by rfl, ?_⟩) ?_ ?_
        rotate_left
        ·intro w'
         go_simp
         with_reducible rfl
        rotate_left
        ·simp only [Act.put, zs1, zs2, zs3, i64_w, i32_w]
         rfl
        refine zqp (i := 9) (N := some 21) (v := ?_) (a' := ?_) (bm 30 1023) rfl rfl (any_of HT_.out (by kernel_rfl)) (fun _ _ _ h => h) (Or.inl ⟨by rfl, ?_⟩) ?_ ?_
        rotate_left
        ·intro w'
         go_simp
         with_reducible rfl
        rotate_left
        ·simp only [Act.put, zs1, zs2, zs3, i64_w, i32_w]
         rfl
        refine zqp (i := 10) (N := some 22) (v := ?_) (a' := ?_) (bm 30 2047) rfl rfl (any_of HT_.out (by kernel_rfl)) (fun _ _ _ h => h) (Or.inl ⟨by rfl, ?_⟩) ?_ ?_
        rotate_left
        ·intro w'
         go_simp
         with_reducible rfl
        rotate_left
        ·simp only [Act.put, zs1, zs2, zs3, i64_w, i32_w]
         rfl
        refine zqp (i := 11) (N := some 23) (v := ?_) (a' := ?_) (bm 30 4095) rfl rfl (any_of HT_.out (by kernel_rfl)) (fun _ _ _ h => h) (Or.inl ⟨by rfl, ?_⟩) ?_ ?_
        rotate_left
        ·intro w'
         go_simp
         with_reducible rfl
        rotate_left
        ·simp only [Act.put, zs1, zs2, zs3, i64_w, i32_w]
         rfl
        refine zqt (i := 12) (N := some 24) (v := ?_) (a' := ?_) (bm 30 8191) rfl rfl (take_ofW HT_.out HW_.out (by kernel_rfl)) (fun _ _ _ h => h) (Or.inl ⟨by rfl, ?_⟩) hHeld ?_ ?_
        rotate_left
        ·rintro w' ⟨s0, s1, s2⟩
         go_simp
         with_reducible rfl
        rotate_left
        ·simp only [Act.put, zs1, zs2, zs3, i64_w, i32_w]
         rfl
        refine zqp (i := 13) (N := some 25) (v := ?_) (a' := ?_) (bm 30 16383) rfl rfl (any_of HT_.out (by kernel_rfl)) (fun _ _ _ h => h) (Or.inl ⟨by rfl, ?_⟩) ?_ ?_
        rotate_left
        ·intro w'
         go_simp
         with_reducible rfl
        rotate_left
        ·simp only [Act.put, zs1, zs2, zs3, i64_w, i32_w]
         rfl
        refine zqp (i := 14) (N := some 26) (v := ?_) (a' := ?_) (bm 30 32767) rfl rfl (any_of HT_.out (by kernel_rfl)) (fun _ _ _ h => h) (Or.inl ⟨by rfl, ?_⟩) ?_ ?_
        rotate_left
        ·intro w'
         go_simp
         with_reducible rfl
        rotate_left
        ·simp only [Act.put, zs1, zs2, zs3, i64_w, i32_w]
         rfl
        refine zqp (i := 15) (N := some 27) (v := ?_) (a' := ?_) (bm 30 65535) rfl rfl (any_of HT_.out (by kernel_rfl)) (fun _ _ _ h => h) (Or.inl ⟨by rfl, ?_⟩) ?_ ?_
        rotate_left
        ·intro w'
         go_simp
         with_reducible rfl
        rotate_left
        ·simp only [Act.put, zs1, zs2, zs3, i64_w, i32_w]
         rfl
        refine zqp (i := 16) (N := some 28) (v := ?_) (a' := ?_) (bm 30 131071) rfl rfl (any_of HT_.out (by kernel_rfl)) (fun _ _ _ h => h) (Or.inl ⟨by rfl, ?_⟩) ?_ ?_
        rotate_left
        ·intro w'
         go_simp
         with_reducible rfl
        rotate_left
        ·simp only [Act.put, zs1, zs2, zs3, i64_w, i32_w]
         rfl
        refine zqt (i := 17) (N := some 29) (v := ?_) (a' := ?_) (bm 30 262143) rfl rfl (take_ofW HT_.out HW_.out (by kernel_rfl)) (fun _ _ _ h => h) (Or.inl ⟨by rfl, ?_⟩) hHeld ?_ ?_
        rotate_left
        ·rintro w' ⟨s0, s1, s2⟩
         go_simp
         with_reducible rfl
        rotate_left
        ·simp only [Act.put, zs1, zs2, zs3, i64_w, i32_w]
         rfl
        refine zqp (i := 18) (N := some 30) (v := ?_) (a' := ?_) (bm 30 524287) rfl rfl (any_of HT_.out (by kernel_rfl)) (fun _ _ _ h => h) (Or.inl ⟨by rfl, ?_⟩) ?_ ?_
        rotate_left
        ·intro w'
         go_simp
         with_reducible rfl
        rotate_left
        ·simp only [Act.put, zs1, zs2, zs3, i64_w, i32_w]
         rfl
        refine zqp (i := 19) (N := some 31) (v := ?_) (a' := ?_) (bm 30 1048575) rfl rfl (any_of HT_.out (by kernel_rfl)) (fun _ _ _ h => h) (Or.inl ⟨by rfl, ?_⟩) ?_ ?_
        rotate_left
        ·intro w'
         go_simp
         with_reducible rfl
        rotate_left
        ·simp only [Act.put, zs1, zs2, zs3, i64_w, i32_w]
         rfl
        refine zqp (i := 20) (N := some 32) (v := ?_) (a' := ?_) (bm 30 2097151) rfl rfl (any_of HT_.out (by kernel_rfl)) (fun _ _ _ h => h) (Or.inl ⟨by rfl, ?_⟩) ?_ ?_
        rotate_left
        ·intro w'
         go_simp
         with_reducible rfl
        rotate_left
        ·simp only [Act.put, zs1, zs2, zs3, i64_w, i32_w]
         rfl
        refine zqp (i := 21) (N := some 33) (v := undef) (a' := ?_) (bm 30 4194303) rfl rfl (any_of HT_.out (by kernel_rfl)) (fun _ _ _ h => h) (Or.inr ⟨by rfl, rfl⟩) ?_ ?_
        rotate_left
        ·simp only [Act.put, zs1, zs2, zs3, i64_w, i32_w]
         rfl
        refine zqp (i := 22) (N := some 34) (v := undef) (a' := ?_) (bm 30 8388607) rfl rfl (any_of HT_.out (by kernel_rfl)) (fun _ _ _ h => h) (Or.inr ⟨by rfl, rfl⟩) ?_ ?_
        rotate_left
        ·simp only [Act.put, zs1, zs2, zs3, i64_w, i32_w]
         rfl
        refine zqp (i := 23) (N := some 35) (v := undef) (a' := ?_) (bm 30 16777215) rfl rfl (any_of HT_.out (by kernel_rfl)) (fun _ _ _ h => h) (Or.inr ⟨by rfl, rfl⟩) ?_ ?_
        rotate_left
        ·simp only [Act.put, zs1, zs2, zs3, i64_w, i32_w]
         rfl
        refine zqp (i := 24) (N := some 36) (v := undef) (a' := ?_) (bm 30 33554431) rfl rfl (any_of HT_.out (by kernel_rfl)) (fun _ _ _ h => h) (Or.inr ⟨by rfl, rfl⟩) ?_ ?_
        rotate_left
        ·simp only [Act.put, zs1, zs2, zs3, i64_w, i32_w]
         rfl
        refine zqp (i := 25) (N := some 37) (v := undef) (a' := ?_) (bm 30 67108863) rfl rfl (any_of HT_.out (by kernel_rfl)) (fun _ _ _ h => h) (Or.inr ⟨by rfl, rfl⟩) ?_ ?_
        rotate_left
        ·simp only [Act.put, zs1, zs2, zs3, i64_w, i32_w]
         rfl
        refine zqp (i := 26) (N := some 38) (v := undef) (a' := ?_) (bm 30 134217727) rfl rfl (any_of HT_.out (by kernel_rfl)) (fun _ _ _ h => h) (Or.inr ⟨by rfl, rfl⟩) ?_ ?_
        rotate_left
        ·simp only [Act.put, zs1, zs2, zs3, i64_w, i32_w]
         rfl
        refine zqp (i := 27) (N := some 39) (v := undef) (a' := ?_) (bm 30 268435455) rfl rfl (any_of HT_.out (by kernel_rfl)) (fun _ _ _ h => h) (Or.inr ⟨by rfl, rfl⟩) ?_ ?_
        rotate_left
        ·simp only [Act.put, zs1, zs2, zs3, i64_w, i32_w]
         rfl
        refine zqp (i := 28) (N := some 40) (v := undef) (a' := ?_) (bm 30 536870911) rfl rfl (any_of HT_.out (by kernel_rfl)) (fun _ _ _ h => h) (Or.inr ⟨by rfl, rfl⟩) ?_ ?_
        rotate_left
        ·simp only [Act.put, zs1, zs2, zs3, i64_w, i32_w]
         rfl
        refine zqp (i := 29) (N := some 41) (v := ?_) (a' := ?_) (bm 30 1073741823) rfl rfl (any_of HT_.out (by kernel_rfl)) (fun _ _ _ h => h) (Or.inl ⟨by rfl, ?_⟩) ?_ ?_
        rotate_left
        ·intro w'
         go_simp
         with_reducible rfl
        rotate_left
        ·simp only [Act.put, zs1, zs2, zs3, i64_w, i32_w]
         rfl
        refine done_ (done_of HT_.out (by kernel_rfl)) ?_
        try go_wp2
        go_meet
        case rel => exact ⟨_, (true), (by first | rfl | (simp; done) | (simp [*]; done)), H', ⟨by first | omega | exact Nat.le_refl _⟩, ⟨by (with_reducible repeat (first | refine zq6 ?_ _ | refine zq8 ?_ | refine zq7 ?_ _)); exact BK135.out⟩, ⟨by repeat (first | (with_reducible first | exact HB.out | apply zq2 | apply zq1 | apply zqd | refine zq3 ?_ GE135.out) | exact HB.out)⟩⟩
       ·rw [if_neg c23] at H
        have c23b0 : decide (1000000000 < a1_1) = false := decide_eq_false c23
        clear c23
        replace H := Option.bind_eq_some_iff.mp H
        obtain ⟨t139, A260, H⟩ := H
        replace H : (impl_PtrOk.j0 k a0 ((l1_2.length : Int) != (wrap64 (t139 + 1))) a1_0 a1_1 l1_2) = some r := H
        have A26 := Az.mk A260
        clear A260
        have H' := Az.mk H
        clear H
        try go_wp2
        have n0_ := Az.mk (zq8 BK135.out)
        have n1_ := Az.mk (zqd HB.out)
        clear BK135
        clear HB
        have BK135 := n0_
        have HB := n1_
        clear n0_ n1_
        refine start_ (n := 30) (S := fun w' => w'.cell? ⟨gb135, 0, none⟩ = some (.int .i64 a1_0) ∧ w'.cell? ⟨gb135, 1, none⟩ = some (.int .i64 a1_1) ∧ w'.cell? ⟨gb135, 2, none⟩ = some (.slice A1_2 l1_2.length c1_2)) (ds := []) (bm 30 0) (by kernel_rfl) rfl rfl ⟨(zq4 BK135.out 0).trans rfl, (zq4 BK135.out 1).trans rfl, (zq4 BK135.out 2).trans rfl⟩ (fun hHeld => ?_); refine with_tabW impl_PtrOk.tab5 impl_PtrOk.bits5 (fun HT_ HW_ => ?_)
        generalize w13.drew = w27 at BK135 HB hHeld ⊢
        refine zqp (i := 0) (N := some 12) (v := ?_) (a' := ?_) (bm 30 1) rfl rfl (any_of HT_.out (by kernel_rfl)) (fun _ _ _ h => h) (Or.inl ⟨by rfl, ?_⟩) ?_ ?_
        rotate_left
        ·intro w'
         go_simp
         with_reducible rfl
        rotate_left
        ·simp only [Act.put, zs1, zs2, zs3, i64_w, i32_w]
         rfl
        refine zqt (i := 1) (N := some 13) (v := ?_) (a' := ?_) (bm 30 3) rfl rfl (take_ofW HT_.out HW_.out (by kernel_rfl)) (fun _ _ _ h => h) (Or.inl ⟨by rfl, ?_⟩) hHeld ?_ ?_
        rotate_left
        ·rintro w' ⟨s0, s1, s2⟩
         go_simp
         with_reducible rfl
        rotate_left
        ·simp only [Act.put, zs1, zs2, zs3, i64_w, i32_w]
         rfl
        refine zqp (i := 2) (N := some 14) (v := ?_) (a' := ?_) (bm 30 7) rfl rfl (any_of HT_.out (by kernel_rfl)) (fun _ _ _ h => h) (Or.inl ⟨by rfl, ?_⟩) ?_ ?_
        rotate_left
        ·intro w'
         go_simp
         with_reducible rfl
        rotate_left
        ·simp only [Act.put, zs1, zs2, zs3, i64_w, i32_w]
         rfl
        refine zqp (i := 3) (N := some 15) (v := ?_) (a' := ?_) (bm 30 15) rfl rfl (any_of HT_.out (by kernel_rfl)) (fun _ _ _ h => h) (Or.inl ⟨by rfl, ?_⟩) ?_ ?_
        rotate_left
        ·intro w'
         go_simp
         with_reducible rfl
        rotate_left
        ·simp only [Act.put, zs1, zs2, zs3, i64_w, i32_w]
         rfl
        refine zqp (i := 4) (N := some 16) (v := ?_) (a' := ?_) (bm 30 31) rfl rfl (any_of HT_.out (by kernel_rfl)) (fun _ _ _ h => h) (Or.inl ⟨by rfl, ?_⟩) ?_ ?_
        rotate_left
        ·intro w'
         go_simp
         with_reducible rfl
        rotate_left
        ·simp only [Act.put, zs1, zs2, zs3, i64_w, i32_w]
         rfl
        refine zqp (i := 6) (N := some 18) (v := ?_) (a' := ?_) (bm 30 95) rfl rfl (any_of HT_.out (by kernel_rfl)) (fun _ _ _ h => h) (Or.inl ⟨by rfl, ?_⟩) ?_ ?_
        rotate_left
        ·intro w'
         go_simp
         with_reducible rfl
        rotate_left
        ·simp only [Act.put, zs1, zs2, zs3, i64_w, i32_w]
         rfl
        refine zqt (i := 5) (N := some 17) (v := ?_) (a' := ?_) (bm 30 127) rfl rfl (take_ofW HT_.out HW_.out (by kernel_rfl)) (fun _ _ _ h => h) (Or.inl ⟨by rfl, ?_⟩) hHeld ?_ ?_
        rotate_left
        ·rintro w' ⟨s0, s1, s2⟩
         go_simp
         with_reducible rfl
        rotate_left
        ·simp only [Act.put, zs1, zs2, zs3, i64_w, i32_w]
         rfl
        refine one_ (i := 7) (N := some 19) (bm 30 255) rfl rfl (one_of HT_.out (by kernel_rfl)) (by decide) (fun K hK => ?_)
        refine goes_ Try.func57 (by kernel_rfl) rfl #[.int .i64 a0] (by rfl) rfl rfl (by (try simp only [List.map_toArray, List.map_cons, List.map_nil]); first | done | rfl | (simp only [List.length_drop, List.length_take]; rfl)) ?_
        with_reducible refine (impl_textMost.calls a0 t138 _ A16.out).mono ?_
        rintro e w28 ⟨rfl, hb⟩
        refine ⟨_, rfl, ?_⟩
        have n0_ := Az.mk (blk_below (g := gb135) (o := .cells #[.int .i64 a1_0, .int .i64 a1_1, .slice A1_2 l1_2.length c1_2] 29 (0, 0)) (by (with_reducible repeat (first | refine zq6 ?_ _ | refine zq8 ?_ | refine zq7 ?_ _)); exact BK135.out) hb)
        have n1_ := Az.mk (below_step (by repeat (first | (with_reducible first | exact HB.out | apply zq2 | apply zq1 | apply zqd | refine zq3 ?_ GE135.out) | exact HB.out)) hb)
        clear BK135
        clear HB
        have BK135 := n0_
        have HB := n1_
        clear n0_ n1_
        (try clear hb)
        (try clear hb2)
        (try clear hk)
        (try clear hi)
        refine hK.out _ _ ⟨(zq4 BK135.out 0).trans rfl, (zq4 BK135.out 1).trans rfl, (zq4 BK135.out 2).trans rfl⟩ (fun hHeld => ?_)
        clear hK K
        refine norm_ (a' := ?_) ?_ ?_
        rotate_left
        ·show Act.put _ (some 19) _ = _
         simp only [Act.put, zs1, zs2, zs3, i64_w, i32_w]
         rfl
        refine zqp (i := 8) (N := some 20) (v := ?_) (a' := ?_) (bm 30 511) rfl rfl (any_of HT_.out (by kernel_rfl)) (fun _ _ _ h => h) (Or.inl ⟨by rfl, ?_⟩) ?_ ?_
        rotate_left
        ·intro w'
         go_simp
         with_reducible rfl
        rotate_left
        ·simp only [Act.put, zs1, zs2, zs3, i64_w, i32_w]
         rfl
        refine zqp (i := 9) (N := some 21) (v := ?_) (a' := ?_) (bm 30 1023) rfl rfl (any_of HT_.out (by kernel_rfl)) (fun _ _ _ h => h) (Or.inl ⟨by rfl, ?_⟩) ?_ ?_
        rotate_left
        ·intro w'
         go_simp
         with_reducible rfl
        rotate_left
        ·simp only [Act.put, zs1, zs2, zs3, i64_w, i32_w]
         rfl
        refine zqp (i := 10) (N := some 22) (v := ?_) (a' := ?_) (bm 30 2047) rfl rfl (any_of HT_.out (by kernel_rfl)) (fun _ _ _ h => h) (Or.inl ⟨by rfl, ?_⟩) ?_ ?_
        rotate_left
        ·intro w'
         go_simp
         with_reducible rfl
        rotate_left
        ·simp only [Act.put, zs1, zs2, zs3, i64_w, i32_w]
         rfl
        refine zqp (i := 11) (N := some 23) (v := ?_) (a' := ?_) (bm 30 4095) rfl rfl (any_of HT_.out (by kernel_rfl)) (fun _ _ _ h => h) (Or.inl ⟨by rfl, ?_⟩) ?_ ?_
        rotate_left
        ·intro w'
         go_simp
         with_reducible rfl
        rotate_left
        ·simp only [Act.put, zs1, zs2, zs3, i64_w, i32_w]
         rfl
        refine zqt (i := 12) (N := some 24) (v := ?_) (a' := ?_) (bm 30 8191) rfl rfl (take_ofW HT_.out HW_.out (by kernel_rfl)) (fun _ _ _ h => h) (Or.inl ⟨by rfl, ?_⟩) hHeld ?_ ?_
        rotate_left
        ·rintro w' ⟨s0, s1, s2⟩
         go_simp
         with_reducible rfl
        rotate_left
        ·simp only [Act.put, zs1, zs2, zs3, i64_w, i32_w]
         rfl
        refine zqp (i := 13) (N := some 25) (v := ?_) (a' := ?_) (bm 30 16383) rfl rfl (any_of HT_.out (by kernel_rfl)) (fun _ _ _ h => h) (Or.inl ⟨by rfl, ?_⟩) ?_ ?_
        rotate_left
        ·intro w'
         go_simp
         with_reducible rfl
        rotate_left
        ·simp only [Act.put, zs1, zs2, zs3, i64_w, i32_w]
         rfl
        refine zqp (i := 14) (N := some 26) (v := ?_) (a' := ?_) (bm 30 32767) rfl rfl (any_of HT_.out (by kernel_rfl)) (fun _ _ _ h => h) (Or.inl ⟨by rfl, ?_⟩) ?_ ?_
        rotate_left
        ·intro w'
         go_simp
         with_reducible rfl
        rotate_left
        ·simp only [Act.put, zs1, zs2, zs3, i64_w, i32_w]
         rfl
        refine zqp (i := 15) (N := some 27) (v := ?_) (a' := ?_) (bm 30 65535) rfl rfl (any_of HT_.out (by kernel_rfl)) (fun _ _ _ h => h) (Or.inl ⟨by rfl, ?_⟩) ?_ ?_
        rotate_left
        ·intro w'
         go_simp
         with_reducible rfl
        rotate_left
        ·simp only [Act.put, zs1, zs2, zs3, i64_w, i32_w]
         rfl
        refine zqp (i := 16) (N := some 28) (v := ?_) (a' := ?_) (bm 30 131071) rfl rfl (any_of HT_.out (by kernel_rfl)) (fun _ _ _ h => h) (Or.inl ⟨by rfl, ?_⟩) ?_ ?_
        rotate_left
        ·intro w'
         go_simp
         with_reducible rfl
        rotate_left
        ·simp only [Act.put, zs1, zs2, zs3, i64_w, i32_w]
         rfl
        refine zqt (i := 17) (N := some 29) (v := ?_) (a' := ?_) (bm 30 262143) rfl rfl (take_ofW HT_.out HW_.out (by kernel_rfl)) (fun _ _ _ h => h) (Or.inl ⟨by rfl, ?_⟩) hHeld ?_ ?_
        rotate_left
        ·rintro w' ⟨s0, s1, s2⟩
         go_simp
         with_reducible rfl
        rotate_left
        ·simp only [Act.put, zs1, zs2, zs3, i64_w, i32_w]
         rfl
        refine zqp (i := 18) (N := some 30) (v := ?_) (a' := ?_) (bm 30 524287) rfl rfl (any_of HT_.out (by kernel_rfl)) (fun _ _ _ h => h) (Or.inl ⟨by rfl, ?_⟩) ?_ ?_
        rotate_left
        ·intro w'
         go_simp
         with_reducible rfl
        rotate_left
        ·simp only [Act.put, zs1, zs2, zs3, i64_w, i32_w]
         rfl
        refine zqp (i := 19) (N := some 31) (v := ?_) (a' := ?_) (bm 30 1048575) rfl rfl (any_of HT_.out (by kernel_rfl)) (fun _ _ _ h => h) (Or.inl ⟨by rfl, ?_⟩) ?_ ?_
        rotate_left
        ·intro w'
         go_simp
         with_reducible rfl
        rotate_left
        ·simp only [Act.put, zs1, zs2, zs3, i64_w, i32_w]
         rfl
        refine zqp (i := 20) (N := some 32) (v := ?_) (a' := ?_) (bm 30 2097151) rfl rfl (any_of HT_.out (by kernel_rfl)) (fun _ _ _ h => h) (Or.inl ⟨by rfl, ?_⟩) ?_ ?_
        rotate_left
        ·intro w'
         go_simp
         with_reducible rfl
        rotate_left
        ·simp only [Act.put, zs1, zs2, zs3, i64_w, i32_w]
         rfl
        refine zqp (i := 21) (N := some 33) (v := ?_) (a' := ?_) (bm 30 4194303) rfl rfl (any_of HT_.out (by kernel_rfl)) (fun _ _ _ h => h) (Or.inl ⟨by rfl, ?_⟩) ?_ ?_
        rotate_left
        ·intro w'
         go_simp
         with_reducible rfl
        rotate_left
        ·simp only [Act.put, zs1, zs2, zs3, i64_w, i32_w]
         rfl
        refine zqp (i := 24) (N := some 36) (v := ?_) (a' := ?_) (bm 30 20971519) rfl rfl (any_of HT_.out (by kernel_rfl)) (fun _ _ _ h => h) (Or.inl ⟨by rfl, ?_⟩) ?_ ?_
        rotate_left
        ·intro w'
         go_simp
         with_reducible rfl
        rotate_left
        ·simp only [Act.put, zs1, zs2, zs3, i64_w, i32_w]
         rfl
        refine zqt (i := 22) (N := some 34) (v := ?_) (a' := ?_) (bm 30 25165823) rfl rfl (take_ofW HT_.out HW_.out (by kernel_rfl)) (fun _ _ _ h => h) (Or.inl ⟨by rfl, ?_⟩) hHeld ?_ ?_
        rotate_left
        ·rintro w' ⟨s0, s1, s2⟩
         go_simp
         with_reducible rfl
        rotate_left
        ·simp only [Act.put, zs1, zs2, zs3, i64_w, i32_w]
         rfl
        refine zqp (i := 23) (N := some 35) (v := ?_) (a' := ?_) (bm 30 33554431) rfl rfl (any_of HT_.out (by kernel_rfl)) (fun _ _ _ h => h) (Or.inl ⟨by rfl, ?_⟩) ?_ ?_
        rotate_left
        ·intro w'
         go_simp
         with_reducible rfl
        rotate_left
        ·simp only [Act.put, zs1, zs2, zs3, i64_w, i32_w]
         rfl
        refine zqt (i := 25) (N := some 37) (v := ?_) (a' := ?_) (bm 30 67108863) rfl rfl (take_ofW HT_.out HW_.out (by kernel_rfl)) (fun _ _ _ h => h) (Or.inl ⟨by rfl, ?_⟩) hHeld ?_ ?_
        rotate_left
        ·rintro w' ⟨s0, s1, s2⟩
         go_simp
         with_reducible rfl
        rotate_left
        ·simp only [Act.put, zs1, zs2, zs3, i64_w, i32_w]
         rfl
        refine one_ (i := 26) (N := some 38) (bm 30 134217727) rfl rfl (one_of HT_.out (by kernel_rfl)) (by decide) (fun K hK => ?_)
        refine goes_ Try.func58 (by kernel_rfl) rfl #[.int .i64 a1_0] (by rfl) rfl rfl (by (try simp only [List.map_toArray, List.map_cons, List.map_nil]); first | done | rfl | (simp only [List.length_drop, List.length_take]; rfl)) ?_
        with_reducible refine (impl_columns.calls a1_0 t139 _ A26.out).mono ?_
        rintro e w' ⟨rfl, ⟨nd, rfl⟩⟩
        refine ⟨_, rfl, ?_⟩
        refine hK.out _ _ ⟨(zq4 BK135.out 0).trans rfl, (zq4 BK135.out 1).trans rfl, (zq4 BK135.out 2).trans rfl⟩ (fun hHeld => ?_)
        clear hK K
        refine norm_ (a' := ?_) ?_ ?_
        rotate_left
        ·show Act.put _ (some 38) _ = _
         simp only [Act.put, zs1, zs2, zs3, i64_w, i32_w]
         rfl
        refine zqp (i := 27) (N := some 39) (v := ?_) (a' := ?_) (bm 30 268435455) rfl rfl (any_of HT_.out (by kernel_rfl)) (fun _ _ _ h => h) (Or.inl ⟨by rfl, ?_⟩) ?_ ?_
        rotate_left
        ·intro w'
         go_simp
         with_reducible rfl
        rotate_left
        ·simp only [Act.put, zs1, zs2, zs3, i64_w, i32_w]
         rfl
        refine zqp (i := 28) (N := some 40) (v := ?_) (a' := ?_) (bm 30 536870911) rfl rfl (any_of HT_.out (by kernel_rfl)) (fun _ _ _ h => h) (Or.inl ⟨by rfl, ?_⟩) ?_ ?_
        rotate_left
        ·intro w'
         go_simp
         with_reducible rfl
        rotate_left
        ·simp only [Act.put, zs1, zs2, zs3, i64_w, i32_w]
         rfl
        refine zqp (i := 29) (N := some 41) (v := ?_) (a' := ?_) (bm 30 1073741823) rfl rfl (any_of HT_.out (by kernel_rfl)) (fun _ _ _ h => h) (Or.inl ⟨by rfl, ?_⟩) ?_ ?_
        rotate_left
        ·intro w'
         go_simp
         with_reducible rfl
        rotate_left
        ·simp only [Act.put, zs1, zs2, zs3, i64_w, i32_w]
         rfl
        refine done_ (done_of HT_.out (by kernel_rfl)) ?_
        try go_wp2
        go_meet
        case rel => exact ⟨_, (((l1_2.length : Int) != (wrap64 (t139 + 1)))), (by first | rfl | (simp; done) | (simp [*]; done)), H', ⟨by first | omega | exact Nat.le_refl _⟩, ⟨by (with_reducible repeat (first | refine zq6 ?_ _ | refine zq8 ?_ | refine zq7 ?_ _)); exact BK135.out⟩, ⟨by repeat (first | (with_reducible first | exact HB.out | apply zq2 | apply zq1 | apply zqd | refine zq3 ?_ GE135.out) | exact HB.out)⟩⟩
   case rest =>
    clear HC10
    try clear c1
    try clear c2
    try clear p2
    try clear c5
    try clear p6
    try clear c20
    try clear c20b0
    try clear c23
    try clear c23b0
    obtain ⟨kq, x41_9, rfl, HA, HJ9, BK135, HB⟩ := hcut
    cases kq with
    | zero => exact absurd HA.out (by simp [impl_PtrOk.j0])
    | succ kj9 =>
     have H := HA.out
     clear HA
     simp only [impl_PtrOk.j0] at H
     by_cases c29 : x41_9 = true
     ·subst c29
      have H1 : (some false) = some r := by rw [if_pos rfl] at H; exact H
      clear H
      have H := H1
      clear H1
      obtain rfl := Option.some.inj H
      go_wp2
      go_ret
      exact ⟨by first | rfl | (simp [errW_none, errW_some] <;> rfl) | (simp [*, errW_none, errW_some] <;> rfl), by repeat (first | (with_reducible first | exact HB.out | apply zq2 | apply zq1 | apply zqd | refine zq3 ?_ GE135.out) | exact HB.out)⟩
     ·replace c29 := Bool.eq_false_iff.mpr c29
      subst c29
      have H1 : (impl_PtrOk.l0 kj9 a0 l1_2 (l1_2.length : Int) 0 a1_0 a1_1 l1_2) = some r := by rw [if_neg (show ¬ (false = true) by decide)] at H; exact H
      clear H
      have H := H1
      clear H1
      have H' := Az.mk H
      clear H
      have hcz30_0 : wc.cell? ⟨gb135, 0, none⟩ = some (.int .i64 a1_0) := (zq4 BK135.out 0).trans rfl
      have hcz30_1 : wc.cell? ⟨gb135, 1, none⟩ = some (.int .i64 a1_1) := (zq4 BK135.out 1).trans rfl
      have hcz30_2 : wc.cell? ⟨gb135, 2, none⟩ = some (.slice A1_2 l1_2.length c1_2) := (zq4 BK135.out 2).trans rfl
      have hfz30_0 := zq5 BK135.out 0
      have hfz30_1 := zq5 BK135.out 1
      have hfz30_2 := zq5 BK135.out 2
      go_wp2
      go_loopg [45] kj9 (fun kq v45 w' => ∃ (x45_2 : Int), v45 = .int .i64 x45_2 ∧ Az (impl_PtrOk.l0 kq a0 l1_2 (l1_2.length : Int) x45_2 a1_0 a1_1 l1_2 = some r) ∧ Az (kq ≤ kj9) ∧ Az (w'.heap[gb135]? = some (.cells #[.int .i64 a1_0, .int .i64 a1_1, (.slice A1_2 l1_2.length c1_2)] 29 (0, 0))) ∧ Az (Below w.heap.size w w'))
      case atStart => exact ⟨(0), (by first | rfl | (simp; done) | (simp [*]; done)), H', ⟨Nat.le_refl _⟩, ⟨by (with_reducible repeat (first | refine zq6 ?_ _ | refine zq8 ?_ | refine zq7 ?_ _)); exact BK135.out⟩, ⟨by repeat (first | (with_reducible first | exact HB.out | apply zq2 | apply zq1 | apply zqd | refine zq3 ?_ GE135.out) | exact HB.out)⟩⟩
      case round =>
       clear H'
       try clear c1
       try clear c2
       try clear p2
       try clear c5
       try clear p6
       try clear c20
       try clear c20b0
       try clear c23
       try clear c23b0
       try clear c29
       try clear hcz30_0
       try clear hcz30_1
       try clear hcz30_2
       try clear hfz30_0
       try clear hfz30_1
       try clear hfz30_2
       try clear p2
       try clear p6
       obtain ⟨x45_2, rfl, HA, HK2, BK135, HB⟩ := hrel
       cases gk with
       | zero => exact absurd HA.out (by simp [impl_PtrOk.l0])
       | succ k2 =>
        have H := HA.out
        clear HA
        simp only [impl_PtrOk.l0] at H
        by_cases c31 : x45_2 < (l1_2.length : Int)
        ·rw [if_pos c31] at H
         have c31b0 : decide (x45_2 < (l1_2.length : Int)) = true := decide_eq_true c31
         clear c31
         by_cases c32 : 0 ≤ x45_2
         ·rw [if_pos c32] at H
          have c32b0 : decide (0 ≤ x45_2) = true := decide_eq_true c32
          clear c32
          by_cases c33 : x45_2 < (l1_2.length : Int)
          ·rw [if_pos c33] at H
           have c33b0 : decide (x45_2 < (l1_2.length : Int)) = true := decide_eq_true c33
           clear c33
           replace H := Option.bind_eq_some_iff.mp H
           obtain ⟨t142, A340, H⟩ := H
           replace H : (if t142 = true then (if x45_2 ≤ (l1_2.length : Int) then ((slices_ContainsFunc_Place.f (l1_2.take (x45_2 : Int).toNat) ((rd_T37 l1_2 x45_2).f0) ((rd_T37 l1_2 x45_2).f1)).bind fun t147 => (if t147 = true then (some false) else (impl_PtrOk.l0 k2 a0 l1_2 (l1_2.length : Int) (wrap64 (x45_2 + 1)) a1_0 a1_1 l1_2))) else (none)) else (some false)) = some r := H
           have A34 := Az.mk A340
           clear A340
           by_cases c35 : t142 = true
           ·subst c35
            have H1 : (if x45_2 ≤ (l1_2.length : Int) then ((slices_ContainsFunc_Place.f (l1_2.take (x45_2 : Int).toNat) ((rd_T37 l1_2 x45_2).f0) ((rd_T37 l1_2 x45_2).f1)).bind fun t147 => (if t147 = true then (some false) else (impl_PtrOk.l0 k2 a0 l1_2 (l1_2.length : Int) (wrap64 (x45_2 + 1)) a1_0 a1_1 l1_2))) else (none)) = some r := by rw [if_pos rfl] at H; exact H
            clear H
            have H := H1
            clear H1
            have c36b0 := eq_true (of_decide_eq_true (by first | (with_reducible assumption) | assumption) : 0 ≤ x45_2)
            by_cases c37 : x45_2 ≤ (l1_2.length : Int)
            ·rw [if_pos c37] at H
             have c37b0 := eq_true c37
             have c37b1 : decide (x45_2 ≤ (l1_2.length : Int)) = true := decide_eq_true c37
             clear c37
             obtain ⟨y143, hy143⟩ : ∃ y_ : List (S37), y_ = (l1_2.take (x45_2 : Int).toNat) := ⟨_, rfl⟩
             replace H : ((slices_ContainsFunc_Place.f y143 ((rd_T37 l1_2 x45_2).f0) ((rd_T37 l1_2 x45_2).f1)).bind fun t147 => (if t147 = true then (some false) else (impl_PtrOk.l0 k2 a0 l1_2 (l1_2.length : Int) (wrap64 (x45_2 + 1)) a1_0 a1_1 l1_2))) = some r := by first | (rw [hy143]; with_reducible exact H) | (have H2_ := (Option.bind_some _ _).symm.trans H; rw [hy143]; with_reducible exact H2_) | (have H2_ := (Option.bind_some _ _).symm.trans H; with_reducible exact H2_) | with_reducible exact H | (rw [hy143]; exact H) | exact H
             have Ny143 := Az.mk hy143
             clear hy143
             replace H := Option.bind_eq_some_iff.mp H
             obtain ⟨t147, A380, H⟩ := H
             replace H : (if t147 = true then (some false) else (impl_PtrOk.l0 k2 a0 l1_2 (l1_2.length : Int) (wrap64 (x45_2 + 1)) a1_0 a1_1 l1_2)) = some r := H
             have A38 := Az.mk A380
             clear A380
             by_cases c39 : t147 = true
             ·subst c39
              have H1 : (some false) = some r := by rw [if_pos rfl] at H; exact H
              clear H
              have H := H1
              clear H1
              obtain rfl := Option.some.inj H
              have p140 : 0 ≤ (x45_2 : Int) := of_decide_eq_true (by first | (with_reducible assumption) | assumption)
              have q140 : x45_2 < (l1_2.length : Int) := of_decide_eq_true (by first | (with_reducible assumption) | assumption)
              obtain ⟨ad140, e140, hx140_0, hx140_1⟩ := at_T37 HR1_2.out x45_2 p140 q140
              cases e140
              replace hx140_0 := (HB.out.cell (World.block_lt_of_cell? w _ hx140_0)).trans hx140_0
              replace hx140_1 := (HB.out.cell (World.block_lt_of_cell? w _ hx140_1)).trans hx140_1
              replace p140 := eq_true p140
              replace q140 := eq_true q140
              go_wp2_with (first | ((with_reducible refine zqg (N := 6) rfl ?_); (try (refine gate_guard (by rfl) ?_; dsimp only)); refine zqb ?hg (N := 6) ?hd (cs := #[.int .i64 0, .int .i64 0]) (t := 37) ?hr ?_; (case hd => rfl); (case hg => rfl); (case hr => first | (go_simp; done) | (go_simp; rfl)); intro gb141 hg w40 hbox hb; have n0_ := Az.mk (blk_below (g := gb135) (o := .cells #[.int .i64 a1_0, .int .i64 a1_1, .slice (some ad140) l1_2.length c1_2] 29 (0, 0)) (by (with_reducible repeat (first | refine zq6 ?_ _ | refine zq8 ?_ | refine zq7 ?_ _)); exact BK135.out) hb); have n1_ := Az.mk (below_step (by repeat (first | (with_reducible first | exact HB.out | apply zq2 | apply zq1 | apply zqd | refine zq3 ?_ GE135.out) | exact HB.out)) hb); have n2_ := Az.mk (hbox); have n3_ := Az.mk ((by rw [hg]; exact (below_size (by repeat (first | (with_reducible first | exact HB.out | apply zq2 | apply zq1 | apply zqd | refine zq3 ?_ GE135.out) | exact HB.out))) : w.heap.size ≤ gb141)); have n4_ := Az.mk ((by rw [hg]; exact (below_size (by repeat (first | (with_reducible first | exact HB.out | apply zq2 | apply zq1 | apply zqd | refine zq3 ?_ GE135.out) | exact HB.out))) : w.heap.size ≤ gb141)); have n5_ := Az.mk ((by rw [hg]; exact Nat.ne_of_lt (blk_lt (g := gb135) (o := .cells #[.int .i64 a1_0, .int .i64 a1_1, .slice (some ad140) l1_2.length c1_2] 29 (0, 0)) (by (with_reducible repeat (first | refine zq6 ?_ _ | refine zq8 ?_ | refine zq7 ?_ _)); exact BK135.out)) : gb135 ≠ gb141)); have n6_ := Az.mk ((by rw [hg]; exact Nat.ne_of_gt (blk_lt (g := gb135) (o := .cells #[.int .i64 a1_0, .int .i64 a1_1, .slice (some ad140) l1_2.length c1_2] 29 (0, 0)) (by (with_reducible repeat (first | refine zq6 ?_ _ | refine zq8 ?_ | refine zq7 ?_ _)); exact BK135.out)) : gb141 ≠ gb135)); clear BK135; clear HB; have BK135 := n0_; have HB := n1_; have BK141 := n2_; have GW141 := n3_; have GE141 := n4_; have NB135_141 := n5_; have NB141_135 := n6_; clear n0_ n1_ n2_ n3_ n4_ n5_ n6_; clear hb hbox hg; have hnb41 := NB141_135.out; have hnc41 := NB135_141.out; have hcz42_0 : w40.cell? ⟨gb141, 0, none⟩ = some (.int .i64 0) := (zq4 BK141.out 0).trans rfl; have hcz42_1 : w40.cell? ⟨gb141, 1, none⟩ = some (.int .i64 0) := (zq4 BK141.out 1).trans rfl; have hfz42_0 := zq5 BK141.out 0; have hfz42_1 := zq5 BK141.out 1) | ((with_reducible refine gate_callee (f := 59) rfl ?_); refine zq9 (some 52) rfl rfl Try.func59 (by kernel_rfl) rfl #[.agg #[.int .i64 ((rd_T37 l1_2 x45_2).f0), .int .i64 ((rd_T37 l1_2 x45_2).f1)], .int .i64 a0] rfl (by (try simp only [List.map_toArray, List.map_cons, List.map_nil]); first | done | rfl | (simp only [List.length_drop, List.length_take]; rfl)) ?_; (with_reducible refine (impl_Place_ok.calls ((rd_T37 l1_2 x45_2).f0) ((rd_T37 l1_2 x45_2).f1) a0 true _ A34.out).mono ?_); rintro e w43 ⟨rfl, hb⟩; refine ⟨_, rfl, ?_⟩; have n0_ := Az.mk (blk_below (g := gb135) (o := .cells #[.int .i64 a1_0, .int .i64 a1_1, .slice (some ad140) l1_2.length c1_2] 29 (0, 0)) (by (with_reducible repeat (first | refine zq6 ?_ _ | refine zq8 ?_ | refine zq7 ?_ _)); refine blk_far ?_ NB135_141.out _; (with_reducible repeat (first | refine zq6 ?_ _ | refine zq8 ?_ | refine zq7 ?_ _)); refine blk_far ?_ NB135_141.out _; (with_reducible repeat (first | refine zq6 ?_ _ | refine zq8 ?_ | refine zq7 ?_ _)); exact BK135.out) hb); have n1_ := Az.mk (blk_below (g := gb141) (o := .cells #[.int .i64 ((rd_T37 l1_2 x45_2).f0), .int .i64 ((rd_T37 l1_2 x45_2).f1)] 37 (0, 0)) (by (with_reducible repeat (first | refine zq6 ?_ _ | refine zq8 ?_ | refine zq7 ?_ _)); refine blk_put (cs := #[.int .i64 ((rd_T37 l1_2 x45_2).f0), .int .i64 0]) ?_ 1 _ rfl; (with_reducible repeat (first | refine zq6 ?_ _ | refine zq8 ?_ | refine zq7 ?_ _)); refine blk_put (cs := #[.int .i64 0, .int .i64 0]) ?_ 0 _ rfl; (with_reducible repeat (first | refine zq6 ?_ _ | refine zq8 ?_ | refine zq7 ?_ _)); exact BK141.out) hb); have n2_ := Az.mk (below_step (by repeat (first | (with_reducible first | exact HB.out | apply zq2 | apply zq1 | apply zqd | refine zq3 ?_ GE135.out | refine zq3 ?_ GE141.out) | exact HB.out)) hb); clear BK135; clear BK141; clear HB; have BK135 := n0_; have BK141 := n1_; have HB := n2_; clear n0_ n1_ n2_; (try clear hb); (try clear hb2); (try clear hk); (try clear hi); have hcz44_0 : w43.cell? ⟨gb135, 0, none⟩ = some (.int .i64 a1_0) := (zq4 BK135.out 0).trans rfl; have hcz44_1 : w43.cell? ⟨gb135, 1, none⟩ = some (.int .i64 a1_1) := (zq4 BK135.out 1).trans rfl; have hcz44_2 : w43.cell? ⟨gb135, 2, none⟩ = some (.slice (some ad140) l1_2.length c1_2) := (zq4 BK135.out 2).trans rfl; have hfz44_0 := zq5 BK135.out 0; have hfz44_1 := zq5 BK135.out 1; have hfz44_2 := zq5 BK135.out 2; have q45 : (x45_2 : Int) ≤ ((l1_2.length : Int) : Int) := of_decide_eq_true (by first | (with_reducible assumption) | assumption); obtain ⟨i045, hi045, _, hsz45, _⟩ := info_parts info37; have hroom45 : l1_2.length ≤ c1_2 := HC1_2.out; have hC45 : Kd.C k37 _ (some ad140) l1_2.length l1_2 := HR1_2.out; have hcut45 := cut_to (P := Try.prog) 27 37 .i64 Try.underlying27 hi045 (some ad140) l1_2.length c1_2 x45_2 (of_decide_eq_true (by first | (with_reducible assumption) | assumption)) q45 hroom45; have hr45 := Kd.C_take (m := (x45_2 : Int).toNat) hC45 (by omega); have hy45 : y143.length = (x45_2 : Int).toNat := (by rw [Ny143.out, List.length_take]; omega); rw [← Ny143.out] at hr45; rw [← hy45] at hcut45; have HR146 := Az.mk hr45; have HC146 := Az.mk (show y143.length ≤ c1_2 from by omega); clear hr45 hC45 hroom45 hi045 hsz45; have KY45 := Az.mk hy45; clear hy45; replace q45 := eq_true q45) | (go_at_call 60; (with_reducible refine (slices_ContainsFunc_Place.calls _ _ y143 ((rd_T37 l1_2 x45_2).f0) ((rd_T37 l1_2 x45_2).f1) true _ ?side1 ?side2 A38.out gb141 (by (with_reducible repeat (first | refine zq6 ?_ _ | refine zq8 ?_ | refine zq7 ?_ _)); exact BK141.out)).mono ?_); (case side1 => repeat (first | exact (Kd.C_below HR146.out HB.out) | (with_reducible refine Kd.C_alloc ?_ _) | (with_reducible refine Kd.C_drewN ?_ _) | (with_reducible refine Kd.C_drew ?_))); (case side2 => exact HC146.out); rintro e w46 ⟨rfl, hb⟩; have n0_ := Az.mk (blk_below (g := gb135) (o := .cells #[.int .i64 a1_0, .int .i64 a1_1, .slice (some ad140) l1_2.length c1_2] 29 (0, 0)) (by (with_reducible repeat (first | refine zq6 ?_ _ | refine zq8 ?_ | refine zq7 ?_ _)); exact BK135.out) hb); have n1_ := Az.mk (blk_below (g := gb141) (o := .cells #[.int .i64 ((rd_T37 l1_2 x45_2).f0), .int .i64 ((rd_T37 l1_2 x45_2).f1)] 37 (0, 0)) (by (with_reducible repeat (first | refine zq6 ?_ _ | refine zq8 ?_ | refine zq7 ?_ _)); exact BK141.out) hb); have n2_ := Az.mk (below_step (by repeat (first | (with_reducible first | exact HB.out | apply zq2 | apply zq1 | apply zqd | refine zq3 ?_ GE135.out | refine zq3 ?_ GE141.out) | exact HB.out)) hb); clear BK135; clear BK141; clear HB; have BK135 := n0_; have BK141 := n1_; have HB := n2_; clear n0_ n1_ n2_; (try clear hb); (try clear hb2); (try clear hk); (try clear hi)))
              go_ret
              exact ⟨by first | rfl | (simp [errW_none, errW_some] <;> rfl) | (simp [*, errW_none, errW_some] <;> rfl), by repeat (first | (with_reducible first | exact HB.out | apply zq2 | apply zq1 | apply zqd | refine zq3 ?_ GE135.out | refine zq3 ?_ GE141.out) | exact HB.out)⟩
             ·replace c39 := Bool.eq_false_iff.mpr c39
              subst c39
              have H1 : (impl_PtrOk.l0 k2 a0 l1_2 (l1_2.length : Int) (wrap64 (x45_2 + 1)) a1_0 a1_1 l1_2) = some r := by rw [if_neg (show ¬ (false = true) by decide)] at H; exact H
              clear H
              have H := H1
              clear H1
              have H' := Az.mk H
              clear H
              have p140 : 0 ≤ (x45_2 : Int) := of_decide_eq_true (by first | (with_reducible assumption) | assumption)
              have q140 : x45_2 < (l1_2.length : Int) := of_decide_eq_true (by first | (with_reducible assumption) | assumption)
              obtain ⟨ad140, e140, hx140_0, hx140_1⟩ := at_T37 HR1_2.out x45_2 p140 q140
              cases e140
              replace hx140_0 := (HB.out.cell (World.block_lt_of_cell? w _ hx140_0)).trans hx140_0
              replace hx140_1 := (HB.out.cell (World.block_lt_of_cell? w _ hx140_1)).trans hx140_1
              replace p140 := eq_true p140
              replace q140 := eq_true q140
              go_wp2_with (first | ((with_reducible refine zqg (N := 6) rfl ?_); (try (refine gate_guard (by rfl) ?_; dsimp only)); refine zqb ?hg (N := 6) ?hd (cs := #[.int .i64 0, .int .i64 0]) (t := 37) ?hr ?_; (case hd => rfl); (case hg => rfl); (case hr => first | (go_simp; done) | (go_simp; rfl)); intro gb141 hg w47 hbox hb; have n0_ := Az.mk (blk_below (g := gb135) (o := .cells #[.int .i64 a1_0, .int .i64 a1_1, .slice (some ad140) l1_2.length c1_2] 29 (0, 0)) (by (with_reducible repeat (first | refine zq6 ?_ _ | refine zq8 ?_ | refine zq7 ?_ _)); exact BK135.out) hb); have n1_ := Az.mk (below_step (by repeat (first | (with_reducible first | exact HB.out | apply zq2 | apply zq1 | apply zqd | refine zq3 ?_ GE135.out) | exact HB.out)) hb); have n2_ := Az.mk (hbox); have n3_ := Az.mk ((by rw [hg]; exact (below_size (by repeat (first | (with_reducible first | exact HB.out | apply zq2 | apply zq1 | apply zqd | refine zq3 ?_ GE135.out) | exact HB.out))) : w.heap.size ≤ gb141)); have n4_ := Az.mk ((by rw [hg]; exact (below_size (by repeat (first | (with_reducible first | exact HB.out | apply zq2 | apply zq1 | apply zqd | refine zq3 ?_ GE135.out) | exact HB.out))) : w.heap.size ≤ gb141)); have n5_ := Az.mk ((by rw [hg]; exact Nat.ne_of_lt (blk_lt (g := gb135) (o := .cells #[.int .i64 a1_0, .int .i64 a1_1, .slice (some ad140) l1_2.length c1_2] 29 (0, 0)) (by (with_reducible repeat (first | refine zq6 ?_ _ | refine zq8 ?_ | refine zq7 ?_ _)); exact BK135.out)) : gb135 ≠ gb141)); have n6_ := Az.mk ((by rw [hg]; exact Nat.ne_of_gt (blk_lt (g := gb135) (o := .cells #[.int .i64 a1_0, .int .i64 a1_1, .slice (some ad140) l1_2.length c1_2] 29 (0, 0)) (by (with_reducible repeat (first | refine zq6 ?_ _ | refine zq8 ?_ | refine zq7 ?_ _)); exact BK135.out)) : gb141 ≠ gb135)); clear BK135; clear HB; have BK135 := n0_; have HB := n1_; have BK141 := n2_; have GW141 := n3_; have GE141 := n4_; have NB135_141 := n5_; have NB141_135 := n6_; clear n0_ n1_ n2_ n3_ n4_ n5_ n6_; clear hb hbox hg; have hnb48 := NB141_135.out; have hnc48 := NB135_141.out; have hcz49_0 : w47.cell? ⟨gb141, 0, none⟩ = some (.int .i64 0) := (zq4 BK141.out 0).trans rfl; have hcz49_1 : w47.cell? ⟨gb141, 1, none⟩ = some (.int .i64 0) := (zq4 BK141.out 1).trans rfl; have hfz49_0 := zq5 BK141.out 0; have hfz49_1 := zq5 BK141.out 1) | ((with_reducible refine gate_callee (f := 59) rfl ?_); refine zq9 (some 52) rfl rfl Try.func59 (by kernel_rfl) rfl #[.agg #[.int .i64 ((rd_T37 l1_2 x45_2).f0), .int .i64 ((rd_T37 l1_2 x45_2).f1)], .int .i64 a0] rfl (by (try simp only [List.map_toArray, List.map_cons, List.map_nil]); first | done | rfl | (simp only [List.length_drop, List.length_take]; rfl)) ?_; (with_reducible refine (impl_Place_ok.calls ((rd_T37 l1_2 x45_2).f0) ((rd_T37 l1_2 x45_2).f1) a0 true _ A34.out).mono ?_); rintro e w50 ⟨rfl, hb⟩; refine ⟨_, rfl, ?_⟩; have n0_ := Az.mk (blk_below (g := gb135) (o := .cells #[.int .i64 a1_0, .int .i64 a1_1, .slice (some ad140) l1_2.length c1_2] 29 (0, 0)) (by (with_reducible repeat (first | refine zq6 ?_ _ | refine zq8 ?_ | refine zq7 ?_ _)); refine blk_far ?_ NB135_141.out _; (with_reducible repeat (first | refine zq6 ?_ _ | refine zq8 ?_ | refine zq7 ?_ _)); refine blk_far ?_ NB135_141.out _; (with_reducible repeat (first | refine zq6 ?_ _ | refine zq8 ?_ | refine zq7 ?_ _)); exact BK135.out) hb); have n1_ := Az.mk (blk_below (g := gb141) (o := .cells #[.int .i64 ((rd_T37 l1_2 x45_2).f0), .int .i64 ((rd_T37 l1_2 x45_2).f1)] 37 (0, 0)) (by (with_reducible repeat (first | refine zq6 ?_ _ | refine zq8 ?_ | refine zq7 ?_ _)); refine blk_put (cs := #[.int .i64 ((rd_T37 l1_2 x45_2).f0), .int .i64 0]) ?_ 1 _ rfl; (with_reducible repeat (first | refine zq6 ?_ _ | refine zq8 ?_ | refine zq7 ?_ _)); refine blk_put (cs := #[.int .i64 0, .int .i64 0]) ?_ 0 _ rfl; (with_reducible repeat (first | refine zq6 ?_ _ | refine zq8 ?_ | refine zq7 ?_ _)); exact BK141.out) hb); have n2_ := Az.mk (below_step (by repeat (first | (with_reducible first | exact HB.out | apply zq2 | apply zq1 | apply zqd | refine zq3 ?_ GE135.out | refine zq3 ?_ GE141.out) | exact HB.out)) hb); clear BK135; clear BK141; clear HB; have BK135 := n0_; have BK141 := n1_; have HB := n2_; clear n0_ n1_ n2_; (try clear hb); (try clear hb2); (try clear hk); (try clear hi); have hcz51_0 : w50.cell? ⟨gb135, 0, none⟩ = some (.int .i64 a1_0) := (zq4 BK135.out 0).trans rfl; have hcz51_1 : w50.cell? ⟨gb135, 1, none⟩ = some (.int .i64 a1_1) := (zq4 BK135.out 1).trans rfl; have hcz51_2 : w50.cell? ⟨gb135, 2, none⟩ = some (.slice (some ad140) l1_2.length c1_2) := (zq4 BK135.out 2).trans rfl; have hfz51_0 := zq5 BK135.out 0; have hfz51_1 := zq5 BK135.out 1; have hfz51_2 := zq5 BK135.out 2; have q52 : (x45_2 : Int) ≤ ((l1_2.length : Int) : Int) := of_decide_eq_true (by first | (with_reducible assumption) | assumption); obtain ⟨i052, hi052, _, hsz52, _⟩ := info_parts info37; have hroom52 : l1_2.length ≤ c1_2 := HC1_2.out; have hC52 : Kd.C k37 _ (some ad140) l1_2.length l1_2 := HR1_2.out; have hcut52 := cut_to (P := Try.prog) 27 37 .i64 Try.underlying27 hi052 (some ad140) l1_2.length c1_2 x45_2 (of_decide_eq_true (by first | (with_reducible assumption) | assumption)) q52 hroom52; have hr52 := Kd.C_take (m := (x45_2 : Int).toNat) hC52 (by omega); have hy52 : y143.length = (x45_2 : Int).toNat := (by rw [Ny143.out, List.length_take]; omega); rw [← Ny143.out] at hr52; rw [← hy52] at hcut52; have HR146 := Az.mk hr52; have HC146 := Az.mk (show y143.length ≤ c1_2 from by omega); clear hr52 hC52 hroom52 hi052 hsz52; have KY52 := Az.mk hy52; clear hy52; replace q52 := eq_true q52) | (go_at_call 60; (with_reducible refine (slices_ContainsFunc_Place.calls _ _ y143 ((rd_T37 l1_2 x45_2).f0) ((rd_T37 l1_2 x45_2).f1) false _ ?side1 ?side2 A38.out gb141 (by (with_reducible repeat (first | refine zq6 ?_ _ | refine zq8 ?_ | refine zq7 ?_ _)); exact BK141.out)).mono ?_); (case side1 => repeat (first | exact (Kd.C_below HR146.out HB.out) | (with_reducible refine Kd.C_alloc ?_ _) | (with_reducible refine Kd.C_drewN ?_ _) | (with_reducible refine Kd.C_drew ?_))); (case side2 => exact HC146.out); rintro e w53 ⟨rfl, hb⟩; have n0_ := Az.mk (blk_below (g := gb135) (o := .cells #[.int .i64 a1_0, .int .i64 a1_1, .slice (some ad140) l1_2.length c1_2] 29 (0, 0)) (by (with_reducible repeat (first | refine zq6 ?_ _ | refine zq8 ?_ | refine zq7 ?_ _)); exact BK135.out) hb); have n1_ := Az.mk (blk_below (g := gb141) (o := .cells #[.int .i64 ((rd_T37 l1_2 x45_2).f0), .int .i64 ((rd_T37 l1_2 x45_2).f1)] 37 (0, 0)) (by (with_reducible repeat (first | refine zq6 ?_ _ | refine zq8 ?_ | refine zq7 ?_ _)); exact BK141.out) hb); have n2_ := Az.mk (below_step (by repeat (first | (with_reducible first | exact HB.out | apply zq2 | apply zq1 | apply zqd | refine zq3 ?_ GE135.out | refine zq3 ?_ GE141.out) | exact HB.out)) hb); clear BK135; clear BK141; clear HB; have BK135 := n0_; have BK141 := n1_; have HB := n2_; clear n0_ n1_ n2_; (try clear hb); (try clear hb2); (try clear hk); (try clear hi)))
              go_roundg k2
              case measure => have := HJ9.out; have := HK2.out; omega
              case rel => exact ⟨(wrap64 (x45_2 + 1)), (by first | rfl | (simp; done) | (simp [*]; done)), H', ⟨by have := HJ9.out; have := HK2.out; omega⟩, ⟨by (with_reducible repeat (first | refine zq6 ?_ _ | refine zq8 ?_ | refine zq7 ?_ _)); exact BK135.out⟩, ⟨by repeat (first | (with_reducible first | exact HB.out | apply zq2 | apply zq1 | apply zqd | refine zq3 ?_ GE135.out | refine zq3 ?_ GE141.out) | exact HB.out)⟩⟩
            ·rw [if_neg c37] at H
             exact absurd H (by simp)
           ·replace c35 := Bool.eq_false_iff.mpr c35
            subst c35
            have H1 : (some false) = some r := by rw [if_neg (show ¬ (false = true) by decide)] at H; exact H
            clear H
            have H := H1
            clear H1
            obtain rfl := Option.some.inj H
            have p140 : 0 ≤ (x45_2 : Int) := of_decide_eq_true (by first | (with_reducible assumption) | assumption)
            have q140 : x45_2 < (l1_2.length : Int) := of_decide_eq_true (by first | (with_reducible assumption) | assumption)
            obtain ⟨ad140, e140, hx140_0, hx140_1⟩ := at_T37 HR1_2.out x45_2 p140 q140
            cases e140
            replace hx140_0 := (HB.out.cell (World.block_lt_of_cell? w _ hx140_0)).trans hx140_0
            replace hx140_1 := (HB.out.cell (World.block_lt_of_cell? w _ hx140_1)).trans hx140_1
            replace p140 := eq_true p140
            replace q140 := eq_true q140
            go_wp2_with (first | ((with_reducible refine zqg (N := 6) rfl ?_); (try (refine gate_guard (by rfl) ?_; dsimp only)); refine zqb ?hg (N := 6) ?hd (cs := #[.int .i64 0, .int .i64 0]) (t := 37) ?hr ?_; (case hd => rfl); (case hg => rfl); (case hr => first | (go_simp; done) | (go_simp; rfl)); intro gb141 hg w54 hbox hb; have n0_ := Az.mk (blk_below (g := gb135) (o := .cells #[.int .i64 a1_0, .int .i64 a1_1, .slice (some ad140) l1_2.length c1_2] 29 (0, 0)) (by (with_reducible repeat (first | refine zq6 ?_ _ | refine zq8 ?_ | refine zq7 ?_ _)); exact BK135.out) hb); have n1_ := Az.mk (below_step (by repeat (first | (with_reducible first | exact HB.out | apply zq2 | apply zq1 | apply zqd | refine zq3 ?_ GE135.out) | exact HB.out)) hb); have n2_ := Az.mk (hbox); have n3_ := Az.mk ((by rw [hg]; exact (below_size (by repeat (first | (with_reducible first | exact HB.out | apply zq2 | apply zq1 | apply zqd | refine zq3 ?_ GE135.out) | exact HB.out))) : w.heap.size ≤ gb141)); have n4_ := Az.mk ((by rw [hg]; exact (below_size (by repeat (first | (with_reducible first | exact HB.out | apply zq2 | apply zq1 | apply zqd | refine zq3 ?_ GE135.out) | exact HB.out))) : w.heap.size ≤ gb141)); have n5_ := Az.mk ((by rw [hg]; exact Nat.ne_of_lt (blk_lt (g := gb135) (o := .cells #[.int .i64 a1_0, .int .i64 a1_1, .slice (some ad140) l1_2.length c1_2] 29 (0, 0)) (by (with_reducible repeat (first | refine zq6 ?_ _ | refine zq8 ?_ | refine zq7 ?_ _)); exact BK135.out)) : gb135 ≠ gb141)); have n6_ := Az.mk ((by rw [hg]; exact Nat.ne_of_gt (blk_lt (g := gb135) (o := .cells #[.int .i64 a1_0, .int .i64 a1_1, .slice (some ad140) l1_2.length c1_2] 29 (0, 0)) (by (with_reducible repeat (first | refine zq6 ?_ _ | refine zq8 ?_ | refine zq7 ?_ _)); exact BK135.out)) : gb141 ≠ gb135)); clear BK135; clear HB; have BK135 := n0_; have HB := n1_; have BK141 := n2_; have GW141 := n3_; have GE141 := n4_; have NB135_141 := n5_; have NB141_135 := n6_; clear n0_ n1_ n2_ n3_ n4_ n5_ n6_; clear hb hbox hg; have hnb55 := NB141_135.out; have hnc55 := NB135_141.out; have hcz56_0 : w54.cell? ⟨gb141, 0, none⟩ = some (.int .i64 0) := (zq4 BK141.out 0).trans rfl; have hcz56_1 : w54.cell? ⟨gb141, 1, none⟩ = some (.int .i64 0) := (zq4 BK141.out 1).trans rfl; have hfz56_0 := zq5 BK141.out 0; have hfz56_1 := zq5 BK141.out 1) | ((with_reducible refine gate_callee (f := 59) rfl ?_); refine zq9 (some 52) rfl rfl Try.func59 (by kernel_rfl) rfl #[.agg #[.int .i64 ((rd_T37 l1_2 x45_2).f0), .int .i64 ((rd_T37 l1_2 x45_2).f1)], .int .i64 a0] rfl (by (try simp only [List.map_toArray, List.map_cons, List.map_nil]); first | done | rfl | (simp only [List.length_drop, List.length_take]; rfl)) ?_; (with_reducible refine (impl_Place_ok.calls ((rd_T37 l1_2 x45_2).f0) ((rd_T37 l1_2 x45_2).f1) a0 false _ A34.out).mono ?_); rintro e w57 ⟨rfl, hb⟩; refine ⟨_, rfl, ?_⟩; have n0_ := Az.mk (blk_below (g := gb135) (o := .cells #[.int .i64 a1_0, .int .i64 a1_1, .slice (some ad140) l1_2.length c1_2] 29 (0, 0)) (by (with_reducible repeat (first | refine zq6 ?_ _ | refine zq8 ?_ | refine zq7 ?_ _)); refine blk_far ?_ NB135_141.out _; (with_reducible repeat (first | refine zq6 ?_ _ | refine zq8 ?_ | refine zq7 ?_ _)); refine blk_far ?_ NB135_141.out _; (with_reducible repeat (first | refine zq6 ?_ _ | refine zq8 ?_ | refine zq7 ?_ _)); exact BK135.out) hb); have n1_ := Az.mk (blk_below (g := gb141) (o := .cells #[.int .i64 ((rd_T37 l1_2 x45_2).f0), .int .i64 ((rd_T37 l1_2 x45_2).f1)] 37 (0, 0)) (by (with_reducible repeat (first | refine zq6 ?_ _ | refine zq8 ?_ | refine zq7 ?_ _)); refine blk_put (cs := #[.int .i64 ((rd_T37 l1_2 x45_2).f0), .int .i64 0]) ?_ 1 _ rfl; (with_reducible repeat (first | refine zq6 ?_ _ | refine zq8 ?_ | refine zq7 ?_ _)); refine blk_put (cs := #[.int .i64 0, .int .i64 0]) ?_ 0 _ rfl; (with_reducible repeat (first | refine zq6 ?_ _ | refine zq8 ?_ | refine zq7 ?_ _)); exact BK141.out) hb); have n2_ := Az.mk (below_step (by repeat (first | (with_reducible first | exact HB.out | apply zq2 | apply zq1 | apply zqd | refine zq3 ?_ GE135.out | refine zq3 ?_ GE141.out) | exact HB.out)) hb); clear BK135; clear BK141; clear HB; have BK135 := n0_; have BK141 := n1_; have HB := n2_; clear n0_ n1_ n2_; (try clear hb); (try clear hb2); (try clear hk); (try clear hi)))
            go_ret
            exact ⟨by first | rfl | (simp [errW_none, errW_some] <;> rfl) | (simp [*, errW_none, errW_some] <;> rfl), by repeat (first | (with_reducible first | exact HB.out | apply zq2 | apply zq1 | apply zqd | refine zq3 ?_ GE135.out | refine zq3 ?_ GE141.out) | exact HB.out)⟩
          ·rw [if_neg c33] at H
           exact absurd H (by simp)
         ·rw [if_neg c32] at H
          exact absurd H (by simp)
        ·rw [if_neg c31] at H
         have c31b0 : decide (x45_2 < (l1_2.length : Int)) = false := decide_eq_false c31
         clear c31
         obtain rfl := Option.some.inj H
         go_wp2
         go_ret
         exact ⟨by first | rfl | (simp [errW_none, errW_some] <;> rfl) | (simp [*, errW_none, errW_some] <;> rfl), by repeat (first | (with_reducible first | exact HB.out | apply zq2 | apply zq1 | apply zqd | refine zq3 ?_ GE135.out) | exact HB.out)⟩
 ·replace c4 := Bool.eq_false_iff.mpr c4
  subst c4
  have H1 : (some false) = some r := by rw [if_neg (show ¬ (false = true) by decide)] at H; exact H
  clear H
  have H := H1
  clear H1
  obtain rfl := Option.some.inj H
  go_enter Try.func20, Try.ntmps20
  go_wp2_with (first | ((with_reducible refine zqg (N := 3) rfl ?_); (try (refine gate_guard (by rfl) ?_; dsimp only)); refine zqb ?hg (N := 3) ?hd (cs := #[.int .i64 a1_0, .int .i64 a1_1, .slice A1_2 l1_2.length c1_2]) (t := 29) ?hr ?_; (case hd => rfl); (case hg => rfl); (case hr => first | (go_simp; done) | (go_simp; rfl)); intro gb135 hg w58 hbox hb; have n0_ := Az.mk (below_step (by repeat (first | (with_reducible first | exact HB.out | apply zq2 | apply zq1 | apply zqd) | exact HB.out)) hb); have n1_ := Az.mk (hbox); have n2_ := Az.mk ((by rw [hg]; exact (below_size (by repeat (first | (with_reducible first | exact HB.out | apply zq2 | apply zq1 | apply zqd) | exact HB.out))) : w.heap.size ≤ gb135)); have n3_ := Az.mk ((by rw [hg]; exact (below_size (by repeat (first | (with_reducible first | exact HB.out | apply zq2 | apply zq1 | apply zqd) | exact HB.out))) : w.heap.size ≤ gb135)); clear HB; have HB := n0_; have BK135 := n1_; have GW135 := n2_; have GE135 := n3_; clear n0_ n1_ n2_ n3_; clear hb hbox hg) | ((with_reducible refine gate_callee (f := 55) rfl ?_); refine zq9 (some 8) rfl rfl Try.func55 (by kernel_rfl) rfl #[.int .i64 a0] rfl (by (try simp only [List.map_toArray, List.map_cons, List.map_nil]); first | done | rfl | (simp only [List.length_drop, List.length_take]; rfl)) ?_; (with_reducible refine (impl_isPool.calls a0 false _ A3.out).mono ?_); rintro e w' ⟨rfl, ⟨nd, rfl⟩⟩; refine ⟨_, rfl, ?_⟩))
  go_ret
  exact ⟨by first | rfl | (simp [errW_none, errW_some] <;> rfl) | (simp [*, errW_none, errW_some] <;> rfl), by repeat (first | (with_reducible first | exact HB.out | apply zq2 | apply zq1 | apply zqd | refine zq3 ?_ GE135.out) | exact HB.out)⟩
end Go.Proofs.Ytkoimmeghdbodaa.Print
namespace Go.Proofs.Ytkoimmeghdbodaa.Pure
open Go.RowKit Go.Proofs.Ytkoimmeghdbodaa.Print Go.Proofs.YtkoimmeghdbodaaW.PrintWords
theorem l6In_eq (n lo hi : Int) : spec_l6In.f n lo hi = some (decide (lo ≤ n ∧ n ≤ hi)) := by
  unfold spec_l6In.f
  by_cases h : n ≥ lo
  · rw [if_pos h]
    congr 1
    by_cases h2 : n ≤ hi
    · rw [decide_eq_true h2, decide_eq_true ⟨h, h2⟩]
    · rw [decide_eq_false h2, decide_eq_false (fun h3 => h2 h3.2)]
  · rw [if_neg h, decide_eq_false (fun h3 => h h3.1)]
def plAt (l : List S37) (i : Nat) : S37 := l.getD i z37
theorem rd37_nat (l : List S37) (i : Nat) : rd_T37 l (i : Int) = plAt l i := by simp [rd_T37, plAt]
def PlaceIn (n : Int) (p : S37) : Prop := (0 ≤ p.f0 ∧ p.f0 < n) ∧ 0 ≤ p.f1 ∧ p.f1 < 12
def GoodAt (n : Int) (l : List S37) (i : Nat) : Prop := PlaceIn n (plAt l i) ∧ ∀ k, k < i → (plAt l k).f0 ≠ (plAt l i).f0
def AllGood (n : Int) (l : List S37) : Prop := ∀ i, i < l.length → GoodAt n l i
theorem spec_l1_good {n s m : Int} {l : List S37} (hl : l.length ≤ 1099511627776) {i : Nat} (hi : i < l.length) {r : Bool} (k : Ev (fun k => spec_l2Ptr.l0 k n ((i + 1 : Nat) : Int) s m l) r) (d : Nat) :
    ∀ q : Nat, q + d = i → (∀ j, q ≤ j → j < i → (plAt l j).f0 ≠ (plAt l i).f0) → Ev (fun k => spec_l2Ptr.l1 k n (i : Int) (q : Int) s m l) r := by
  have e : wrap64 ((i : Int) + 1) = ((i + 1 : Nat) : Int) := by rw [wrap_ok (by omega)]; omega
  induction d with
  | zero =>
    intro q hq _
    refine Ev.next ?_
    simp only [spec_l2Ptr.l1, e]
    clear e
    exact Ev.neg (by omega) k
  | succ d ih =>
    intro q hq h
    have e2 : wrap64 ((q : Int) + 1) = ((q + 1 : Nat) : Int) := by rw [wrap_ok (by omega)]; omega
    have hih := ih (q + 1) (by omega) (fun j h1 h2 => h j (by omega) h2)
    refine Ev.next ?_
    simp only [spec_l2Ptr.l1, e2, rd37_nat]
    clear e e2
    exact Ev.pos (by omega) (Ev.pos (by omega) (Ev.pos (by omega) (Ev.pos (by omega) (Ev.pos (by omega) (Ev.neg (h q (by omega) (by omega)) hih)))))
theorem spec_l1_bad {n s m : Int} {l : List S37} (hl : l.length ≤ 1099511627776) {i : Nat} (hi : i < l.length) (d : Nat) :
    ∀ q : Nat, q + d = i → (∃ j, q ≤ j ∧ j < i ∧ (plAt l j).f0 = (plAt l i).f0) → Ev (fun k => spec_l2Ptr.l1 k n (i : Int) (q : Int) s m l) false := by
  induction d with
  | zero =>
    rintro q hq ⟨j, h1, h2, _⟩
    omega
  | succ d ih =>
    rintro q hq ⟨j, h1, h2, h3⟩
    have e2 : wrap64 ((q : Int) + 1) = ((q + 1 : Nat) : Int) := by rw [wrap_ok (by omega)]; omega
    refine Ev.next ?_
    simp only [spec_l2Ptr.l1, e2, rd37_nat]
    clear e2
    refine Ev.pos (by omega) (Ev.pos (by omega) (Ev.pos (by omega) (Ev.pos (by omega) (Ev.pos (by omega) (Ev.ite (fun _ => Ev.ret rfl) (fun hne => ih (q + 1) (by omega) ⟨j, ?_, h2, h3⟩))))))
    by_cases e : j = q
    · subst e
      exact absurd h3 hne
    · omega
open Classical in
theorem spec_l0_ev {n s m : Int} (hn : 3 ≤ n ∧ n ≤ 4) {l : List S37} (hl : l.length ≤ 1099511627776) (d : Nat) : ∀ i : Nat, i + d = l.length →
    Ev (fun k => spec_l2Ptr.l0 k n (i : Int) s m l) (decide (∀ j, i ≤ j → j < l.length → GoodAt n l j)) := by
  induction d with
  | zero =>
    intro i hi
    refine Ev.next ?_
    simp only [spec_l2Ptr.l0]
    refine Ev.neg (by omega) (Ev.ret ?_)
    rw [decide_eq_true]
    intro j h1 h2
    omega
  | succ d ih =>
    intro i hi
    have hih := ih (i + 1) (by omega)
    have e : wrap64 (n - 1) = n - 1 := wrap_ok (by omega)
    refine Ev.next ?_
    simp only [spec_l2Ptr.l0, e, rd37_nat]
    clear e
    refine Ev.pos (by omega) (Ev.pos (by omega) (Ev.take (l6In_eq _ _ _) ?_))
    by_cases h1 : 0 ≤ (plAt l i).f0 ∧ (plAt l i).f0 ≤ n - 1
    · refine Ev.pos (by simpa using h1) (Ev.take (l6In_eq _ _ _) (Ev.next ?_))
      simp only [spec_l2Ptr.j2]
      by_cases h2 : 0 ≤ (plAt l i).f1 ∧ (plAt l i).f1 ≤ 11
      · refine Ev.neg (by simpa using h2) ?_
        by_cases h3 : ∀ j, j < i → (plAt l j).f0 ≠ (plAt l i).f0
        · have hg : GoodAt n l i := ⟨⟨⟨h1.1, by omega⟩, h2.1, by omega⟩, h3⟩
          have : (∀ j, i ≤ j → j < l.length → GoodAt n l j) ↔ (∀ j, i + 1 ≤ j → j < l.length → GoodAt n l j) :=
            ⟨fun h j h1 h2 => h j (by omega) h2, fun h j h1 h2 => by
              by_cases e : j = i
              · rw [e]; exact hg
              · exact h j (by omega) h2⟩
          simp only [this]
          exact spec_l1_good hl (by omega) hih i 0 (Nat.zero_add _) (fun j _ h => h3 j h)
        · have hx : ∃ j, 0 ≤ j ∧ j < i ∧ (plAt l j).f0 = (plAt l i).f0 := by
            apply Classical.byContradiction
            intro hc
            exact h3 fun j hj he => hc ⟨j, Nat.zero_le _, hj, he⟩
          rw [decide_eq_false (fun h => h3 (h i (Nat.le_refl _) (by omega)).2)]
          exact spec_l1_bad hl (by omega) i 0 (Nat.zero_add _) hx
      · refine Ev.pos (by rw [decide_eq_false h2]; rfl) (Ev.ret ?_)
        rw [decide_eq_false]
        intro h
        have := (h i (Nat.le_refl _) (by omega)).1.2
        exact h2 ⟨this.1, by omega⟩
    · refine Ev.neg (by simpa using h1) (Ev.next ?_)
      simp only [spec_l2Ptr.j2]
      refine Ev.pos trivial (Ev.ret ?_)
      rw [decide_eq_false]
      intro h
      have := (h i (Nat.le_refl _) (by omega)).1.1
      exact h1 ⟨this.1, by omega⟩
theorem placeOk_eq (p : S37) (n : Int) [Decidable (PlaceIn n p)] : impl_Place_ok.f p.f0 p.f1 n = some (decide (PlaceIn n p)) := by
  unfold impl_Place_ok.f
  by_cases h1 : p.f0 ≥ 0
  · by_cases h2 : p.f0 < n
    · by_cases h3 : p.f1 ≥ 0
      · rw [if_pos h1, if_pos h2, if_pos h3]
        congr 1
        by_cases h4 : p.f1 < 12
        · rw [decide_eq_true h4, decide_eq_true (show PlaceIn n p from ⟨⟨h1, h2⟩, h3, h4⟩)]
        · rw [decide_eq_false h4, decide_eq_false (fun h : PlaceIn n p => h4 h.2.2)]
      · rw [if_pos h1, if_pos h2, if_neg h3, decide_eq_false (fun h : PlaceIn n p => h3 h.2.1)]
    · rw [if_pos h1, if_neg h2, decide_eq_false (fun h : PlaceIn n p => h2 h.1.2)]
  · rw [if_neg h1, decide_eq_false (fun h : PlaceIn n p => h1 h.1.1)]
theorem any_take (l : List S37) (i : Nat) (hi : i ≤ l.length) (x : Int) : ((l.take i).any fun y => y.f0 == x) = true ↔ ∃ j, j < i ∧ (plAt l j).f0 = x := by
  rw [List.any_eq_true]
  constructor
  · rintro ⟨y, hy, he⟩
    obtain ⟨j, hj, rfl⟩ := List.getElem_of_mem hy
    simp only [List.length_take] at hj
    refine ⟨j, by omega, ?_⟩
    have hjl : j < l.length := by omega
    simpa [plAt, List.getD, hjl] using he
  · rintro ⟨j, hj, he⟩
    have hjl : j < l.length := by omega
    refine ⟨l[j], ?_, by simpa [plAt, List.getD, hjl] using he⟩
    rw [List.mem_take_iff_getElem]
    exact ⟨j, by omega, rfl⟩
open Classical in
theorem impl_l0_ev {n s m : Int} {l : List S37} (hl : l.length ≤ 1099511627776) (d : Nat) : ∀ i : Nat, i + d = l.length →
    Ev (fun k => impl_PtrOk.l0 k n l (l.length : Int) (i : Int) s m l) (decide (∀ j, i ≤ j → j < l.length → GoodAt n l j)) := by
  induction d with
  | zero =>
    intro i hi
    refine Ev.next ?_
    simp only [impl_PtrOk.l0]
    refine Ev.neg (by omega) (Ev.ret ?_)
    rw [decide_eq_true]
    intro j h1 h2
    omega
  | succ d ih =>
    intro i hi
    have hih := ih (i + 1) (by omega)
    have e : wrap64 ((i : Int) + 1) = ((i + 1 : Nat) : Int) := by rw [wrap_ok (by omega)]; omega
    refine Ev.next ?_
    simp only [impl_PtrOk.l0, e, rd37_nat, Int.toNat_natCast]
    clear e
    refine Ev.pos (by omega) (Ev.pos (by omega) (Ev.pos (by omega) (Ev.take (placeOk_eq _ _) ?_)))
    by_cases h1 : PlaceIn n (plAt l i)
    · refine Ev.pos (by simpa using h1) (Ev.pos (by omega) (Ev.take rfl ?_))
      by_cases h2 : ∃ j, j < i ∧ (plAt l j).f0 = (plAt l i).f0
      · refine Ev.pos ((any_take l i (by omega) _).2 h2) (Ev.ret ?_)
        rw [decide_eq_false]
        intro h
        obtain ⟨j, hj, he⟩ := h2
        exact (h i (Nat.le_refl _) (by omega)).2 j hj he
      · refine Ev.neg (fun h => h2 ((any_take l i (by omega) _).1 h)) ?_
        have hg : GoodAt n l i := ⟨h1, fun j hj he => h2 ⟨j, hj, he⟩⟩
        have : (∀ j, i ≤ j → j < l.length → GoodAt n l j) ↔ (∀ j, i + 1 ≤ j → j < l.length → GoodAt n l j) :=
          ⟨fun h j h1 h2 => h j (by omega) h2, fun h j h1 h2 => by
            by_cases e : j = i
            · rw [e]; exact hg
            · exact h j (by omega) h2⟩
        simp only [this]
        exact hih
    · refine Ev.neg (by simpa using h1) (Ev.ret ?_)
      rw [decide_eq_false]
      intro h
      exact h1 (h i (Nat.le_refl _) (by omega)).1
def PtrGood (n s m : Int) (l : List S37) : Prop := (s = 0 ∧ m = 0 ∧ l.length = 0) ∨ ((1 ≤ s ∧ s ≤ 3 * (n - 1)) ∧ (0 ≤ m ∧ m ≤ 1000000000) ∧ (l.length : Int) = (s + 2) / 3 + 1 ∧ AllGood n l)
theorem cols_eq {s : Int} (h : 0 ≤ s ∧ s ≤ 1099511627776) : wrap64 (Int.tdiv (wrap64 ((wrap64 (s + 3)) - 1)) 3) = (s + 2) / 3 := by
  rw [wrap_ok (x := s + 3) (by omega), wrap_ok (x := s + 3 - 1) (by omega), Int.tdiv_eq_ediv_of_nonneg (by omega), wrap_ok (by omega)]
  omega
theorem most_eq {n : Int} (hn : 3 ≤ n ∧ n ≤ 4) : wrap64 (3 * (mn 3 (wrap64 (n - 1)))) = 3 * (n - 1) := by
  rw [wrap_ok (x := n - 1) (by omega)]
  have : mn 3 (n - 1) = n - 1 := by unfold mn; split <;> omega
  rw [this, wrap_ok (by omega)]
open Classical in
noncomputable def ptrB (n s m : Int) (l : List S37) : Bool := decide ((3 ≤ n ∧ n ≤ 4) ∧ PtrGood n s m l)
open Classical in
theorem spec_l2Ptr_ev {n : Int} (hn : 3 ≤ n ∧ n ≤ 4) (s m : Int) (l : List S37) (hl : l.length ≤ 1099511627776) : Ev (fun k => spec_l2Ptr.f k n s m l) (decide (PtrGood n s m l)) := by
  unfold spec_l2Ptr.f
  have bad : ∀ h : ¬ PtrGood n s m l, Ev (fun k => spec_l2Ptr.j0 k n true s m l) (decide (PtrGood n s m l)) := by
    intro h
    refine Ev.next ?_
    simp only [spec_l2Ptr.j0]
    exact Ev.pos trivial (Ev.ret (decide_eq_false h).symm)
  by_cases h0 : s = 0
  · refine Ev.pos h0 ?_
    by_cases hm : m = 0
    · refine Ev.pos hm (Ev.ret ?_)
      by_cases hz : l.length = 0
      · rw [decide_eq_true (show PtrGood n s m l from Or.inl ⟨h0, hm, hz⟩)]
        simp [hz]
      · rw [decide_eq_false]
        · simp only [beq_eq_false_iff_ne]
          omega
        · rintro (h | h)
          · exact hz h.2.2
          · omega
    · refine Ev.neg hm (Ev.ret ?_)
      rw [decide_eq_false]
      rintro (h | h)
      · exact hm h.2.1
      · omega
  · refine Ev.neg h0 ?_
    rw [most_eq hn]
    refine Ev.take (l6In_eq _ _ _) ?_
    by_cases h1 : 1 ≤ s ∧ s ≤ 3 * (n - 1)
    · refine Ev.pos (by simpa using h1) (Ev.take (l6In_eq _ _ _) ?_)
      by_cases h2 : 0 ≤ m ∧ m ≤ 1000000000
      · refine Ev.pos (by simpa using h2) (Ev.take rfl ?_)
        rw [cols_eq (by omega), wrap_ok (x := (s + 2) / 3 + 1) (by omega)]
        by_cases h3 : (l.length : Int) = (s + 2) / 3 + 1
        · refine Ev.next ?_
          simp only [spec_l2Ptr.j0]
          refine Ev.neg (by simp [h3]) ?_
          have := spec_l0_ev (s := s) (m := m) hn hl l.length 0 (Nat.zero_add _)
          have e : (∀ j, 0 ≤ j → j < l.length → GoodAt n l j) ↔ PtrGood n s m l :=
            ⟨fun h => Or.inr ⟨h1, h2, h3, fun i hi => h i (Nat.zero_le _) hi⟩, fun h j _ hj => by
              rcases h with h | h
              · omega
              · exact h.2.2.2 j hj⟩
          simp only [e] at this
          exact this
        · have : ((l.length : Int) != (s + 2) / 3 + 1) = true := by simpa using h3
          rw [this]
          exact bad (by
            rintro (h | h)
            · exact h0 h.1
            · exact h3 h.2.2.1)
      · exact Ev.neg (by simpa using h2) (bad (by
          rintro (h | h)
          · exact h0 h.1
          · exact h2 h.2.1))
    · exact Ev.neg (by simpa using h1) (bad (by
        rintro (h | h)
        · exact h0 h.1
        · exact h1 h.1))
open Classical in
theorem implPtr_ev (n s m : Int) (l : List S37) (hl : l.length ≤ 1099511627776) : Ev (fun k => impl_PtrOk.f k n s m l) (ptrB n s m l) := by
  unfold impl_PtrOk.f ptrB
  refine Ev.take (a := decide (3 ≤ n ∧ n ≤ 4)) (by
    unfold impl_isPool.f
    by_cases h : n ≥ 3
    · rw [if_pos h]
      congr 1
      by_cases h2 : n ≤ 4
      · rw [decide_eq_true h2, decide_eq_true ⟨h, h2⟩]
      · rw [decide_eq_false h2, decide_eq_false (fun h3 => h2 h3.2)]
    · rw [if_neg h, decide_eq_false (fun h3 => h h3.1)]) ?_
  by_cases hn : 3 ≤ n ∧ n ≤ 4
  · refine Ev.pos (by simpa using hn) ?_
    have bad : ∀ h : ¬ PtrGood n s m l, Ev (fun k => impl_PtrOk.j0 k n true s m l) (decide ((3 ≤ n ∧ n ≤ 4) ∧ PtrGood n s m l)) := by
      intro h
      refine Ev.next ?_
      simp only [impl_PtrOk.j0]
      exact Ev.pos trivial (Ev.ret (decide_eq_false (fun hh => h hh.2)).symm)
    have hz : impl_Ptr_none.f s m l = some (decide (s = 0 ∧ m = 0 ∧ l.length = 0)) := by
      unfold impl_Ptr_none.f
      by_cases h1 : s = 0
      · by_cases h2 : m = 0
        · rw [if_pos h1, if_pos h2]
          congr 1
          by_cases h3 : l.length = 0
          · rw [decide_eq_true ⟨h1, h2, h3⟩]
            simp [h3]
          · rw [decide_eq_false (fun h => h3 h.2.2)]
            simp only [beq_eq_false_iff_ne]
            omega
        · rw [if_pos h1, if_neg h2, decide_eq_false (fun h => h2 h.2.1)]
      · rw [if_neg h1, decide_eq_false (fun h => h1 h.1)]
    refine Ev.take hz ?_
    by_cases h0 : s = 0 ∧ m = 0 ∧ l.length = 0
    · exact Ev.pos (by simpa using h0) (Ev.ret (decide_eq_true ⟨hn, Or.inl h0⟩).symm)
    · refine Ev.neg (by simpa using h0) ?_
      refine Ev.ite (fun h1 => bad (by
        rintro (h | h)
        · exact h0 h
        · omega)) (fun h1 => ?_)
      refine Ev.take (a := 3 * (n - 1)) (by unfold impl_textMost.f; rw [most_eq hn]) ?_
      refine Ev.ite (fun h2 => bad (by
        rintro (h | h)
        · exact h0 h
        · omega)) (fun h2 => ?_)
      refine Ev.ite (fun h3 => bad (by
        rintro (h | h)
        · exact h0 h
        · omega)) (fun h3 => ?_)
      refine Ev.ite (fun h4 => bad (by
        rintro (h | h)
        · exact h0 h
        · omega)) (fun h4 => ?_)
      refine Ev.take (a := (s + 2) / 3) (by unfold impl_columns.f; rw [cols_eq (by omega)]) ?_
      rw [wrap_ok (x := (s + 2) / 3 + 1) (by omega)]
      by_cases h5 : (l.length : Int) = (s + 2) / 3 + 1
      · refine Ev.next ?_
        simp only [impl_PtrOk.j0]
        refine Ev.neg (by simp [h5]) ?_
        have := impl_l0_ev (n := n) (s := s) (m := m) hl l.length 0 (Nat.zero_add _)
        have e : (∀ j, 0 ≤ j → j < l.length → GoodAt n l j) ↔ ((3 ≤ n ∧ n ≤ 4) ∧ PtrGood n s m l) :=
          ⟨fun h => ⟨hn, Or.inr ⟨by omega, by omega, h5, fun i hi => h i (Nat.zero_le _) hi⟩⟩, fun h j _ hj => by
            rcases h.2 with h | h
            · omega
            · exact h.2.2.2 j hj⟩
        simp only [e] at this
        exact this
      · have : ((l.length : Int) != (s + 2) / 3 + 1) = true := by simpa using h5
        rw [this]
        exact bad (by
          rintro (h | h)
          · exact h0 h
          · exact h5 h.2.2.1)
  · refine Ev.neg (by simpa using hn) (Ev.ret ?_)
    rw [decide_eq_false (fun h => hn h.1)]
end Go.Proofs.Ytkoimmeghdbodaa.Pure
namespace Go.Proofs.Ytkoimmeghdbodaa.Print
open Go.RowKit Go.Proofs.YtkoimmeghdbodaaW.PrintWords Go.Proofs.YtkoimmeghdbodaaW.PrintLast Go.Proofs.YtkoimmeghdbodaaW.PrintMore Go.Proofs.Ytkoimmeghdbodaa.Pure
set_option linter.unusedVariables false
set_option linter.unusedSimpArgs false
instance (n : Int) (p : S37) : Decidable (PlaceIn n p) := by unfold PlaceIn; infer_instance
instance (n : Int) (l : List S37) (i : Nat) : Decidable (GoodAt n l i) := by unfold GoodAt; infer_instance
instance (n : Int) (l : List S37) : Decidable (AllGood n l) := by unfold AllGood; infer_instance
instance (n s m : Int) (l : List S37) : Decidable (PtrGood n s m l) := by unfold PtrGood; infer_instance
def ptrC (n : Int) (p : S29) : Bool := decide ((3 ≤ n ∧ n ≤ 4) ∧ PtrGood n p.f0 p.f1 p.f2)
theorem ptrC_eq (n : Int) (p : S29) : ptrB n p.f0 p.f1 p.f2 = ptrC n p := by
  unfold ptrB ptrC
  apply decide_eq_decide.2
  exact Iff.rfl
theorem ptrOk_calls (n : Int) (x : S29) (hs : x.f2.length ≤ 1048576) (A1 : Option Addr) (c1 : Nat) (w : World) (hr : Kd.C k37 w A1 x.f2.length x.f2) (hc : x.f2.length ≤ c1) :
    Calls Try.prog 20 #[.int .i64 n, .agg #[.int .i64 x.f0, .int .i64 x.f1, .slice A1 x.f2.length c1]] w fun e w' => e = .returned (.bool (ptrC n x)) ∧ Below w.heap.size w w' := by
  obtain ⟨k, hk⟩ := Ev.rounds (implPtr_ev n x.f0 x.f1 x.f2 (by omega))
  rw [ptrC_eq] at hk
  exact impl_PtrOk.calls k n x.f0 x.f1 A1 c1 x.f2 (ptrC n x) w hr hc hk
set_option maxHeartbeats 1000000 in
theorem volPred (x : S65) (A1 : Option Addr) (c1 g : Nat) (nm : ByteArray) (w : World) (hg : w.cell? ⟨g, 0, none⟩ = some (.string nm)) :
    Calls Try.prog 103 #[.agg #[.string x.f0, .slice A1 x.f1.length c1], .pointer (some ⟨g, 0, none⟩)] w fun e w' => e = .returned (.bool (x.f0.toList == nm.toList)) ∧ Below w.heap.size w w' := by
  have hu65 := Try.underlying65
  have HB := Az.mk (Below.refl w.heap.size w)
  have HG := Az.mk hg
  go_enter Try.func103, Try.ntmps103
  go_wp2_with (first | ((with_reducible refine zqg (N := 2) rfl ?_); refine zqb ?hg (N := 2) ?hd (cs := #[.string x.f0, .slice A1 x.f1.length c1]) (t := 65) ?hr ?_; (case hd => rfl); (case hg => rfl); (case hr => first | (go_simp; done) | (go_simp; rfl)); intro gb hg w5 hbox hb; have n0_ := Az.mk (below_step (by repeat (first | (with_reducible first | exact HB.out | apply zq2 | apply zq1 | apply zqd) | exact HB.out)) hb); have n1_ := Az.mk hbox; have hgx := (hb.cell (World.block_lt_of_cell? w _ HG.out)).trans HG.out; clear HB; have HB := n0_; have BK := n1_; clear n0_ n1_; clear hb hbox hg; have hcz_0 : w5.cell? ⟨gb, 0, none⟩ = some (.string x.f0) := (zq4 BK.out 0).trans rfl; have hcz_1 : w5.cell? ⟨gb, 1, none⟩ = some (.slice A1 x.f1.length c1) := (zq4 BK.out 1).trans rfl) | go_in)
  go_ret
  exact ⟨rfl, (by repeat (first | (with_reducible first | exact HB.out | apply zq2 | apply zq1 | apply zqd) | exact HB.out))⟩
set_option maxHeartbeats 1000000 in
theorem ptrPr2 (x : S29) (A1 : Option Addr) (c1 g : Nat) (n : Int) (w : World) (hg : w.cell? ⟨g, 0, none⟩ = some (.int .i64 n)) (hs : x.f2.length ≤ 1048576) (hr : Kd.C k37 w A1 x.f2.length x.f2) (hc : x.f2.length ≤ c1) :
    Calls Try.prog 105 #[.agg #[.int .i64 x.f0, .int .i64 x.f1, .slice A1 x.f2.length c1], .pointer (some ⟨g, 0, none⟩)] w fun e w' => e = .returned (.bool (!ptrC n x)) ∧ Below w.heap.size w w' := by
  have hu29 := Try.underlying29
  have HB := Az.mk (Below.refl w.heap.size w)
  have HG := Az.mk hg
  have HP := Az.mk (fun (W : World) (hb : Below w.heap.size w W) => ptrOk_calls n x hs A1 c1 W (Kd.C_below hr hb) hc)
  clear hs hr hc
  go_enter Try.func105, Try.ntmps105
  go_wp2_with (first | ((with_reducible refine zqg (N := 2) rfl ?_); refine zqb ?hg (N := 2) ?hd (cs := #[.int .i64 x.f0, .int .i64 x.f1, .slice A1 x.f2.length c1]) (t := 29) ?hr ?_; (case hd => rfl); (case hg => rfl); (case hr => first | (go_simp; done) | (go_simp; rfl)); intro gb hg w5 hbox hb; have n0_ := Az.mk (below_step (by repeat (first | (with_reducible first | exact HB.out | apply zq2 | apply zq1 | apply zqd) | exact HB.out)) hb); have n1_ := Az.mk hbox; have hgx := (hb.cell (World.block_lt_of_cell? w _ HG.out)).trans HG.out; clear HB; have HB := n0_; have BK := n1_; clear n0_ n1_; clear hb hbox hg; have hcz_0 : w5.cell? ⟨gb, 0, none⟩ = some (.int .i64 x.f0) := (zq4 BK.out 0).trans rfl; have hcz_1 : w5.cell? ⟨gb, 1, none⟩ = some (.int .i64 x.f1) := (zq4 BK.out 1).trans rfl; have hcz_2 : w5.cell? ⟨gb, 2, none⟩ = some (.slice A1 x.f2.length c1) := (zq4 BK.out 2).trans rfl) | (go_at_call 20; refine (HP.out _ (by repeat (first | (with_reducible first | exact HB.out | apply zq2 | apply zq1 | apply zqd) | exact HB.out))).mono ?_; rintro e w9 ⟨rfl, hb⟩; have n0_ := Az.mk (below_step (by repeat (first | (with_reducible first | exact HB.out | apply zq2 | apply zq1 | apply zqd) | exact HB.out)) hb); clear HB; have HB := n0_; clear n0_ hb) | go_in)
  go_ret
  exact ⟨rfl, (by repeat (first | (with_reducible first | exact HB.out | apply zq2 | apply zq1 | apply zqd) | exact HB.out))⟩
def findIxG {α : Type} (p : α → Bool) (l : List α) : Int := match l.findIdx? p with | some i => (i : Int) | none => -1
theorem findIxG_at {α : Type} {z : α} {p : α → Bool} {l : List α} {i : Nat} (h : ∀ j, j < i → p (l.getD j z) = false) (hi : i < l.length) (hp : p (l.getD i z) = true) : findIxG p l = (i : Int) := by
  have e : l.findIdx? p = some i := by
    rw [List.findIdx?_eq_some_iff_getElem]
    refine ⟨hi, ?_, fun j hj => ?_⟩
    · simpa [List.getD, hi] using hp
    · have := h j hj
      have hjl : j < l.length := by omega
      simpa [List.getD, hjl] using this
  rw [findIxG, e]
theorem findIxG_none {α : Type} {z : α} {p : α → Bool} {l : List α} (h : ∀ j, j < l.length → p (l.getD j z) = false) : findIxG p l = -1 := by
  have e : l.findIdx? p = none := by
    rw [List.findIdx?_eq_none_iff]
    intro x hx
    obtain ⟨j, hj, rfl⟩ := List.getElem_of_mem hx
    have := h j hj
    simpa [List.getD, hj] using this
  rw [findIxG, e]
theorem findIxG_any {α : Type} (p : α → Bool) (l : List α) : decide (findIxG p l ≥ 0) = l.any p := by
  unfold findIxG
  rw [Bool.eq_iff_iff, decide_eq_true_iff, List.any_eq_true]
  cases e : l.findIdx? p with
  | none =>
    rw [List.findIdx?_eq_none_iff] at e
    simp only [ge_iff_le]
    constructor
    · intro h; omega
    · rintro ⟨x, hx, hp⟩
      rw [e x hx] at hp
      cases hp
  | some i =>
    obtain ⟨hi, hp, _⟩ := List.findIdx?_eq_some_iff_getElem.1 e
    simp only [ge_iff_le]
    exact ⟨fun _ => ⟨_, List.getElem_mem hi, hp⟩, fun _ => by omega⟩
set_option maxHeartbeats 4000000 in
set_option maxRecDepth 100000 in
theorem indexVol (A0 : Option Addr) (c0 : Nat) (l0 : List S65) (g : Nat) (nm : ByteArray) (w : World) (hgc : w.cell? ⟨g, 0, none⟩ = some (.string nm)) (hr0 : Kd.C k65 w A0 l0.length l0) (hc0 : l0.length ≤ c0) :
    Calls Try.prog 122 #[.slice A0 l0.length c0, .func (.func 103) #[] #[.pointer (some ⟨g, 0, none⟩)]] w fun e w' => e = .returned (.int .i64 (findIxG (fun x : S65 => x.f0.toList == nm.toList) l0)) ∧ Below w.heap.size w w' := by
  have HR0 := Az.mk hr0
  have HGC := Az.mk hgc
  have HC0 := Az.mk hc0
  have HM := Az.mk (Kd.C_max hr0)
  clear hr0 hc0
  go_enter Try.func122, Try.ntmps122
  go_wp2
  repeat (go_quiet (fail); try go_wp2)
  go_loopg [8] l0.length (fun kq v8 w' => ∃ (i : Nat), v8 = .int .i64 (i : Int) ∧ Az (i + kq = l0.length) ∧ Az (∀ j, j < i → (fun x : S65 => x.f0.toList == nm.toList) (l0.getD j z65) = false) ∧ Az (Below w.heap.size w w'))
  case atStart => exact ⟨0, rfl, ⟨Nat.zero_add _⟩, ⟨fun j hj => by omega⟩, ⟨by repeat (first | exact Below.refl _ _ | apply zq2 | apply zq1 | apply zqd)⟩⟩
  case round =>
    obtain ⟨i, rfl, HI, HF, HB⟩ := hrel
    by_cases c1 : i < l0.length
    · have c1b0 : decide ((i : Int) < (l0.length : Int)) = true := decide_eq_true (by omega)
      have p1 : (0 : Int) ≤ (i : Int) := by omega
      have q1 : (i : Int) < (l0.length : Int) := by omega
      have hm := HM.out
      have hw1 : wrap64 ((i : Int) + 1) = ((i + 1 : Nat) : Int) := by unfold wrap64; omega
      have HW := Az.mk hw1
      clear hm hw1
      obtain ⟨ad, A1, c1_, e1, hx_0, hx_1, hl1, hi1⟩ := at_T65 HR0.out (i : Int) p1 q1
      cases e1
      simp only [Int.toNat_natCast, rd_T65] at hx_0 hx_1 hl1 hi1
      replace hx_0 := (HB.out.cell (World.block_lt_of_cell? w _ hx_0)).trans hx_0
      replace hx_1 := (HB.out.cell (World.block_lt_of_cell? w _ hx_1)).trans hx_1
      have HGW := Az.mk ((HB.out.cell (World.block_lt_of_cell? w _ HGC.out)).trans HGC.out)
      clear hl1 hi1
      replace p1 := eq_true p1
      replace q1 := eq_true q1
      obtain ⟨x, hE⟩ : ∃ x, x = l0.getD i z65 := ⟨_, rfl⟩
      rw [← hE] at hx_0 hx_1
      have HE := Az.mk hE
      clear hE
      by_cases c2 : (x.f0.toList == nm.toList) = true
      · have hfin := findIxG_at (p := (fun x : S65 => x.f0.toList == nm.toList)) (z := z65) HF.out c1 (by rw [← HE.out]; exact c2)
        have HFIN := Az.mk hfin
        have HC := Az.mk c2
        clear hfin c2
        go_wp2_with (first | (go_at_call 103; refine (volPred x A1 c1_ g nm _ HGW.out).mono ?_; rintro e w9 ⟨rfl, hb⟩; rw [HC.out]; have n0_ := Az.mk (below_step (by repeat (first | (with_reducible first | exact HB.out | apply zq2 | apply zq1 | apply zqd) | exact HB.out)) hb); clear HB; have HB := n0_; clear n0_ hb))
        go_ret
        exact ⟨by rw [HFIN.out]; rfl, (by repeat (first | (with_reducible first | exact HB.out | apply zq2 | apply zq1 | apply zqd) | exact HB.out))⟩
      · have c2 : (x.f0.toList == nm.toList) = false := by simpa using c2
        have HF1 : Az (∀ j, j < i + 1 → (fun x : S65 => x.f0.toList == nm.toList) (l0.getD j z65) = false) := ⟨fun j hj => by
          by_cases e : j = i
          · rw [e, ← HE.out]; exact c2
          · exact HF.out j (by omega)⟩
        have HC := Az.mk c2
        clear c2
        go_wp2_with (first | (go_at_call 103; refine (volPred x A1 c1_ g nm _ HGW.out).mono ?_; rintro e w9 ⟨rfl, hb⟩; rw [HC.out]; have n0_ := Az.mk (below_step (by repeat (first | (with_reducible first | exact HB.out | apply zq2 | apply zq1 | apply zqd) | exact HB.out)) hb); clear HB; have HB := n0_; clear n0_ hb))
        go_roundg (gk - 1)
        case measure => have := HI.out; omega
        case rel => exact ⟨i + 1, by rw [← HW.out], ⟨by have := HI.out; omega⟩, HF1, ⟨(by repeat (first | (with_reducible first | exact HB.out | apply zq2 | apply zq1 | apply zqd) | exact HB.out))⟩⟩
    · have c1b0 : decide ((i : Int) < (l0.length : Int)) = false := decide_eq_false (by omega)
      have hfin := findIxG_none (p := (fun x : S65 => x.f0.toList == nm.toList)) (l := l0) (z := z65) (fun j hj => HF.out j (by omega))
      have HFIN := Az.mk hfin
      clear hfin
      go_wp2
      go_ret
      exact ⟨by rw [HFIN.out]; rfl, (by repeat (first | (with_reducible first | exact HB.out | apply zq2 | apply zq1 | apply zqd) | exact HB.out))⟩
set_option maxHeartbeats 4000000 in
theorem containsVol (A0 : Option Addr) (c0 : Nat) (l0 : List S65) (g : Nat) (nm : ByteArray) (w : World) (hgc : w.cell? ⟨g, 0, none⟩ = some (.string nm)) (hr0 : Kd.C k65 w A0 l0.length l0) (hc0 : l0.length ≤ c0) :
    Calls Try.prog 102 #[.slice A0 l0.length c0, .func (.func 103) #[] #[.pointer (some ⟨g, 0, none⟩)]] w fun e w' => e = .returned (.bool (l0.any (fun x : S65 => x.f0.toList == nm.toList))) ∧ Below w.heap.size w w' := by
  have HI := Az.mk (indexVol A0 c0 l0 g nm w hgc hr0 hc0)
  have HR := Az.mk (findIxG_any (fun x : S65 => x.f0.toList == nm.toList) l0)
  clear hr0 hc0
  go_enter Try.func102, Try.ntmps102
  go_wp2_with (first | (go_at_call 122; refine HI.out.mono ?_; rintro e w9 ⟨rfl, hb⟩; have HB := Az.mk hb; clear hb))
  go_ret
  exact ⟨by have hr := HR.out; simp only [ge_iff_le] at hr; first | (rw [← hr]; rfl) | (simp [← hr]; done), (by repeat (first | (with_reducible first | exact HB.out | apply zq2 | apply zq1 | apply zqd) | exact HB.out))⟩
set_option maxHeartbeats 4000000 in
set_option maxRecDepth 100000 in
theorem indexPtr (A0 : Option Addr) (c0 : Nat) (l0 : List S29) (g : Nat) (n : Int) (w : World) (hgc : w.cell? ⟨g, 0, none⟩ = some (.int .i64 n)) (hsz : ∀ x ∈ l0, x.f2.length ≤ 1048576) (hr0 : Kd.C k29 w A0 l0.length l0) (hc0 : l0.length ≤ c0) :
    Calls Try.prog 123 #[.slice A0 l0.length c0, .func (.func 105) #[] #[.pointer (some ⟨g, 0, none⟩)]] w fun e w' => e = .returned (.int .i64 (findIxG (fun x : S29 => !ptrC n x) l0)) ∧ Below w.heap.size w w' := by
  have HR0 := Az.mk hr0
  have HGC := Az.mk hgc
  have HC0 := Az.mk hc0
  have HM := Az.mk (Kd.C_max hr0)
  clear hr0 hc0
  go_enter Try.func123, Try.ntmps123
  go_wp2
  repeat (go_quiet (fail); try go_wp2)
  go_loopg [8] l0.length (fun kq v8 w' => ∃ (i : Nat), v8 = .int .i64 (i : Int) ∧ Az (i + kq = l0.length) ∧ Az (∀ j, j < i → (fun x : S29 => !ptrC n x) (l0.getD j z29) = false) ∧ Az (Below w.heap.size w w'))
  case atStart => exact ⟨0, rfl, ⟨Nat.zero_add _⟩, ⟨fun j hj => by omega⟩, ⟨by repeat (first | exact Below.refl _ _ | apply zq2 | apply zq1 | apply zqd)⟩⟩
  case round =>
    obtain ⟨i, rfl, HI, HF, HB⟩ := hrel
    by_cases c1 : i < l0.length
    · have c1b0 : decide ((i : Int) < (l0.length : Int)) = true := decide_eq_true (by omega)
      have p1 : (0 : Int) ≤ (i : Int) := by omega
      have q1 : (i : Int) < (l0.length : Int) := by omega
      have hm := HM.out
      have hw1 : wrap64 ((i : Int) + 1) = ((i + 1 : Nat) : Int) := by unfold wrap64; omega
      have HW := Az.mk hw1
      clear hm hw1
      obtain ⟨ad, A1, c1_, e1, hx_0, hx_1, hx_2, hl1, hi1⟩ := at_T29 HR0.out (i : Int) p1 q1
      cases e1
      simp only [Int.toNat_natCast, rd_T29] at hx_0 hx_1 hx_2 hl1 hi1
      replace hx_0 := (HB.out.cell (World.block_lt_of_cell? w _ hx_0)).trans hx_0
      replace hx_1 := (HB.out.cell (World.block_lt_of_cell? w _ hx_1)).trans hx_1
      replace hx_2 := (HB.out.cell (World.block_lt_of_cell? w _ hx_2)).trans hx_2
      have HGW := Az.mk ((HB.out.cell (World.block_lt_of_cell? w _ HGC.out)).trans HGC.out)
      have HSZ := Az.mk (hsz _ (show l0.getD i z29 ∈ l0 by rw [List.getD, List.getElem?_eq_getElem c1]; exact List.getElem_mem c1))
      replace hi1 := Kd.C_below hi1 HB.out
      have HL1 := Az.mk hl1
      have HI1 := Az.mk hi1
      clear hl1 hi1
      replace p1 := eq_true p1
      replace q1 := eq_true q1
      obtain ⟨x, hE⟩ : ∃ x, x = l0.getD i z29 := ⟨_, rfl⟩
      rw [← hE] at hx_0 hx_1 hx_2
      have HE := Az.mk hE
      clear hE
      by_cases c2 : (!ptrC n x) = true
      · have hfin := findIxG_at (p := (fun x : S29 => !ptrC n x)) (z := z29) HF.out c1 (by rw [← HE.out]; exact c2)
        have HFIN := Az.mk hfin
        have HC := Az.mk c2
        clear hfin c2
        go_wp2_with (first | (go_at_call 105; refine (ptrPr2 x A1 c1_ g n _ HGW.out (by rw [HE.out]; exact HSZ.out) (by rw [HE.out]; exact HI1.out) (by rw [HE.out]; exact HL1.out)).mono ?_; rintro e w9 ⟨rfl, hb⟩; rw [HC.out]; have n0_ := Az.mk (below_step (by repeat (first | (with_reducible first | exact HB.out | apply zq2 | apply zq1 | apply zqd) | exact HB.out)) hb); clear HB; have HB := n0_; clear n0_ hb))
        go_ret
        exact ⟨by rw [HFIN.out]; rfl, (by repeat (first | (with_reducible first | exact HB.out | apply zq2 | apply zq1 | apply zqd) | exact HB.out))⟩
      · have c2 : (!ptrC n x) = false := by simpa using c2
        have HF1 : Az (∀ j, j < i + 1 → (fun x : S29 => !ptrC n x) (l0.getD j z29) = false) := ⟨fun j hj => by
          by_cases e : j = i
          · rw [e, ← HE.out]; exact c2
          · exact HF.out j (by omega)⟩
        have HC := Az.mk c2
        clear c2
        go_wp2_with (first | (go_at_call 105; refine (ptrPr2 x A1 c1_ g n _ HGW.out (by rw [HE.out]; exact HSZ.out) (by rw [HE.out]; exact HI1.out) (by rw [HE.out]; exact HL1.out)).mono ?_; rintro e w9 ⟨rfl, hb⟩; rw [HC.out]; have n0_ := Az.mk (below_step (by repeat (first | (with_reducible first | exact HB.out | apply zq2 | apply zq1 | apply zqd) | exact HB.out)) hb); clear HB; have HB := n0_; clear n0_ hb))
        go_roundg (gk - 1)
        case measure => have := HI.out; omega
        case rel => exact ⟨i + 1, by rw [← HW.out], ⟨by have := HI.out; omega⟩, HF1, ⟨(by repeat (first | (with_reducible first | exact HB.out | apply zq2 | apply zq1 | apply zqd) | exact HB.out))⟩⟩
    · have c1b0 : decide ((i : Int) < (l0.length : Int)) = false := decide_eq_false (by omega)
      have hfin := findIxG_none (p := (fun x : S29 => !ptrC n x)) (l := l0) (z := z29) (fun j hj => HF.out j (by omega))
      have HFIN := Az.mk hfin
      clear hfin
      go_wp2
      go_ret
      exact ⟨by rw [HFIN.out]; rfl, (by repeat (first | (with_reducible first | exact HB.out | apply zq2 | apply zq1 | apply zqd) | exact HB.out))⟩
set_option maxHeartbeats 4000000 in
theorem containsPtr (A0 : Option Addr) (c0 : Nat) (l0 : List S29) (g : Nat) (n : Int) (w : World) (hgc : w.cell? ⟨g, 0, none⟩ = some (.int .i64 n)) (hsz : ∀ x ∈ l0, x.f2.length ≤ 1048576) (hr0 : Kd.C k29 w A0 l0.length l0) (hc0 : l0.length ≤ c0) :
    Calls Try.prog 104 #[.slice A0 l0.length c0, .func (.func 105) #[] #[.pointer (some ⟨g, 0, none⟩)]] w fun e w' => e = .returned (.bool (l0.any (fun x : S29 => !ptrC n x))) ∧ Below w.heap.size w w' := by
  have HI := Az.mk (indexPtr A0 c0 l0 g n w hgc hsz hr0 hc0)
  have HR := Az.mk (findIxG_any (fun x : S29 => !ptrC n x) l0)
  clear hr0 hc0
  go_enter Try.func104, Try.ntmps104
  go_wp2_with (first | (go_at_call 123; refine HI.out.mono ?_; rintro e w9 ⟨rfl, hb⟩; have HB := Az.mk hb; clear hb))
  go_ret
  exact ⟨by have hr := HR.out; simp only [ge_iff_le] at hr; first | (rw [← hr]; rfl) | (simp [← hr]; done), (by repeat (first | (with_reducible first | exact HB.out | apply zq2 | apply zq1 | apply zqd) | exact HB.out))⟩
end Go.Proofs.Ytkoimmeghdbodaa.Print
namespace Go.Proofs.Ytkoimmeghdbodaa.Print
open Go.RowKit Go.Proofs.YtkoimmeghdbodaaW.PrintWords Go.Proofs.YtkoimmeghdbodaaW.PrintLast Go.Proofs.YtkoimmeghdbodaaW.PrintMore Go.Proofs.Ytkoimmeghdbodaa.Pure
set_option linter.unusedVariables false
set_option linter.unusedSimpArgs false
def Blk (w : World) (g : Nat) (cs : Array Value) (t : Nat) : Prop := w.heap[g]? = some (.cells cs t (0, 0))
theorem Blk.lt {w : World} {g : Nat} {cs : Array Value} {t : Nat} (h : Blk w g cs t) : g < w.heap.size := (Array.getElem?_eq_some_iff.1 h).1
theorem Blk.below {w w' : World} {g : Nat} {cs : Array Value} {t : Nat} (h : Blk w g cs t) (hb : Below w.heap.size w w') : Blk w' g cs t := (hb.block g h.lt).trans h
theorem Blk.cell {w : World} {g : Nat} {cs : Array Value} {t : Nat} (h : Blk w g cs t) (j : Nat) : w.cell? ⟨g, j, none⟩ = cs[j]? := by
  unfold Blk at h
  simp [World.cell?, h]
theorem Blk.alloc {w : World} {g : Nat} {cs : Array Value} {t : Nat} (h : Blk w g cs t) (o : Obj) : Blk (w.alloc o) g cs t := h.below ((Below.refl _ w).alloc (Nat.le_refl _) o)
theorem Blk.made (w : World) (cs : Array Value) (t : Nat) : Blk (w.alloc (.cells cs t)) w.heap.size cs t := World.alloc_heap_new w _
theorem C_take {w : World} {A : Option Addr} {l : List S65} (h : Kd.C k65 w A l.length l) (i : Nat) (hi : i ≤ l.length) : Kd.C k65 w A (l.take i).length (l.take i) := by
  have hl : (l.take i).length = i := by rw [List.length_take]; omega
  refine ⟨rfl, by have := h.2.1; omega, fun hp => ?_⟩
  obtain ⟨ad, e, hc⟩ := h.2.2 (by omega)
  refine ⟨ad, e, fun j p hj => hc j p ?_⟩
  have hji : j < i := by
    have := (List.getElem?_eq_some_iff.1 hj).1
    omega
  rw [List.getElem?_take_of_lt hji] at hj
  exact hj
def volAt (n : Int) (vs : List S65) (i : Nat) : Bool :=
  (volB (vs.getD i z65).f0 && decide ((vs.getD i z65).f1.length = 3)) && (!((vs.take i).any (fun x : S65 => x.f0.toList == (vs.getD i z65).f0.toList)) && !((vs.getD i z65).f1.any (fun x : S29 => !ptrC n x)))
def volsB (n : Int) (vs : List S65) : Bool := (List.range vs.length).all (volAt n vs) && decide (vs.length ≤ 4)
theorem volsB_no {n : Int} {vs : List S65} {i : Nat} (hi : i < vs.length) (h : volAt n vs i = false) : volsB n vs = false := by
  unfold volsB
  rw [Bool.and_eq_false_iff]
  left
  rw [List.all_eq_false]
  exact ⟨i, List.mem_range.2 hi, by rw [h]; simp⟩
theorem volsB_yes {n : Int} {vs : List S65} (h : ∀ j, j < vs.length → volAt n vs j = true) : volsB n vs = decide (vs.length ≤ 4) := by
  unfold volsB
  rw [List.all_eq_true.2 fun j hj => h j (List.mem_range.1 hj), Bool.true_and]
set_option maxHeartbeats 8000000 in
set_option maxRecDepth 100000 in
theorem volsOk_calls (n : Int) (A0 : Option Addr) (c0 : Nat) (l0 : List S65) (w : World) (hr0 : Kd.C k65 w A0 l0.length l0) (hc0 : l0.length ≤ c0) (hsz : ∀ x ∈ l0, ∀ y ∈ x.f1, y.f2.length ≤ 1048576) :
    Calls Try.prog 78 #[.int .i64 n, .slice A0 l0.length c0] w fun e w' => e = .returned (.bool (volsB n l0)) ∧ Below w.heap.size w w' := by
  have hu65 := Try.underlying65
  have HR0 := Az.mk hr0
  have HC0 := Az.mk hc0
  have HM := Az.mk (Kd.C_max hr0)
  have HSZ := Az.mk hsz
  clear hr0 hc0 hsz
  go_enter Try.func78, Try.ntmps78
  go_wp2
  repeat (go_quiet (fail); try go_wp2)
  go_loopg [9] l0.length (fun kq v9 wr => ∃ (i : Nat), v9 = .int .i64 (i : Int) ∧ Az (i + kq = l0.length) ∧ Az (∀ j, j < i → volAt n l0 j = true) ∧ Az (Below w.heap.size w wr) ∧ Az (Blk wr w.heap.size #[.int .i64 n] 3))
  case atStart => exact ⟨0, rfl, ⟨Nat.zero_add _⟩, ⟨fun j hj => by omega⟩, ⟨by repeat (first | exact Below.refl _ _ | apply zq2 | apply zq1 | apply zqd)⟩, ⟨Blk.made _ _ _⟩⟩
  case round =>
    obtain ⟨i, rfl, HI, HF, HB, HN⟩ := hrel
    by_cases c1 : i < l0.length
    · have c1b0 : decide ((i : Int) < (l0.length : Int)) = true := decide_eq_true (by omega)
      have p1 : (0 : Int) ≤ (i : Int) := by omega
      have q1 : (i : Int) < (l0.length : Int) := by omega
      have hm := HM.out
      have hw1 : wrap64 ((i : Int) + 1) = ((i + 1 : Nat) : Int) := by unfold wrap64; omega
      have HW := Az.mk hw1
      have hsl : (i : Int) ≤ (c0 : Int) := by have := HC0.out; omega
      clear hm hw1
      obtain ⟨ad, A1, c1_, e1, hx_0, hx_1, hl1, hi1⟩ := at_T65 HR0.out (i : Int) p1 q1
      cases e1
      simp only [Int.toNat_natCast, rd_T65] at hx_0 hx_1 hl1 hi1
      replace hx_0 := (HB.out.cell (World.block_lt_of_cell? w _ hx_0)).trans hx_0
      replace hx_1 := (HB.out.cell (World.block_lt_of_cell? w _ hx_1)).trans hx_1
      replace hi1 := Kd.C_below hi1 HB.out
      have hct := C_take HR0.out i (by omega)
      have hlt : (l0.take i).length = i := by rw [List.length_take]; omega
      have hat : volAt n l0 i = ((volB (l0.getD i z65).f0 && decide ((l0.getD i z65).f1.length = 3)) && (!((l0.take i).any (fun x : S65 => x.f0.toList == (l0.getD i z65).f0.toList)) && !((l0.getD i z65).f1.any (fun x : S29 => !ptrC n x)))) := rfl
      have hsx := HSZ.out (l0.getD i z65) (by rw [List.getD, List.getElem?_eq_getElem c1]; exact List.getElem_mem c1)
      obtain ⟨x, hE⟩ : ∃ x, x = l0.getD i z65 := ⟨_, rfl⟩
      rw [← hE] at hx_0 hx_1 hl1 hi1 hat hsx
      clear hE
      have HCV := Az.mk (fun (W : World) (hb : Below wr.heap.size wr W) (g : Nat) (hg : W.cell? ⟨g, 0, none⟩ = some (.string x.f0)) => containsVol (some ad) c0 (l0.take i) g x.f0 W hg (Kd.C_below (Kd.C_below hct HB.out) hb) (by have := HC0.out; omega))
      have HCP := Az.mk (fun (W : World) (hb : Below wr.heap.size wr W) (g : Nat) (hg : W.cell? ⟨g, 0, none⟩ = some (.int .i64 n)) => containsPtr A1 c1_ x.f1 g n W hg hsx (Kd.C_below hi1 hb) hl1)
      have HV := Az.mk (fun (W : World) => impl_isVolName.calls x.f0 (volB x.f0) W rfl)
      rw [hlt] at HCV
      obtain ⟨vb, hvb⟩ : ∃ vb, vb = volB x.f0 := ⟨_, rfl⟩
      obtain ⟨b1, hb1⟩ : ∃ b1, b1 = (l0.take i).any (fun y : S65 => y.f0.toList == x.f0.toList) := ⟨_, rfl⟩
      obtain ⟨b2, hb2⟩ : ∃ b2, b2 = x.f1.any (fun y : S29 => !ptrC n y) := ⟨_, rfl⟩
      rw [← hvb] at HV hat
      rw [← hb1] at HCV hat
      rw [← hb2] at HCP hat
      have HAT := Az.mk hat
      have HBR := Az.mk (Below.refl wr.heap.size wr)
      clear hat hvb hb1 hb2 hct hlt hsx hl1 hi1
      cases vb
      · have hno := volsB_no (n := n) c1 (by rw [HAT.out]; rfl)
        have HNO := Az.mk hno
        clear hno
        go_wp2_with (first | (go_at_call 101; refine (HV.out _).mono ?_; rintro e w9 ⟨rfl, hb9⟩; have B6 := Az.mk ((Blk.made wr #[.string x.f0, .slice A1 x.f1.length c1_] 65).below hb9); have q0 := (B6.out.cell 0).trans rfl; have q1_ := (B6.out.cell 1).trans rfl; have HN1 := Az.mk ((HN.out.alloc (Obj.cells #[.string x.f0, .slice A1 x.f1.length c1_] 65)).below hb9); clear HN; have HN := HN1; clear HN1; have n0_ := Az.mk (below_step (by repeat (first | (with_reducible first | exact HBR.out | apply zq2 | apply zq1 | apply zqd) | exact HBR.out)) hb9); clear HBR; have HBR := n0_; clear n0_; clear hb9) | go_in)
        go_ret
        exact ⟨by rw [HNO.out]; rfl, (below_step HB.out (by repeat (first | (with_reducible first | exact HBR.out | apply zq2 | apply zq1 | apply zqd) | exact HBR.out)))⟩
      · by_cases c2 : x.f1.length = 3
        · have c2b : ((x.f1.length : Int) != 3) = false := bne_eq_false_iff_eq.2 (by omega)
          have HC2 := Az.mk c2
          clear c2
          cases b1
          · cases b2
            · have hF1 : Az (∀ j, j < i + 1 → volAt n l0 j = true) := ⟨fun j hj => by
                by_cases e : j = i
                · rw [e, HAT.out, decide_eq_true HC2.out]; rfl
                · exact HF.out j (by omega)⟩
              go_wp2_with (first | (go_at_call 101; refine (HV.out _).mono ?_; rintro e w9 ⟨rfl, hb9⟩; have B6 := Az.mk ((Blk.made wr #[.string x.f0, .slice A1 x.f1.length c1_] 65).below hb9); have q0 := (B6.out.cell 0).trans rfl; have q1_ := (B6.out.cell 1).trans rfl; have HN1 := Az.mk ((HN.out.alloc (Obj.cells #[.string x.f0, .slice A1 x.f1.length c1_] 65)).below hb9); clear HN; have HN := HN1; clear HN1; have n0_ := Az.mk (below_step (by repeat (first | (with_reducible first | exact HBR.out | apply zq2 | apply zq1 | apply zqd) | exact HBR.out)) hb9); clear HBR; have HBR := n0_; clear n0_; clear hb9) | (go_at_call 102; refine (HCV.out _ (by repeat (first | (with_reducible first | exact HBR.out | apply zq2 | apply zq1 | apply zqd) | exact HBR.out)) wr.heap.size q0).mono ?_; rintro e w10 ⟨rfl, hb9⟩; have B6b := Az.mk (B6.out.below hb9); clear B6 q0 q1_; have B6 := B6b; clear B6b; have q0 := (B6.out.cell 0).trans rfl; have q1_ := (B6.out.cell 1).trans rfl; have HN1 := Az.mk (HN.out.below hb9); clear HN; have HN := HN1; clear HN1; have n0_ := Az.mk (below_step (by repeat (first | (with_reducible first | exact HBR.out | apply zq2 | apply zq1 | apply zqd) | exact HBR.out)) hb9); clear HBR; have HBR := n0_; clear n0_; clear hb9) | (go_at_call 104; refine (HCP.out _ (by repeat (first | (with_reducible first | exact HBR.out | apply zq2 | apply zq1 | apply zqd) | exact HBR.out)) w.heap.size (HN.out.cell 0)).mono ?_; rintro e w11 ⟨rfl, hb9⟩; have HN1 := Az.mk (HN.out.below hb9); clear HN; have HN := HN1; clear HN1; have n0_ := Az.mk (below_step (by repeat (first | (with_reducible first | exact HBR.out | apply zq2 | apply zq1 | apply zqd) | exact HBR.out)) hb9); clear HBR; have HBR := n0_; clear n0_; clear hb9) | go_in)
              go_roundg (gk - 1)
              case measure => have := HI.out; omega
              case rel => exact ⟨i + 1, by rw [← HW.out], ⟨by have := HI.out; omega⟩, hF1, ⟨(below_step HB.out (by repeat (first | (with_reducible first | exact HBR.out | apply zq2 | apply zq1 | apply zqd) | exact HBR.out)))⟩, ⟨HN.out⟩⟩
            · have hno := volsB_no (n := n) c1 (by rw [HAT.out]; simp)
              have HNO := Az.mk hno
              clear hno
              go_wp2_with (first | (go_at_call 101; refine (HV.out _).mono ?_; rintro e w9 ⟨rfl, hb9⟩; have B6 := Az.mk ((Blk.made wr #[.string x.f0, .slice A1 x.f1.length c1_] 65).below hb9); have q0 := (B6.out.cell 0).trans rfl; have q1_ := (B6.out.cell 1).trans rfl; have HN1 := Az.mk ((HN.out.alloc (Obj.cells #[.string x.f0, .slice A1 x.f1.length c1_] 65)).below hb9); clear HN; have HN := HN1; clear HN1; have n0_ := Az.mk (below_step (by repeat (first | (with_reducible first | exact HBR.out | apply zq2 | apply zq1 | apply zqd) | exact HBR.out)) hb9); clear HBR; have HBR := n0_; clear n0_; clear hb9) | (go_at_call 102; refine (HCV.out _ (by repeat (first | (with_reducible first | exact HBR.out | apply zq2 | apply zq1 | apply zqd) | exact HBR.out)) wr.heap.size q0).mono ?_; rintro e w10 ⟨rfl, hb9⟩; have B6b := Az.mk (B6.out.below hb9); clear B6 q0 q1_; have B6 := B6b; clear B6b; have q0 := (B6.out.cell 0).trans rfl; have q1_ := (B6.out.cell 1).trans rfl; have HN1 := Az.mk (HN.out.below hb9); clear HN; have HN := HN1; clear HN1; have n0_ := Az.mk (below_step (by repeat (first | (with_reducible first | exact HBR.out | apply zq2 | apply zq1 | apply zqd) | exact HBR.out)) hb9); clear HBR; have HBR := n0_; clear n0_; clear hb9) | (go_at_call 104; refine (HCP.out _ (by repeat (first | (with_reducible first | exact HBR.out | apply zq2 | apply zq1 | apply zqd) | exact HBR.out)) w.heap.size (HN.out.cell 0)).mono ?_; rintro e w11 ⟨rfl, hb9⟩; have HN1 := Az.mk (HN.out.below hb9); clear HN; have HN := HN1; clear HN1; have n0_ := Az.mk (below_step (by repeat (first | (with_reducible first | exact HBR.out | apply zq2 | apply zq1 | apply zqd) | exact HBR.out)) hb9); clear HBR; have HBR := n0_; clear n0_; clear hb9) | go_in)
              go_ret
              exact ⟨by rw [HNO.out]; rfl, (below_step HB.out (by repeat (first | (with_reducible first | exact HBR.out | apply zq2 | apply zq1 | apply zqd) | exact HBR.out)))⟩
          · have hno := volsB_no (n := n) c1 (by rw [HAT.out]; simp)
            have HNO := Az.mk hno
            clear hno
            go_wp2_with (first | (go_at_call 101; refine (HV.out _).mono ?_; rintro e w9 ⟨rfl, hb9⟩; have B6 := Az.mk ((Blk.made wr #[.string x.f0, .slice A1 x.f1.length c1_] 65).below hb9); have q0 := (B6.out.cell 0).trans rfl; have q1_ := (B6.out.cell 1).trans rfl; have HN1 := Az.mk ((HN.out.alloc (Obj.cells #[.string x.f0, .slice A1 x.f1.length c1_] 65)).below hb9); clear HN; have HN := HN1; clear HN1; have n0_ := Az.mk (below_step (by repeat (first | (with_reducible first | exact HBR.out | apply zq2 | apply zq1 | apply zqd) | exact HBR.out)) hb9); clear HBR; have HBR := n0_; clear n0_; clear hb9) | (go_at_call 102; refine (HCV.out _ (by repeat (first | (with_reducible first | exact HBR.out | apply zq2 | apply zq1 | apply zqd) | exact HBR.out)) wr.heap.size q0).mono ?_; rintro e w10 ⟨rfl, hb9⟩; have B6b := Az.mk (B6.out.below hb9); clear B6 q0 q1_; have B6 := B6b; clear B6b; have q0 := (B6.out.cell 0).trans rfl; have q1_ := (B6.out.cell 1).trans rfl; have HN1 := Az.mk (HN.out.below hb9); clear HN; have HN := HN1; clear HN1; have n0_ := Az.mk (below_step (by repeat (first | (with_reducible first | exact HBR.out | apply zq2 | apply zq1 | apply zqd) | exact HBR.out)) hb9); clear HBR; have HBR := n0_; clear n0_; clear hb9) | go_in)
            go_ret
            exact ⟨by rw [HNO.out]; rfl, (below_step HB.out (by repeat (first | (with_reducible first | exact HBR.out | apply zq2 | apply zq1 | apply zqd) | exact HBR.out)))⟩
        · have c2b : ((x.f1.length : Int) != 3) = true := bne_iff_ne.2 (by omega)
          have hno := volsB_no (n := n) c1 (by rw [HAT.out, decide_eq_false c2]; rfl)
          have HNO := Az.mk hno
          clear hno
          go_wp2_with (first | (go_at_call 101; refine (HV.out _).mono ?_; rintro e w9 ⟨rfl, hb9⟩; have B6 := Az.mk ((Blk.made wr #[.string x.f0, .slice A1 x.f1.length c1_] 65).below hb9); have q0 := (B6.out.cell 0).trans rfl; have q1_ := (B6.out.cell 1).trans rfl; have HN1 := Az.mk ((HN.out.alloc (Obj.cells #[.string x.f0, .slice A1 x.f1.length c1_] 65)).below hb9); clear HN; have HN := HN1; clear HN1; have n0_ := Az.mk (below_step (by repeat (first | (with_reducible first | exact HBR.out | apply zq2 | apply zq1 | apply zqd) | exact HBR.out)) hb9); clear HBR; have HBR := n0_; clear n0_; clear hb9) | go_in)
          go_ret
          exact ⟨by rw [HNO.out]; rfl, (below_step HB.out (by repeat (first | (with_reducible first | exact HBR.out | apply zq2 | apply zq1 | apply zqd) | exact HBR.out)))⟩
    · have c1b0 : decide ((i : Int) < (l0.length : Int)) = false := decide_eq_false (by omega)
      have hy := volsB_yes (n := n) (vs := l0) (fun j hj => HF.out j (by omega))
      have HY := Az.mk hy
      clear hy
      go_wp2
      go_ret
      have hz : decide ((l0.length : Int) ≤ 4) = decide (l0.length ≤ 4) := decide_eq_decide.2 (by omega)
      exact ⟨by show Ending.returned (.bool (decide ((l0.length : Int) ≤ 4))) = _; rw [HY.out, hz], HB.out⟩
end Go.Proofs.Ytkoimmeghdbodaa.Print
namespace Go.Proofs.Ytkoimmeghdbodaa.Print
open Go.RowKit Go.Proofs.YtkoimmeghdbodaaW.PrintWords Go.Proofs.YtkoimmeghdbodaaW.PrintLast Go.Proofs.YtkoimmeghdbodaaW.PrintMore
attribute [local go_sem] max2_int min2_int max_two min_two max_three min_three max_four min_four   -- for this text's walks alone
set_option linter.unusedVariables false
set_option linter.unusedSimpArgs false
def laws_eqPlace.f (a0_0 : Int) (a0_1 : Int) (a1_0 : Int) (a1_1 : Int) : Option (Bool) := if a0_0 = a1_0 then (if a0_1 = a1_1 then (some true) else (some false)) else (some false)
set_option maxHeartbeats 8000000 in
set_option maxRecDepth 100000 in
theorem laws_eqPlace.calls (a0_0 : Int) (a0_1 : Int) (a1_0 : Int) (a1_1 : Int) (r : Bool) (w : World) (h : laws_eqPlace.f a0_0 a0_1 a1_0 a1_1 = some r) :
  Calls Try.prog 73 #[.agg #[.int .i64 a0_0, .int .i64 a0_1], .agg #[.int .i64 a1_0, .int .i64 a1_1]] w fun e w' => e = .returned (.bool r) ∧ Below w.heap.size w w' := by
 have hu37 := Try.underlying37
 have HB := Az.mk (Below.refl w.heap.size w)
 have H : (if a0_0 = a1_0 then (if a0_1 = a1_1 then (some true) else (some false)) else (some false)) = some r := h
 clear h
 by_cases c3 : a0_0 = a1_0
 ·rw [if_pos c3] at H
  have c3b0 : (a0_0 == a1_0) = true := beq_iff_eq.mpr c3
  have c3b1 : (a0_0 != a1_0) = false := bne_eq_false_iff_eq.mpr c3
  clear c3
  by_cases c4 : a0_1 = a1_1
  ·rw [if_pos c4] at H
   have c4b0 : (a0_1 == a1_1) = true := beq_iff_eq.mpr c4
   have c4b1 : (a0_1 != a1_1) = false := bne_eq_false_iff_eq.mpr c4
   clear c4
   obtain rfl := Option.some.inj H
   go_enter Try.func73, Try.ntmps73
   go_wp2_with (first | ((with_reducible refine zqg (N := 2) rfl ?_); refine zqb ?hg (N := 2) ?hd (cs := #[.int .i64 a0_0, .int .i64 a0_1]) (t := 37) ?hr ?_; (case hd => rfl); (case hg => rfl); (case hr => first | (go_simp; done) | (go_simp; rfl)); intro gb148 hg w5 hbox hb; have n0_ := Az.mk (below_step (by repeat (first | (with_reducible first | exact HB.out | apply zq2 | apply zq1 | apply zqd) | exact HB.out)) hb); have n1_ := Az.mk (hbox); have n2_ := Az.mk ((by rw [hg]; exact (below_size (by repeat (first | (with_reducible first | exact HB.out | apply zq2 | apply zq1 | apply zqd) | exact HB.out))) : w.heap.size ≤ gb148)); have n3_ := Az.mk ((by rw [hg]; exact (below_size (by repeat (first | (with_reducible first | exact HB.out | apply zq2 | apply zq1 | apply zqd) | exact HB.out))) : w.heap.size ≤ gb148)); clear HB; have HB := n0_; have BK148 := n1_; have GW148 := n2_; have GE148 := n3_; clear n0_ n1_ n2_ n3_; clear hb hbox hg) | ((with_reducible refine zqg (N := 3) rfl ?_); refine zqb ?hg (N := 3) ?hd (cs := #[.int .i64 a1_0, .int .i64 a1_1]) (t := 37) ?hr ?_; (case hd => rfl); (case hg => rfl); (case hr => first | (go_simp; done) | (go_simp; rfl)); intro gb149 hg w6 hbox hb; have n0_ := Az.mk (blk_below (g := gb148) (o := .cells #[.int .i64 a0_0, .int .i64 a0_1] 37 (0, 0)) (by (with_reducible repeat (first | refine zq6 ?_ _ | refine zq8 ?_ | refine zq7 ?_ _)); exact BK148.out) hb); have n1_ := Az.mk (below_step (by repeat (first | (with_reducible first | exact HB.out | apply zq2 | apply zq1 | apply zqd | refine zq3 ?_ GE148.out) | exact HB.out)) hb); have n2_ := Az.mk (hbox); have n3_ := Az.mk ((by rw [hg]; exact (below_size (by repeat (first | (with_reducible first | exact HB.out | apply zq2 | apply zq1 | apply zqd | refine zq3 ?_ GE148.out) | exact HB.out))) : w.heap.size ≤ gb149)); have n4_ := Az.mk ((by rw [hg]; exact (below_size (by repeat (first | (with_reducible first | exact HB.out | apply zq2 | apply zq1 | apply zqd | refine zq3 ?_ GE148.out) | exact HB.out))) : w.heap.size ≤ gb149)); have n5_ := Az.mk ((by rw [hg]; exact Nat.ne_of_lt (blk_lt (g := gb148) (o := .cells #[.int .i64 a0_0, .int .i64 a0_1] 37 (0, 0)) (by (with_reducible repeat (first | refine zq6 ?_ _ | refine zq8 ?_ | refine zq7 ?_ _)); exact BK148.out)) : gb148 ≠ gb149)); have n6_ := Az.mk ((by rw [hg]; exact Nat.ne_of_gt (blk_lt (g := gb148) (o := .cells #[.int .i64 a0_0, .int .i64 a0_1] 37 (0, 0)) (by (with_reducible repeat (first | refine zq6 ?_ _ | refine zq8 ?_ | refine zq7 ?_ _)); exact BK148.out)) : gb149 ≠ gb148)); clear BK148; clear HB; have BK148 := n0_; have HB := n1_; have BK149 := n2_; have GW149 := n3_; have GE149 := n4_; have NB148_149 := n5_; have NB149_148 := n6_; clear n0_ n1_ n2_ n3_ n4_ n5_ n6_; clear hb hbox hg; have hnb7 := NB148_149.out; have hnc7 := NB149_148.out; have hcz8_0 : w6.cell? ⟨gb148, 0, none⟩ = some (.int .i64 a0_0) := (zq4 BK148.out 0).trans rfl; have hcz8_1 : w6.cell? ⟨gb148, 1, none⟩ = some (.int .i64 a0_1) := (zq4 BK148.out 1).trans rfl; have hfz8_0 := zq5 BK148.out 0; have hfz8_1 := zq5 BK148.out 1; have hcz9_0 : w6.cell? ⟨gb149, 0, none⟩ = some (.int .i64 a1_0) := (zq4 BK149.out 0).trans rfl; have hcz9_1 : w6.cell? ⟨gb149, 1, none⟩ = some (.int .i64 a1_1) := (zq4 BK149.out 1).trans rfl; have hfz9_0 := zq5 BK149.out 0; have hfz9_1 := zq5 BK149.out 1))
   go_ret
   exact ⟨by first | rfl | (simp [errW_none, errW_some] <;> rfl) | (simp [*, errW_none, errW_some] <;> rfl), by repeat (first | (with_reducible first | exact HB.out | apply zq2 | apply zq1 | apply zqd | refine zq3 ?_ GE148.out | refine zq3 ?_ GE149.out) | exact HB.out)⟩
  ·rw [if_neg c4] at H
   have c4b0 : (a0_1 == a1_1) = false := beq_eq_false_iff_ne.mpr c4
   have c4b1 : (a0_1 != a1_1) = true := bne_iff_ne.mpr c4
   obtain rfl := Option.some.inj H
   go_enter Try.func73, Try.ntmps73
   go_wp2_with (first | ((with_reducible refine zqg (N := 2) rfl ?_); refine zqb ?hg (N := 2) ?hd (cs := #[.int .i64 a0_0, .int .i64 a0_1]) (t := 37) ?hr ?_; (case hd => rfl); (case hg => rfl); (case hr => first | (go_simp; done) | (go_simp; rfl)); intro gb148 hg w10 hbox hb; have n0_ := Az.mk (below_step (by repeat (first | (with_reducible first | exact HB.out | apply zq2 | apply zq1 | apply zqd) | exact HB.out)) hb); have n1_ := Az.mk (hbox); have n2_ := Az.mk ((by rw [hg]; exact (below_size (by repeat (first | (with_reducible first | exact HB.out | apply zq2 | apply zq1 | apply zqd) | exact HB.out))) : w.heap.size ≤ gb148)); have n3_ := Az.mk ((by rw [hg]; exact (below_size (by repeat (first | (with_reducible first | exact HB.out | apply zq2 | apply zq1 | apply zqd) | exact HB.out))) : w.heap.size ≤ gb148)); clear HB; have HB := n0_; have BK148 := n1_; have GW148 := n2_; have GE148 := n3_; clear n0_ n1_ n2_ n3_; clear hb hbox hg) | ((with_reducible refine zqg (N := 3) rfl ?_); refine zqb ?hg (N := 3) ?hd (cs := #[.int .i64 a1_0, .int .i64 a1_1]) (t := 37) ?hr ?_; (case hd => rfl); (case hg => rfl); (case hr => first | (go_simp; done) | (go_simp; rfl)); intro gb149 hg w11 hbox hb; have n0_ := Az.mk (blk_below (g := gb148) (o := .cells #[.int .i64 a0_0, .int .i64 a0_1] 37 (0, 0)) (by (with_reducible repeat (first | refine zq6 ?_ _ | refine zq8 ?_ | refine zq7 ?_ _)); exact BK148.out) hb); have n1_ := Az.mk (below_step (by repeat (first | (with_reducible first | exact HB.out | apply zq2 | apply zq1 | apply zqd | refine zq3 ?_ GE148.out) | exact HB.out)) hb); have n2_ := Az.mk (hbox); have n3_ := Az.mk ((by rw [hg]; exact (below_size (by repeat (first | (with_reducible first | exact HB.out | apply zq2 | apply zq1 | apply zqd | refine zq3 ?_ GE148.out) | exact HB.out))) : w.heap.size ≤ gb149)); have n4_ := Az.mk ((by rw [hg]; exact (below_size (by repeat (first | (with_reducible first | exact HB.out | apply zq2 | apply zq1 | apply zqd | refine zq3 ?_ GE148.out) | exact HB.out))) : w.heap.size ≤ gb149)); have n5_ := Az.mk ((by rw [hg]; exact Nat.ne_of_lt (blk_lt (g := gb148) (o := .cells #[.int .i64 a0_0, .int .i64 a0_1] 37 (0, 0)) (by (with_reducible repeat (first | refine zq6 ?_ _ | refine zq8 ?_ | refine zq7 ?_ _)); exact BK148.out)) : gb148 ≠ gb149)); have n6_ := Az.mk ((by rw [hg]; exact Nat.ne_of_gt (blk_lt (g := gb148) (o := .cells #[.int .i64 a0_0, .int .i64 a0_1] 37 (0, 0)) (by (with_reducible repeat (first | refine zq6 ?_ _ | refine zq8 ?_ | refine zq7 ?_ _)); exact BK148.out)) : gb149 ≠ gb148)); clear BK148; clear HB; have BK148 := n0_; have HB := n1_; have BK149 := n2_; have GW149 := n3_; have GE149 := n4_; have NB148_149 := n5_; have NB149_148 := n6_; clear n0_ n1_ n2_ n3_ n4_ n5_ n6_; clear hb hbox hg; have hnb12 := NB148_149.out; have hnc12 := NB149_148.out; have hcz13_0 : w11.cell? ⟨gb148, 0, none⟩ = some (.int .i64 a0_0) := (zq4 BK148.out 0).trans rfl; have hcz13_1 : w11.cell? ⟨gb148, 1, none⟩ = some (.int .i64 a0_1) := (zq4 BK148.out 1).trans rfl; have hfz13_0 := zq5 BK148.out 0; have hfz13_1 := zq5 BK148.out 1; have hcz14_0 : w11.cell? ⟨gb149, 0, none⟩ = some (.int .i64 a1_0) := (zq4 BK149.out 0).trans rfl; have hcz14_1 : w11.cell? ⟨gb149, 1, none⟩ = some (.int .i64 a1_1) := (zq4 BK149.out 1).trans rfl; have hfz14_0 := zq5 BK149.out 0; have hfz14_1 := zq5 BK149.out 1))
   go_ret
   exact ⟨by first | rfl | (simp [errW_none, errW_some] <;> rfl) | (simp [*, errW_none, errW_some] <;> rfl), by repeat (first | (with_reducible first | exact HB.out | apply zq2 | apply zq1 | apply zqd | refine zq3 ?_ GE148.out | refine zq3 ?_ GE149.out) | exact HB.out)⟩
 ·rw [if_neg c3] at H
  have c3b0 : (a0_0 == a1_0) = false := beq_eq_false_iff_ne.mpr c3
  have c3b1 : (a0_0 != a1_0) = true := bne_iff_ne.mpr c3
  obtain rfl := Option.some.inj H
  go_enter Try.func73, Try.ntmps73
  go_wp2_with (first | ((with_reducible refine zqg (N := 2) rfl ?_); refine zqb ?hg (N := 2) ?hd (cs := #[.int .i64 a0_0, .int .i64 a0_1]) (t := 37) ?hr ?_; (case hd => rfl); (case hg => rfl); (case hr => first | (go_simp; done) | (go_simp; rfl)); intro gb148 hg w15 hbox hb; have n0_ := Az.mk (below_step (by repeat (first | (with_reducible first | exact HB.out | apply zq2 | apply zq1 | apply zqd) | exact HB.out)) hb); have n1_ := Az.mk (hbox); have n2_ := Az.mk ((by rw [hg]; exact (below_size (by repeat (first | (with_reducible first | exact HB.out | apply zq2 | apply zq1 | apply zqd) | exact HB.out))) : w.heap.size ≤ gb148)); have n3_ := Az.mk ((by rw [hg]; exact (below_size (by repeat (first | (with_reducible first | exact HB.out | apply zq2 | apply zq1 | apply zqd) | exact HB.out))) : w.heap.size ≤ gb148)); clear HB; have HB := n0_; have BK148 := n1_; have GW148 := n2_; have GE148 := n3_; clear n0_ n1_ n2_ n3_; clear hb hbox hg) | ((with_reducible refine zqg (N := 3) rfl ?_); refine zqb ?hg (N := 3) ?hd (cs := #[.int .i64 a1_0, .int .i64 a1_1]) (t := 37) ?hr ?_; (case hd => rfl); (case hg => rfl); (case hr => first | (go_simp; done) | (go_simp; rfl)); intro gb149 hg w16 hbox hb; have n0_ := Az.mk (blk_below (g := gb148) (o := .cells #[.int .i64 a0_0, .int .i64 a0_1] 37 (0, 0)) (by (with_reducible repeat (first | refine zq6 ?_ _ | refine zq8 ?_ | refine zq7 ?_ _)); exact BK148.out) hb); have n1_ := Az.mk (below_step (by repeat (first | (with_reducible first | exact HB.out | apply zq2 | apply zq1 | apply zqd | refine zq3 ?_ GE148.out) | exact HB.out)) hb); have n2_ := Az.mk (hbox); have n3_ := Az.mk ((by rw [hg]; exact (below_size (by repeat (first | (with_reducible first | exact HB.out | apply zq2 | apply zq1 | apply zqd | refine zq3 ?_ GE148.out) | exact HB.out))) : w.heap.size ≤ gb149)); have n4_ := Az.mk ((by rw [hg]; exact (below_size (by repeat (first | (with_reducible first | exact HB.out | apply zq2 | apply zq1 | apply zqd | refine zq3 ?_ GE148.out) | exact HB.out))) : w.heap.size ≤ gb149)); have n5_ := Az.mk ((by rw [hg]; exact Nat.ne_of_lt (blk_lt (g := gb148) (o := .cells #[.int .i64 a0_0, .int .i64 a0_1] 37 (0, 0)) (by (with_reducible repeat (first | refine zq6 ?_ _ | refine zq8 ?_ | refine zq7 ?_ _)); exact BK148.out)) : gb148 ≠ gb149)); have n6_ := Az.mk ((by rw [hg]; exact Nat.ne_of_gt (blk_lt (g := gb148) (o := .cells #[.int .i64 a0_0, .int .i64 a0_1] 37 (0, 0)) (by (with_reducible repeat (first | refine zq6 ?_ _ | refine zq8 ?_ | refine zq7 ?_ _)); exact BK148.out)) : gb149 ≠ gb148)); clear BK148; clear HB; have BK148 := n0_; have HB := n1_; have BK149 := n2_; have GW149 := n3_; have GE149 := n4_; have NB148_149 := n5_; have NB149_148 := n6_; clear n0_ n1_ n2_ n3_ n4_ n5_ n6_; clear hb hbox hg; have hnb17 := NB148_149.out; have hnc17 := NB149_148.out; have hcz18_0 : w16.cell? ⟨gb148, 0, none⟩ = some (.int .i64 a0_0) := (zq4 BK148.out 0).trans rfl; have hcz18_1 : w16.cell? ⟨gb148, 1, none⟩ = some (.int .i64 a0_1) := (zq4 BK148.out 1).trans rfl; have hfz18_0 := zq5 BK148.out 0; have hfz18_1 := zq5 BK148.out 1; have hcz19_0 : w16.cell? ⟨gb149, 0, none⟩ = some (.int .i64 a1_0) := (zq4 BK149.out 0).trans rfl; have hcz19_1 : w16.cell? ⟨gb149, 1, none⟩ = some (.int .i64 a1_1) := (zq4 BK149.out 1).trans rfl; have hfz19_0 := zq5 BK149.out 0; have hfz19_1 := zq5 BK149.out 1))
  go_ret
  exact ⟨by first | rfl | (simp [errW_none, errW_some] <;> rfl) | (simp [*, errW_none, errW_some] <;> rfl), by repeat (first | (with_reducible first | exact HB.out | apply zq2 | apply zq1 | apply zqd | refine zq3 ?_ GE148.out | refine zq3 ?_ GE149.out) | exact HB.out)⟩
end Go.Proofs.Ytkoimmeghdbodaa.Print
namespace Go.Proofs.Ytkoimmeghdbodaa.Print
open Go.RowKit Go.Proofs.YtkoimmeghdbodaaW.PrintWords Go.Proofs.YtkoimmeghdbodaaW.PrintLast Go.Proofs.YtkoimmeghdbodaaW.PrintMore
attribute [local go_sem] max2_int min2_int max_two min_two max_three min_three max_four min_four   -- for this text's walks alone
set_option linter.unusedVariables false
set_option linter.unusedSimpArgs false
def laws_eqPlaceS.l0 : Nat → List (S37) → List (S37) → Int → Option (Bool)
 | 0, _, _, _ => none
 | k + 1, x0, x1, x5 => if x5 < (x0.length : Int) then (if 0 ≤ x5 then (if x5 < (x1.length : Int) then ((laws_eqPlace.f ((rd_T37 x0 x5).f0) ((rd_T37 x0 x5).f1) ((rd_T37 x1 x5).f0) ((rd_T37 x1 x5).f1)).bind fun t152 => (if t152 = true then (laws_eqPlaceS.l0 k x0 x1 (wrap64 (x5 + 1))) else (some false))) else (none)) else (none)) else (some true)
def laws_eqPlaceS.f (k : Nat) (l0 : List (S37)) (l1 : List (S37)) : Option (Bool) := if (l0.length : Int) = (l1.length : Int) then (laws_eqPlaceS.l0 k l0 l1 0) else (some false)
def laws_eqPlaceS.T6 : Bool × List (List Nat × List Nat) := (true, [([], []), ([], []), ([0, 1], [0, 1]), ([2], [2]), ([], []), ([], []), ([4, 5], [4, 5]), ([6], [6]), ([3, 7], [3, 7]), ([8], [8])])
def laws_eqPlaceS.B6 : List Nat := [0, 0, 3, 7, 0, 0, 48, 112, 255, 511]
theorem laws_eqPlaceS.tab6 : rtab .any (opsOf Try.f31 6) = laws_eqPlaceS.T6 := by kernel_rfl
theorem laws_eqPlaceS.bits6 : waitsOk laws_eqPlaceS.T6.2 laws_eqPlaceS.B6 = true := by kernel_rfl
set_option maxHeartbeats 8000000 in
set_option maxRecDepth 100000 in
theorem laws_eqPlaceS.calls (k : Nat) (A0 : Option Addr) (c0 : Nat) (l0 : List (S37)) (A1 : Option Addr) (c1 : Nat) (l1 : List (S37)) (r : Bool) (w : World) (hr0 : Kd.C k37 w A0 l0.length l0) (hc0 : l0.length ≤ c0) (hr1 : Kd.C k37 w A1 l1.length l1) (hc1 : l1.length ≤ c1) (h : laws_eqPlaceS.f k l0 l1 = some r) :
  Calls Try.prog 31 #[.slice A0 l0.length c0, .slice A1 l1.length c1] w fun e w' => e = .returned (.bool r) ∧ Below w.heap.size w w' := by
 have hu37 := Try.underlying37
 have HR0 := Az.mk hr0
 have HC0 := Az.mk hc0
 clear hr0 hc0
 have HR1 := Az.mk hr1
 have HC1 := Az.mk hc1
 clear hr1 hc1
 have HB := Az.mk (Below.refl w.heap.size w)
 have H : (if (l0.length : Int) = (l1.length : Int) then (laws_eqPlaceS.l0 k l0 l1 0) else (some false)) = some r := h
 clear h
 by_cases c3 : (l0.length : Int) = (l1.length : Int)
 ·rw [if_pos c3] at H
  have c3b0 : ((l0.length : Int) == (l1.length : Int)) = true := beq_iff_eq.mpr c3
  have c3b1 : ((l0.length : Int) != (l1.length : Int)) = false := bne_eq_false_iff_eq.mpr c3
  have c3b2 : (l0.length == l1.length) = true := by first | simpa using c3 | (simp at c3 ⊢; omega)
  clear c3
  have H' := Az.mk H
  clear H
  go_enter Try.func31, Try.ntmps31
  go_wp2
  go_loopg [5] k (fun kq v5 w' => ∃ (x5_1 : Int), v5 = .int .i64 x5_1 ∧ Az (laws_eqPlaceS.l0 kq l0 l1 x5_1 = some r) ∧ Az (kq ≤ k) ∧ Az (Below w.heap.size w w'))
  case atStart => exact ⟨(0), (by first | rfl | (simp; done) | (simp [*]; done)), H', ⟨Nat.le_refl _⟩, ⟨by repeat (first | (with_reducible first | exact HB.out | apply zq2 | apply zq1 | apply zqd) | exact HB.out)⟩⟩
  case round =>
   clear H'
   try clear c1
   try clear p2
   try clear c3
   try clear c3b0
   try clear c3b1
   try clear c3b2
   obtain ⟨x5_1, rfl, HA, HK1, HB⟩ := hrel
   cases gk with
   | zero => exact absurd HA.out (by simp [laws_eqPlaceS.l0])
   | succ k1 =>
    have H := HA.out
    clear HA
    simp only [laws_eqPlaceS.l0] at H
    by_cases c4 : x5_1 < (l0.length : Int)
    ·rw [if_pos c4] at H
     have c4b0 : decide (x5_1 < (l0.length : Int)) = true := decide_eq_true c4
     clear c4
     by_cases c5 : 0 ≤ x5_1
     ·rw [if_pos c5] at H
      have c5b0 : decide (0 ≤ x5_1) = true := decide_eq_true c5
      clear c5
      by_cases c6 : x5_1 < (l1.length : Int)
      ·rw [if_pos c6] at H
       have c6b0 : decide (x5_1 < (l1.length : Int)) = true := decide_eq_true c6
       clear c6
       replace H := Option.bind_eq_some_iff.mp H
       obtain ⟨t152, A70, H⟩ := H
       replace H : (if t152 = true then (laws_eqPlaceS.l0 k1 l0 l1 (wrap64 (x5_1 + 1))) else (some false)) = some r := H
       have A7 := Az.mk A70
       clear A70
       by_cases c8 : t152 = true
       ·subst c8
        have H1 : (laws_eqPlaceS.l0 k1 l0 l1 (wrap64 (x5_1 + 1))) = some r := by rw [if_pos rfl] at H; exact H
        clear H
        have H := H1
        clear H1
        have H' := Az.mk H
        clear H
        try go_wp2
        have n0_ := Az.mk (zqd HB.out)
        clear HB
        have HB := n0_
        clear n0_
        have p150 : 0 ≤ (x5_1 : Int) := of_decide_eq_true (by first | (with_reducible assumption) | assumption)
        have q150 : x5_1 < (l0.length : Int) := of_decide_eq_true (by first | (with_reducible assumption) | assumption)
        obtain ⟨ad150, e150, hx150_0, hx150_1⟩ := at_T37 HR0.out x5_1 p150 q150
        have hw150_1 := hx150_1
        have hw150_0 := hx150_0
        cases e150
        replace hx150_0 := (HB.out.cell (World.block_lt_of_cell? w _ hx150_0)).trans hx150_0
        replace hx150_1 := (HB.out.cell (World.block_lt_of_cell? w _ hx150_1)).trans hx150_1
        replace p150 := eq_true p150
        replace q150 := eq_true q150
        have p151 : 0 ≤ (x5_1 : Int) := of_decide_eq_true (by first | (with_reducible assumption) | assumption)
        have q151 : x5_1 < (l1.length : Int) := of_decide_eq_true (by first | (with_reducible assumption) | assumption)
        obtain ⟨ad151, e151, hx151_0, hx151_1⟩ := at_T37 HR1.out x5_1 p151 q151
        have hw151_1 := hx151_1
        have hw151_0 := hx151_0
        cases e151
        replace hx151_0 := (HB.out.cell (World.block_lt_of_cell? w _ hx151_0)).trans hx151_0
        replace hx151_1 := (HB.out.cell (World.block_lt_of_cell? w _ hx151_1)).trans hx151_1
        replace p151 := eq_true p151
        replace q151 := eq_true q151
        refine start_ (n := 10) (S := fun w' => w'.cell? (ad150.add ((x5_1).toNat * 2)) = some (.int .i64 ((rd_T37 l0 x5_1).f0)) ∧ w'.cell? ⟨(ad150.add ((x5_1).toNat * 2)).block, (ad150.add ((x5_1).toNat * 2)).off + 1, none⟩ = some (.int .i64 ((rd_T37 l0 x5_1).f1)) ∧ w'.cell? (ad151.add ((x5_1).toNat * 2)) = some (.int .i64 ((rd_T37 l1 x5_1).f0)) ∧ w'.cell? ⟨(ad151.add ((x5_1).toNat * 2)).block, (ad151.add ((x5_1).toNat * 2)).off + 1, none⟩ = some (.int .i64 ((rd_T37 l1 x5_1).f1))) (ds := []) (bm 10 0) (by kernel_rfl) rfl rfl ⟨((HB.out.cell (World.block_lt_of_cell? w _ hw150_0)).trans hw150_0), ((HB.out.cell (World.block_lt_of_cell? w _ hw150_1)).trans hw150_1), ((HB.out.cell (World.block_lt_of_cell? w _ hw151_0)).trans hw151_0), ((HB.out.cell (World.block_lt_of_cell? w _ hw151_1)).trans hw151_1)⟩ (fun hHeld => ?_); refine with_tabW laws_eqPlaceS.tab6 laws_eqPlaceS.bits6 (fun HT_ HW_ => ?_)
        generalize wr.drew = w9 at HB hx150_0 hx150_1 hx151_0 hx151_1 hHeld ⊢
        refine zqp (i := 0) (N := some 17) (v := ?_) (a' := ?_) (bm 10 1) rfl rfl (any_of HT_.out (by kernel_rfl)) (fun _ _ _ h => h) (Or.inl ⟨by rfl, ?_⟩) ?_ ?_
        rotate_left
        ·intro w'
         go_simp
         with_reducible rfl
        rotate_left
        ·simp only [Act.put, zs1, zs2, zs3, i64_w, i32_w]
         rfl
        refine zqp (i := 1) (N := some 18) (v := ?_) (a' := ?_) (bm 10 3) rfl rfl (any_of HT_.out (by kernel_rfl)) (fun _ _ _ h => h) (Or.inl ⟨by rfl, ?_⟩) ?_ ?_
        rotate_left
        ·intro w'
         go_simp
         with_reducible rfl
        rotate_left
        ·simp only [Act.put, zs1, zs2, zs3, i64_w, i32_w]
         rfl
        refine zqp (i := 2) (N := some 19) (v := ?_) (a' := ?_) (bm 10 7) rfl rfl (any_of HT_.out (by kernel_rfl)) (fun _ _ _ h => h) (Or.inl ⟨by rfl, ?_⟩) ?_ ?_
        rotate_left
        ·intro w'
         go_simp
         with_reducible rfl
        rotate_left
        ·simp only [Act.put, zs1, zs2, zs3, i64_w, i32_w]
         rfl
        refine zqp (i := 4) (N := some 21) (v := ?_) (a' := ?_) (bm 10 23) rfl rfl (any_of HT_.out (by kernel_rfl)) (fun _ _ _ h => h) (Or.inl ⟨by rfl, ?_⟩) ?_ ?_
        rotate_left
        ·intro w'
         go_simp
         with_reducible rfl
        rotate_left
        ·simp only [Act.put, zs1, zs2, zs3, i64_w, i32_w]
         rfl
        refine zqp (i := 5) (N := some 22) (v := ?_) (a' := ?_) (bm 10 55) rfl rfl (any_of HT_.out (by kernel_rfl)) (fun _ _ _ h => h) (Or.inl ⟨by rfl, ?_⟩) ?_ ?_
        rotate_left
        ·intro w'
         go_simp
         with_reducible rfl
        rotate_left
        ·simp only [Act.put, zs1, zs2, zs3, i64_w, i32_w]
         rfl
        refine zqp (i := 6) (N := some 23) (v := ?_) (a' := ?_) (bm 10 119) rfl rfl (any_of HT_.out (by kernel_rfl)) (fun _ _ _ h => h) (Or.inl ⟨by rfl, ?_⟩) ?_ ?_
        rotate_left
        ·intro w'
         go_simp
         with_reducible rfl
        rotate_left
        ·simp only [Act.put, zs1, zs2, zs3, i64_w, i32_w]
         rfl
        refine zqt (i := 3) (N := some 20) (v := ?_) (a' := ?_) (bm 10 127) rfl rfl (take_ofW HT_.out HW_.out (by kernel_rfl)) (fun _ _ _ h => h) (Or.inl ⟨by rfl, ?_⟩) hHeld ?_ ?_
        rotate_left
        ·rintro w' ⟨s0, s1, s2, s3⟩
         go_simp
         with_reducible rfl
        rotate_left
        ·simp only [Act.put, zs1, zs2, zs3, i64_w, i32_w]
         rfl
        refine zqt (i := 7) (N := some 24) (v := ?_) (a' := ?_) (bm 10 255) rfl rfl (take_ofW HT_.out HW_.out (by kernel_rfl)) (fun _ _ _ h => h) (Or.inl ⟨by rfl, ?_⟩) hHeld ?_ ?_
        rotate_left
        ·rintro w' ⟨s0, s1, s2, s3⟩
         go_simp
         with_reducible rfl
        rotate_left
        ·simp only [Act.put, zs1, zs2, zs3, i64_w, i32_w]
         rfl
        refine one_ (i := 8) (N := some 25) (bm 10 511) rfl rfl (one_of HT_.out (by kernel_rfl)) (by decide) (fun K hK => ?_)
        refine goes_ Try.func73 (by kernel_rfl) rfl #[.agg #[.int .i64 ((rd_T37 l0 x5_1).f0), .int .i64 ((rd_T37 l0 x5_1).f1)], .agg #[.int .i64 ((rd_T37 l1 x5_1).f0), .int .i64 ((rd_T37 l1 x5_1).f1)]] (by rfl) rfl rfl (by (try simp only [List.map_toArray, List.map_cons, List.map_nil]); first | done | rfl | (simp only [List.length_drop, List.length_take]; rfl)) ?_
        with_reducible refine (laws_eqPlace.calls ((rd_T37 l0 x5_1).f0) ((rd_T37 l0 x5_1).f1) ((rd_T37 l1 x5_1).f0) ((rd_T37 l1 x5_1).f1) true _ A7.out).mono ?_
        rintro e w10 ⟨rfl, hb⟩
        refine ⟨_, rfl, ?_⟩
        have n0_ := Az.mk (below_step (by repeat (first | (with_reducible first | exact HB.out | apply zq2 | apply zq1 | apply zqd) | exact HB.out)) hb)
        clear HB
        have HB := n0_
        clear n0_
        (try clear hb)
        (try clear hb2)
        (try clear hk)
        (try clear hi)
        refine hK.out _ _ ⟨((HB.out.cell (World.block_lt_of_cell? w _ hw150_0)).trans hw150_0), ((HB.out.cell (World.block_lt_of_cell? w _ hw150_1)).trans hw150_1), ((HB.out.cell (World.block_lt_of_cell? w _ hw151_0)).trans hw151_0), ((HB.out.cell (World.block_lt_of_cell? w _ hw151_1)).trans hw151_1)⟩ (fun hHeld => ?_)
        clear hK K
        refine norm_ (a' := ?_) ?_ ?_
        rotate_left
        ·show Act.put _ (some 25) _ = _
         simp only [Act.put, zs1, zs2, zs3, i64_w, i32_w]
         rfl
        refine zqp (i := 9) (N := some 26) (v := ?_) (a' := ?_) (bm 10 1023) rfl rfl (any_of HT_.out (by kernel_rfl)) (fun _ _ _ h => h) (Or.inl ⟨by rfl, ?_⟩) ?_ ?_
        rotate_left
        ·intro w'
         go_simp
         with_reducible rfl
        rotate_left
        ·simp only [Act.put, zs1, zs2, zs3, i64_w, i32_w]
         rfl
        refine done_ (done_of HT_.out (by kernel_rfl)) ?_
        try go_wp2
        go_roundg k1
        case measure => have := HK1.out; omega
        case rel => exact ⟨(wrap64 (x5_1 + 1)), (by first | rfl | (simp; done) | (simp [*]; done)), H', ⟨by have := HK1.out; omega⟩, ⟨by repeat (first | (with_reducible first | exact HB.out | apply zq2 | apply zq1 | apply zqd) | exact HB.out)⟩⟩
       ·replace c8 := Bool.eq_false_iff.mpr c8
        subst c8
        have H1 : (some false) = some r := by rw [if_neg (show ¬ (false = true) by decide)] at H; exact H
        clear H
        have H := H1
        clear H1
        obtain rfl := Option.some.inj H
        try go_wp2
        have n0_ := Az.mk (zqd HB.out)
        clear HB
        have HB := n0_
        clear n0_
        have p150 : 0 ≤ (x5_1 : Int) := of_decide_eq_true (by first | (with_reducible assumption) | assumption)
        have q150 : x5_1 < (l0.length : Int) := of_decide_eq_true (by first | (with_reducible assumption) | assumption)
        obtain ⟨ad150, e150, hx150_0, hx150_1⟩ := at_T37 HR0.out x5_1 p150 q150
        have hw150_1 := hx150_1
        have hw150_0 := hx150_0
        cases e150
        replace hx150_0 := (HB.out.cell (World.block_lt_of_cell? w _ hx150_0)).trans hx150_0
        replace hx150_1 := (HB.out.cell (World.block_lt_of_cell? w _ hx150_1)).trans hx150_1
        replace p150 := eq_true p150
        replace q150 := eq_true q150
        have p151 : 0 ≤ (x5_1 : Int) := of_decide_eq_true (by first | (with_reducible assumption) | assumption)
        have q151 : x5_1 < (l1.length : Int) := of_decide_eq_true (by first | (with_reducible assumption) | assumption)
        obtain ⟨ad151, e151, hx151_0, hx151_1⟩ := at_T37 HR1.out x5_1 p151 q151
        have hw151_1 := hx151_1
        have hw151_0 := hx151_0
        cases e151
        replace hx151_0 := (HB.out.cell (World.block_lt_of_cell? w _ hx151_0)).trans hx151_0
        replace hx151_1 := (HB.out.cell (World.block_lt_of_cell? w _ hx151_1)).trans hx151_1
        replace p151 := eq_true p151
        replace q151 := eq_true q151
        refine start_ (n := 10) (S := fun w' => w'.cell? (ad150.add ((x5_1).toNat * 2)) = some (.int .i64 ((rd_T37 l0 x5_1).f0)) ∧ w'.cell? ⟨(ad150.add ((x5_1).toNat * 2)).block, (ad150.add ((x5_1).toNat * 2)).off + 1, none⟩ = some (.int .i64 ((rd_T37 l0 x5_1).f1)) ∧ w'.cell? (ad151.add ((x5_1).toNat * 2)) = some (.int .i64 ((rd_T37 l1 x5_1).f0)) ∧ w'.cell? ⟨(ad151.add ((x5_1).toNat * 2)).block, (ad151.add ((x5_1).toNat * 2)).off + 1, none⟩ = some (.int .i64 ((rd_T37 l1 x5_1).f1))) (ds := []) (bm 10 0) (by kernel_rfl) rfl rfl ⟨((HB.out.cell (World.block_lt_of_cell? w _ hw150_0)).trans hw150_0), ((HB.out.cell (World.block_lt_of_cell? w _ hw150_1)).trans hw150_1), ((HB.out.cell (World.block_lt_of_cell? w _ hw151_0)).trans hw151_0), ((HB.out.cell (World.block_lt_of_cell? w _ hw151_1)).trans hw151_1)⟩ (fun hHeld => ?_); refine with_tabW laws_eqPlaceS.tab6 laws_eqPlaceS.bits6 (fun HT_ HW_ => ?_)
        generalize wr.drew = w11 at HB hx150_0 hx150_1 hx151_0 hx151_1 hHeld ⊢
        refine zqp (i := 0) (N := some 17) (v := ?_) (a' := ?_) (bm 10 1) rfl rfl (any_of HT_.out (by kernel_rfl)) (fun _ _ _ h => h) (Or.inl ⟨by rfl, ?_⟩) ?_ ?_
        rotate_left
        ·intro w'
         go_simp
         with_reducible rfl
        rotate_left
        ·simp only [Act.put, zs1, zs2, zs3, i64_w, i32_w]
         rfl
        refine zqp (i := 1) (N := some 18) (v := ?_) (a' := ?_) (bm 10 3) rfl rfl (any_of HT_.out (by kernel_rfl)) (fun _ _ _ h => h) (Or.inl ⟨by rfl, ?_⟩) ?_ ?_
        rotate_left
        ·intro w'
         go_simp
         with_reducible rfl
        rotate_left
        ·simp only [Act.put, zs1, zs2, zs3, i64_w, i32_w]
         rfl
        refine zqp (i := 2) (N := some 19) (v := ?_) (a' := ?_) (bm 10 7) rfl rfl (any_of HT_.out (by kernel_rfl)) (fun _ _ _ h => h) (Or.inl ⟨by rfl, ?_⟩) ?_ ?_
        rotate_left
        ·intro w'
         go_simp
         with_reducible rfl
        rotate_left
        ·simp only [Act.put, zs1, zs2, zs3, i64_w, i32_w]
         rfl
        refine zqp (i := 4) (N := some 21) (v := ?_) (a' := ?_) (bm 10 23) rfl rfl (any_of HT_.out (by kernel_rfl)) (fun _ _ _ h => h) (Or.inl ⟨by rfl, ?_⟩) ?_ ?_
        rotate_left
        ·intro w'
         go_simp
         with_reducible rfl
        rotate_left
        ·simp only [Act.put, zs1, zs2, zs3, i64_w, i32_w]
         rfl
        refine zqp (i := 5) (N := some 22) (v := ?_) (a' := ?_) (bm 10 55) rfl rfl (any_of HT_.out (by kernel_rfl)) (fun _ _ _ h => h) (Or.inl ⟨by rfl, ?_⟩) ?_ ?_
        rotate_left
        ·intro w'
         go_simp
         with_reducible rfl
        rotate_left
        ·simp only [Act.put, zs1, zs2, zs3, i64_w, i32_w]
         rfl
        refine zqp (i := 6) (N := some 23) (v := ?_) (a' := ?_) (bm 10 119) rfl rfl (any_of HT_.out (by kernel_rfl)) (fun _ _ _ h => h) (Or.inl ⟨by rfl, ?_⟩) ?_ ?_
        rotate_left
        ·intro w'
         go_simp
         with_reducible rfl
        rotate_left
        ·simp only [Act.put, zs1, zs2, zs3, i64_w, i32_w]
         rfl
        refine zqt (i := 3) (N := some 20) (v := ?_) (a' := ?_) (bm 10 127) rfl rfl (take_ofW HT_.out HW_.out (by kernel_rfl)) (fun _ _ _ h => h) (Or.inl ⟨by rfl, ?_⟩) hHeld ?_ ?_
        rotate_left
        ·rintro w' ⟨s0, s1, s2, s3⟩
         go_simp
         with_reducible rfl
        rotate_left
        ·simp only [Act.put, zs1, zs2, zs3, i64_w, i32_w]
         rfl
        refine zqt (i := 7) (N := some 24) (v := ?_) (a' := ?_) (bm 10 255) rfl rfl (take_ofW HT_.out HW_.out (by kernel_rfl)) (fun _ _ _ h => h) (Or.inl ⟨by rfl, ?_⟩) hHeld ?_ ?_
        rotate_left
        ·rintro w' ⟨s0, s1, s2, s3⟩
         go_simp
         with_reducible rfl
        rotate_left
        ·simp only [Act.put, zs1, zs2, zs3, i64_w, i32_w]
         rfl
        refine one_ (i := 8) (N := some 25) (bm 10 511) rfl rfl (one_of HT_.out (by kernel_rfl)) (by decide) (fun K hK => ?_)
        refine goes_ Try.func73 (by kernel_rfl) rfl #[.agg #[.int .i64 ((rd_T37 l0 x5_1).f0), .int .i64 ((rd_T37 l0 x5_1).f1)], .agg #[.int .i64 ((rd_T37 l1 x5_1).f0), .int .i64 ((rd_T37 l1 x5_1).f1)]] (by rfl) rfl rfl (by (try simp only [List.map_toArray, List.map_cons, List.map_nil]); first | done | rfl | (simp only [List.length_drop, List.length_take]; rfl)) ?_
        with_reducible refine (laws_eqPlace.calls ((rd_T37 l0 x5_1).f0) ((rd_T37 l0 x5_1).f1) ((rd_T37 l1 x5_1).f0) ((rd_T37 l1 x5_1).f1) false _ A7.out).mono ?_
        rintro e w12 ⟨rfl, hb⟩
        refine ⟨_, rfl, ?_⟩
        have n0_ := Az.mk (below_step (by repeat (first | (with_reducible first | exact HB.out | apply zq2 | apply zq1 | apply zqd) | exact HB.out)) hb)
        clear HB
        have HB := n0_
        clear n0_
        (try clear hb)
        (try clear hb2)
        (try clear hk)
        (try clear hi)
        refine hK.out _ _ ⟨((HB.out.cell (World.block_lt_of_cell? w _ hw150_0)).trans hw150_0), ((HB.out.cell (World.block_lt_of_cell? w _ hw150_1)).trans hw150_1), ((HB.out.cell (World.block_lt_of_cell? w _ hw151_0)).trans hw151_0), ((HB.out.cell (World.block_lt_of_cell? w _ hw151_1)).trans hw151_1)⟩ (fun hHeld => ?_)
        clear hK K
        refine norm_ (a' := ?_) ?_ ?_
        rotate_left
        ·show Act.put _ (some 25) _ = _
         simp only [Act.put, zs1, zs2, zs3, i64_w, i32_w]
         rfl
        refine zqp (i := 9) (N := some 26) (v := ?_) (a' := ?_) (bm 10 1023) rfl rfl (any_of HT_.out (by kernel_rfl)) (fun _ _ _ h => h) (Or.inl ⟨by rfl, ?_⟩) ?_ ?_
        rotate_left
        ·intro w'
         go_simp
         with_reducible rfl
        rotate_left
        ·simp only [Act.put, zs1, zs2, zs3, i64_w, i32_w]
         rfl
        refine done_ (done_of HT_.out (by kernel_rfl)) ?_
        try go_wp2
        go_ret
        exact ⟨by first | rfl | (simp [errW_none, errW_some] <;> rfl) | (simp [*, errW_none, errW_some] <;> rfl), by repeat (first | (with_reducible first | exact HB.out | apply zq2 | apply zq1 | apply zqd) | exact HB.out)⟩
      ·rw [if_neg c6] at H
       exact absurd H (by simp)
     ·rw [if_neg c5] at H
      exact absurd H (by simp)
    ·rw [if_neg c4] at H
     have c4b0 : decide (x5_1 < (l0.length : Int)) = false := decide_eq_false c4
     clear c4
     obtain rfl := Option.some.inj H
     go_wp2
     go_ret
     exact ⟨by first | rfl | (simp [errW_none, errW_some] <;> rfl) | (simp [*, errW_none, errW_some] <;> rfl), by repeat (first | (with_reducible first | exact HB.out | apply zq2 | apply zq1 | apply zqd) | exact HB.out)⟩
 ·rw [if_neg c3] at H
  have c3b0 : ((l0.length : Int) == (l1.length : Int)) = false := beq_eq_false_iff_ne.mpr c3
  have c3b1 : ((l0.length : Int) != (l1.length : Int)) = true := bne_iff_ne.mpr c3
  have c3b2 : (l0.length == l1.length) = false := by first | simpa using c3 | (simp at c3 ⊢; omega)
  obtain rfl := Option.some.inj H
  go_enter Try.func31, Try.ntmps31
  go_wp2
  go_ret
  exact ⟨by first | rfl | (simp [errW_none, errW_some] <;> rfl) | (simp [*, errW_none, errW_some] <;> rfl), by repeat (first | (with_reducible first | exact HB.out | apply zq2 | apply zq1 | apply zqd) | exact HB.out)⟩
end Go.Proofs.Ytkoimmeghdbodaa.Print
namespace Go.Proofs.Ytkoimmeghdbodaa.Print
open Go.RowKit Go.Proofs.YtkoimmeghdbodaaW.PrintWords Go.Proofs.YtkoimmeghdbodaaW.PrintLast Go.Proofs.YtkoimmeghdbodaaW.PrintMore
attribute [local go_sem] max2_int min2_int max_two min_two max_three min_three max_four min_four   -- for this text's walks alone
set_option linter.unusedVariables false
set_option linter.unusedSimpArgs false
def laws_eqPtr.f (k : Nat) (a0_0 : Int) (a0_1 : Int) (l0_2 : List (S37)) (a1_0 : Int) (a1_1 : Int) (l1_2 : List (S37)) : Option (Bool) := if a0_0 = a1_0 then (if a0_1 = a1_1 then ((laws_eqPlaceS.f k l0_2 l1_2).bind fun t155 => (if t155 = true then (some true) else (some false))) else (some false)) else (some false)
set_option maxHeartbeats 8000000 in
set_option maxRecDepth 100000 in
theorem laws_eqPtr.calls (k : Nat) (a0_0 : Int) (a0_1 : Int) (A0_2 : Option Addr) (c0_2 : Nat) (l0_2 : List (S37)) (a1_0 : Int) (a1_1 : Int) (A1_2 : Option Addr) (c1_2 : Nat) (l1_2 : List (S37)) (r : Bool) (w : World) (hr0_2 : Kd.C k37 w A0_2 l0_2.length l0_2) (hc0_2 : l0_2.length ≤ c0_2) (hr1_2 : Kd.C k37 w A1_2 l1_2.length l1_2) (hc1_2 : l1_2.length ≤ c1_2) (h : laws_eqPtr.f k a0_0 a0_1 l0_2 a1_0 a1_1 l1_2 = some r) :
  Calls Try.prog 21 #[.agg #[.int .i64 a0_0, .int .i64 a0_1, .slice A0_2 l0_2.length c0_2], .agg #[.int .i64 a1_0, .int .i64 a1_1, .slice A1_2 l1_2.length c1_2]] w fun e w' => e = .returned (.bool r) ∧ Below w.heap.size w w' := by
 have hu29 := Try.underlying29
 have HR0_2 := Az.mk hr0_2
 have HC0_2 := Az.mk hc0_2
 clear hr0_2 hc0_2
 have HR1_2 := Az.mk hr1_2
 have HC1_2 := Az.mk hc1_2
 clear hr1_2 hc1_2
 have HB := Az.mk (Below.refl w.heap.size w)
 have H : (if a0_0 = a1_0 then (if a0_1 = a1_1 then ((laws_eqPlaceS.f k l0_2 l1_2).bind fun t155 => (if t155 = true then (some true) else (some false))) else (some false)) else (some false)) = some r := h
 clear h
 by_cases c3 : a0_0 = a1_0
 ·rw [if_pos c3] at H
  have c3b0 : (a0_0 == a1_0) = true := beq_iff_eq.mpr c3
  have c3b1 : (a0_0 != a1_0) = false := bne_eq_false_iff_eq.mpr c3
  clear c3
  by_cases c4 : a0_1 = a1_1
  ·rw [if_pos c4] at H
   have c4b0 : (a0_1 == a1_1) = true := beq_iff_eq.mpr c4
   have c4b1 : (a0_1 != a1_1) = false := bne_eq_false_iff_eq.mpr c4
   clear c4
   replace H := Option.bind_eq_some_iff.mp H
   obtain ⟨t155, A50, H⟩ := H
   replace H : (if t155 = true then (some true) else (some false)) = some r := H
   have A5 := Az.mk A50
   clear A50
   by_cases c6 : t155 = true
   ·subst c6
    have H1 : (some true) = some r := by rw [if_pos rfl] at H; exact H
    clear H
    have H := H1
    clear H1
    obtain rfl := Option.some.inj H
    go_enter Try.func21, Try.ntmps21
    go_wp2_with (first | ((with_reducible refine zqg (N := 2) rfl ?_); refine zqb ?hg (N := 2) ?hd (cs := #[.int .i64 a0_0, .int .i64 a0_1, .slice A0_2 l0_2.length c0_2]) (t := 29) ?hr ?_; (case hd => rfl); (case hg => rfl); (case hr => first | (go_simp; done) | (go_simp; rfl)); intro gb153 hg w7 hbox hb; have n0_ := Az.mk (below_step (by repeat (first | (with_reducible first | exact HB.out | apply zq2 | apply zq1 | apply zqd) | exact HB.out)) hb); have n1_ := Az.mk (hbox); have n2_ := Az.mk ((by rw [hg]; exact (below_size (by repeat (first | (with_reducible first | exact HB.out | apply zq2 | apply zq1 | apply zqd) | exact HB.out))) : w.heap.size ≤ gb153)); have n3_ := Az.mk ((by rw [hg]; exact (below_size (by repeat (first | (with_reducible first | exact HB.out | apply zq2 | apply zq1 | apply zqd) | exact HB.out))) : w.heap.size ≤ gb153)); clear HB; have HB := n0_; have BK153 := n1_; have GW153 := n2_; have GE153 := n3_; clear n0_ n1_ n2_ n3_; clear hb hbox hg) | ((with_reducible refine zqg (N := 3) rfl ?_); refine zqb ?hg (N := 3) ?hd (cs := #[.int .i64 a1_0, .int .i64 a1_1, .slice A1_2 l1_2.length c1_2]) (t := 29) ?hr ?_; (case hd => rfl); (case hg => rfl); (case hr => first | (go_simp; done) | (go_simp; rfl)); intro gb154 hg w8 hbox hb; have n0_ := Az.mk (blk_below (g := gb153) (o := .cells #[.int .i64 a0_0, .int .i64 a0_1, .slice A0_2 l0_2.length c0_2] 29 (0, 0)) (by (with_reducible repeat (first | refine zq6 ?_ _ | refine zq8 ?_ | refine zq7 ?_ _)); exact BK153.out) hb); have n1_ := Az.mk (below_step (by repeat (first | (with_reducible first | exact HB.out | apply zq2 | apply zq1 | apply zqd | refine zq3 ?_ GE153.out) | exact HB.out)) hb); have n2_ := Az.mk (hbox); have n3_ := Az.mk ((by rw [hg]; exact (below_size (by repeat (first | (with_reducible first | exact HB.out | apply zq2 | apply zq1 | apply zqd | refine zq3 ?_ GE153.out) | exact HB.out))) : w.heap.size ≤ gb154)); have n4_ := Az.mk ((by rw [hg]; exact (below_size (by repeat (first | (with_reducible first | exact HB.out | apply zq2 | apply zq1 | apply zqd | refine zq3 ?_ GE153.out) | exact HB.out))) : w.heap.size ≤ gb154)); have n5_ := Az.mk ((by rw [hg]; exact Nat.ne_of_lt (blk_lt (g := gb153) (o := .cells #[.int .i64 a0_0, .int .i64 a0_1, .slice A0_2 l0_2.length c0_2] 29 (0, 0)) (by (with_reducible repeat (first | refine zq6 ?_ _ | refine zq8 ?_ | refine zq7 ?_ _)); exact BK153.out)) : gb153 ≠ gb154)); have n6_ := Az.mk ((by rw [hg]; exact Nat.ne_of_gt (blk_lt (g := gb153) (o := .cells #[.int .i64 a0_0, .int .i64 a0_1, .slice A0_2 l0_2.length c0_2] 29 (0, 0)) (by (with_reducible repeat (first | refine zq6 ?_ _ | refine zq8 ?_ | refine zq7 ?_ _)); exact BK153.out)) : gb154 ≠ gb153)); clear BK153; clear HB; have BK153 := n0_; have HB := n1_; have BK154 := n2_; have GW154 := n3_; have GE154 := n4_; have NB153_154 := n5_; have NB154_153 := n6_; clear n0_ n1_ n2_ n3_ n4_ n5_ n6_; clear hb hbox hg; have hnb9 := NB153_154.out; have hnc9 := NB154_153.out; have hcz10_0 : w8.cell? ⟨gb153, 0, none⟩ = some (.int .i64 a0_0) := (zq4 BK153.out 0).trans rfl; have hcz10_1 : w8.cell? ⟨gb153, 1, none⟩ = some (.int .i64 a0_1) := (zq4 BK153.out 1).trans rfl; have hcz10_2 : w8.cell? ⟨gb153, 2, none⟩ = some (.slice A0_2 l0_2.length c0_2) := (zq4 BK153.out 2).trans rfl; have hfz10_0 := zq5 BK153.out 0; have hfz10_1 := zq5 BK153.out 1; have hfz10_2 := zq5 BK153.out 2; have hcz11_0 : w8.cell? ⟨gb154, 0, none⟩ = some (.int .i64 a1_0) := (zq4 BK154.out 0).trans rfl; have hcz11_1 : w8.cell? ⟨gb154, 1, none⟩ = some (.int .i64 a1_1) := (zq4 BK154.out 1).trans rfl; have hcz11_2 : w8.cell? ⟨gb154, 2, none⟩ = some (.slice A1_2 l1_2.length c1_2) := (zq4 BK154.out 2).trans rfl; have hfz11_0 := zq5 BK154.out 0; have hfz11_1 := zq5 BK154.out 1; have hfz11_2 := zq5 BK154.out 2) | ((with_reducible refine gate_callee (f := 31) rfl ?_); refine zq9 (some 19) rfl rfl Try.func31 (by kernel_rfl) rfl #[.slice A0_2 l0_2.length c0_2, .slice A1_2 l1_2.length c1_2] rfl (by (try simp only [List.map_toArray, List.map_cons, List.map_nil]); first | done | rfl | (simp only [List.length_drop, List.length_take]; rfl)) ?_; (with_reducible refine (laws_eqPlaceS.calls k _ _ l0_2 _ _ l1_2 true _ ?side1 ?side2 ?side3 ?side4 A5.out).mono ?_); (case side1 => repeat (first | exact (Kd.C_below HR0_2.out HB.out) | (with_reducible refine Kd.C_alloc ?_ _) | (with_reducible refine Kd.C_drewN ?_ _) | (with_reducible refine Kd.C_drew ?_))); (case side2 => exact HC0_2.out); (case side3 => repeat (first | exact (Kd.C_below HR1_2.out HB.out) | (with_reducible refine Kd.C_alloc ?_ _) | (with_reducible refine Kd.C_drewN ?_ _) | (with_reducible refine Kd.C_drew ?_))); (case side4 => exact HC1_2.out); rintro e w12 ⟨rfl, hb⟩; refine ⟨_, rfl, ?_⟩; have n0_ := Az.mk (blk_below (g := gb153) (o := .cells #[.int .i64 a0_0, .int .i64 a0_1, .slice A0_2 l0_2.length c0_2] 29 (0, 0)) (by (with_reducible repeat (first | refine zq6 ?_ _ | refine zq8 ?_ | refine zq7 ?_ _)); exact BK153.out) hb); have n1_ := Az.mk (blk_below (g := gb154) (o := .cells #[.int .i64 a1_0, .int .i64 a1_1, .slice A1_2 l1_2.length c1_2] 29 (0, 0)) (by (with_reducible repeat (first | refine zq6 ?_ _ | refine zq8 ?_ | refine zq7 ?_ _)); exact BK154.out) hb); have n2_ := Az.mk (below_step (by repeat (first | (with_reducible first | exact HB.out | apply zq2 | apply zq1 | apply zqd | refine zq3 ?_ GE153.out | refine zq3 ?_ GE154.out) | exact HB.out)) hb); clear BK153; clear BK154; clear HB; have BK153 := n0_; have BK154 := n1_; have HB := n2_; clear n0_ n1_ n2_; (try clear hb); (try clear hb2); (try clear hk); (try clear hi)))
    go_ret
    exact ⟨by first | rfl | (simp [errW_none, errW_some] <;> rfl) | (simp [*, errW_none, errW_some] <;> rfl), by repeat (first | (with_reducible first | exact HB.out | apply zq2 | apply zq1 | apply zqd | refine zq3 ?_ GE153.out | refine zq3 ?_ GE154.out) | exact HB.out)⟩
   ·replace c6 := Bool.eq_false_iff.mpr c6
    subst c6
    have H1 : (some false) = some r := by rw [if_neg (show ¬ (false = true) by decide)] at H; exact H
    clear H
    have H := H1
    clear H1
    obtain rfl := Option.some.inj H
    go_enter Try.func21, Try.ntmps21
    go_wp2_with (first | ((with_reducible refine zqg (N := 2) rfl ?_); refine zqb ?hg (N := 2) ?hd (cs := #[.int .i64 a0_0, .int .i64 a0_1, .slice A0_2 l0_2.length c0_2]) (t := 29) ?hr ?_; (case hd => rfl); (case hg => rfl); (case hr => first | (go_simp; done) | (go_simp; rfl)); intro gb153 hg w13 hbox hb; have n0_ := Az.mk (below_step (by repeat (first | (with_reducible first | exact HB.out | apply zq2 | apply zq1 | apply zqd) | exact HB.out)) hb); have n1_ := Az.mk (hbox); have n2_ := Az.mk ((by rw [hg]; exact (below_size (by repeat (first | (with_reducible first | exact HB.out | apply zq2 | apply zq1 | apply zqd) | exact HB.out))) : w.heap.size ≤ gb153)); have n3_ := Az.mk ((by rw [hg]; exact (below_size (by repeat (first | (with_reducible first | exact HB.out | apply zq2 | apply zq1 | apply zqd) | exact HB.out))) : w.heap.size ≤ gb153)); clear HB; have HB := n0_; have BK153 := n1_; have GW153 := n2_; have GE153 := n3_; clear n0_ n1_ n2_ n3_; clear hb hbox hg) | ((with_reducible refine zqg (N := 3) rfl ?_); refine zqb ?hg (N := 3) ?hd (cs := #[.int .i64 a1_0, .int .i64 a1_1, .slice A1_2 l1_2.length c1_2]) (t := 29) ?hr ?_; (case hd => rfl); (case hg => rfl); (case hr => first | (go_simp; done) | (go_simp; rfl)); intro gb154 hg w14 hbox hb; have n0_ := Az.mk (blk_below (g := gb153) (o := .cells #[.int .i64 a0_0, .int .i64 a0_1, .slice A0_2 l0_2.length c0_2] 29 (0, 0)) (by (with_reducible repeat (first | refine zq6 ?_ _ | refine zq8 ?_ | refine zq7 ?_ _)); exact BK153.out) hb); have n1_ := Az.mk (below_step (by repeat (first | (with_reducible first | exact HB.out | apply zq2 | apply zq1 | apply zqd | refine zq3 ?_ GE153.out) | exact HB.out)) hb); have n2_ := Az.mk (hbox); have n3_ := Az.mk ((by rw [hg]; exact (below_size (by repeat (first | (with_reducible first | exact HB.out | apply zq2 | apply zq1 | apply zqd | refine zq3 ?_ GE153.out) | exact HB.out))) : w.heap.size ≤ gb154)); have n4_ := Az.mk ((by rw [hg]; exact (below_size (by repeat (first | (with_reducible first | exact HB.out | apply zq2 | apply zq1 | apply zqd | refine zq3 ?_ GE153.out) | exact HB.out))) : w.heap.size ≤ gb154)); have n5_ := Az.mk ((by rw [hg]; exact Nat.ne_of_lt (blk_lt (g := gb153) (o := .cells #[.int .i64 a0_0, .int .i64 a0_1, .slice A0_2 l0_2.length c0_2] 29 (0, 0)) (by (with_reducible repeat (first | refine zq6 ?_ _ | refine zq8 ?_ | refine zq7 ?_ _)); exact BK153.out)) : gb153 ≠ gb154)); have n6_ := Az.mk ((by rw [hg]; exact Nat.ne_of_gt (blk_lt (g := gb153) (o := .cells #[.int .i64 a0_0, .int .i64 a0_1, .slice A0_2 l0_2.length c0_2] 29 (0, 0)) (by (with_reducible repeat (first | refine zq6 ?_ _ | refine zq8 ?_ | refine zq7 ?_ _)); exact BK153.out)) : gb154 ≠ gb153)); clear BK153; clear HB; have BK153 := n0_; have HB := n1_; have BK154 := n2_; have GW154 := n3_; have GE154 := n4_; have NB153_154 := n5_; have NB154_153 := n6_; clear n0_ n1_ n2_ n3_ n4_ n5_ n6_; clear hb hbox hg; have hnb15 := NB153_154.out; have hnc15 := NB154_153.out; have hcz16_0 : w14.cell? ⟨gb153, 0, none⟩ = some (.int .i64 a0_0) := (zq4 BK153.out 0).trans rfl; have hcz16_1 : w14.cell? ⟨gb153, 1, none⟩ = some (.int .i64 a0_1) := (zq4 BK153.out 1).trans rfl; have hcz16_2 : w14.cell? ⟨gb153, 2, none⟩ = some (.slice A0_2 l0_2.length c0_2) := (zq4 BK153.out 2).trans rfl; have hfz16_0 := zq5 BK153.out 0; have hfz16_1 := zq5 BK153.out 1; have hfz16_2 := zq5 BK153.out 2; have hcz17_0 : w14.cell? ⟨gb154, 0, none⟩ = some (.int .i64 a1_0) := (zq4 BK154.out 0).trans rfl; have hcz17_1 : w14.cell? ⟨gb154, 1, none⟩ = some (.int .i64 a1_1) := (zq4 BK154.out 1).trans rfl; have hcz17_2 : w14.cell? ⟨gb154, 2, none⟩ = some (.slice A1_2 l1_2.length c1_2) := (zq4 BK154.out 2).trans rfl; have hfz17_0 := zq5 BK154.out 0; have hfz17_1 := zq5 BK154.out 1; have hfz17_2 := zq5 BK154.out 2) | ((with_reducible refine gate_callee (f := 31) rfl ?_); refine zq9 (some 19) rfl rfl Try.func31 (by kernel_rfl) rfl #[.slice A0_2 l0_2.length c0_2, .slice A1_2 l1_2.length c1_2] rfl (by (try simp only [List.map_toArray, List.map_cons, List.map_nil]); first | done | rfl | (simp only [List.length_drop, List.length_take]; rfl)) ?_; (with_reducible refine (laws_eqPlaceS.calls k _ _ l0_2 _ _ l1_2 false _ ?side1 ?side2 ?side3 ?side4 A5.out).mono ?_); (case side1 => repeat (first | exact (Kd.C_below HR0_2.out HB.out) | (with_reducible refine Kd.C_alloc ?_ _) | (with_reducible refine Kd.C_drewN ?_ _) | (with_reducible refine Kd.C_drew ?_))); (case side2 => exact HC0_2.out); (case side3 => repeat (first | exact (Kd.C_below HR1_2.out HB.out) | (with_reducible refine Kd.C_alloc ?_ _) | (with_reducible refine Kd.C_drewN ?_ _) | (with_reducible refine Kd.C_drew ?_))); (case side4 => exact HC1_2.out); rintro e w18 ⟨rfl, hb⟩; refine ⟨_, rfl, ?_⟩; have n0_ := Az.mk (blk_below (g := gb153) (o := .cells #[.int .i64 a0_0, .int .i64 a0_1, .slice A0_2 l0_2.length c0_2] 29 (0, 0)) (by (with_reducible repeat (first | refine zq6 ?_ _ | refine zq8 ?_ | refine zq7 ?_ _)); exact BK153.out) hb); have n1_ := Az.mk (blk_below (g := gb154) (o := .cells #[.int .i64 a1_0, .int .i64 a1_1, .slice A1_2 l1_2.length c1_2] 29 (0, 0)) (by (with_reducible repeat (first | refine zq6 ?_ _ | refine zq8 ?_ | refine zq7 ?_ _)); exact BK154.out) hb); have n2_ := Az.mk (below_step (by repeat (first | (with_reducible first | exact HB.out | apply zq2 | apply zq1 | apply zqd | refine zq3 ?_ GE153.out | refine zq3 ?_ GE154.out) | exact HB.out)) hb); clear BK153; clear BK154; clear HB; have BK153 := n0_; have BK154 := n1_; have HB := n2_; clear n0_ n1_ n2_; (try clear hb); (try clear hb2); (try clear hk); (try clear hi)))
    go_ret
    exact ⟨by first | rfl | (simp [errW_none, errW_some] <;> rfl) | (simp [*, errW_none, errW_some] <;> rfl), by repeat (first | (with_reducible first | exact HB.out | apply zq2 | apply zq1 | apply zqd | refine zq3 ?_ GE153.out | refine zq3 ?_ GE154.out) | exact HB.out)⟩
  ·rw [if_neg c4] at H
   have c4b0 : (a0_1 == a1_1) = false := beq_eq_false_iff_ne.mpr c4
   have c4b1 : (a0_1 != a1_1) = true := bne_iff_ne.mpr c4
   obtain rfl := Option.some.inj H
   go_enter Try.func21, Try.ntmps21
   go_wp2_with (first | ((with_reducible refine zqg (N := 2) rfl ?_); refine zqb ?hg (N := 2) ?hd (cs := #[.int .i64 a0_0, .int .i64 a0_1, .slice A0_2 l0_2.length c0_2]) (t := 29) ?hr ?_; (case hd => rfl); (case hg => rfl); (case hr => first | (go_simp; done) | (go_simp; rfl)); intro gb153 hg w19 hbox hb; have n0_ := Az.mk (below_step (by repeat (first | (with_reducible first | exact HB.out | apply zq2 | apply zq1 | apply zqd) | exact HB.out)) hb); have n1_ := Az.mk (hbox); have n2_ := Az.mk ((by rw [hg]; exact (below_size (by repeat (first | (with_reducible first | exact HB.out | apply zq2 | apply zq1 | apply zqd) | exact HB.out))) : w.heap.size ≤ gb153)); have n3_ := Az.mk ((by rw [hg]; exact (below_size (by repeat (first | (with_reducible first | exact HB.out | apply zq2 | apply zq1 | apply zqd) | exact HB.out))) : w.heap.size ≤ gb153)); clear HB; have HB := n0_; have BK153 := n1_; have GW153 := n2_; have GE153 := n3_; clear n0_ n1_ n2_ n3_; clear hb hbox hg) | ((with_reducible refine zqg (N := 3) rfl ?_); refine zqb ?hg (N := 3) ?hd (cs := #[.int .i64 a1_0, .int .i64 a1_1, .slice A1_2 l1_2.length c1_2]) (t := 29) ?hr ?_; (case hd => rfl); (case hg => rfl); (case hr => first | (go_simp; done) | (go_simp; rfl)); intro gb154 hg w20 hbox hb; have n0_ := Az.mk (blk_below (g := gb153) (o := .cells #[.int .i64 a0_0, .int .i64 a0_1, .slice A0_2 l0_2.length c0_2] 29 (0, 0)) (by (with_reducible repeat (first | refine zq6 ?_ _ | refine zq8 ?_ | refine zq7 ?_ _)); exact BK153.out) hb); have n1_ := Az.mk (below_step (by repeat (first | (with_reducible first | exact HB.out | apply zq2 | apply zq1 | apply zqd | refine zq3 ?_ GE153.out) | exact HB.out)) hb); have n2_ := Az.mk (hbox); have n3_ := Az.mk ((by rw [hg]; exact (below_size (by repeat (first | (with_reducible first | exact HB.out | apply zq2 | apply zq1 | apply zqd | refine zq3 ?_ GE153.out) | exact HB.out))) : w.heap.size ≤ gb154)); have n4_ := Az.mk ((by rw [hg]; exact (below_size (by repeat (first | (with_reducible first | exact HB.out | apply zq2 | apply zq1 | apply zqd | refine zq3 ?_ GE153.out) | exact HB.out))) : w.heap.size ≤ gb154)); have n5_ := Az.mk ((by rw [hg]; exact Nat.ne_of_lt (blk_lt (g := gb153) (o := .cells #[.int .i64 a0_0, .int .i64 a0_1, .slice A0_2 l0_2.length c0_2] 29 (0, 0)) (by (with_reducible repeat (first | refine zq6 ?_ _ | refine zq8 ?_ | refine zq7 ?_ _)); exact BK153.out)) : gb153 ≠ gb154)); have n6_ := Az.mk ((by rw [hg]; exact Nat.ne_of_gt (blk_lt (g := gb153) (o := .cells #[.int .i64 a0_0, .int .i64 a0_1, .slice A0_2 l0_2.length c0_2] 29 (0, 0)) (by (with_reducible repeat (first | refine zq6 ?_ _ | refine zq8 ?_ | refine zq7 ?_ _)); exact BK153.out)) : gb154 ≠ gb153)); clear BK153; clear HB; have BK153 := n0_; have HB := n1_; have BK154 := n2_; have GW154 := n3_; have GE154 := n4_; have NB153_154 := n5_; have NB154_153 := n6_; clear n0_ n1_ n2_ n3_ n4_ n5_ n6_; clear hb hbox hg; have hnb21 := NB153_154.out; have hnc21 := NB154_153.out; have hcz22_0 : w20.cell? ⟨gb153, 0, none⟩ = some (.int .i64 a0_0) := (zq4 BK153.out 0).trans rfl; have hcz22_1 : w20.cell? ⟨gb153, 1, none⟩ = some (.int .i64 a0_1) := (zq4 BK153.out 1).trans rfl; have hcz22_2 : w20.cell? ⟨gb153, 2, none⟩ = some (.slice A0_2 l0_2.length c0_2) := (zq4 BK153.out 2).trans rfl; have hfz22_0 := zq5 BK153.out 0; have hfz22_1 := zq5 BK153.out 1; have hfz22_2 := zq5 BK153.out 2; have hcz23_0 : w20.cell? ⟨gb154, 0, none⟩ = some (.int .i64 a1_0) := (zq4 BK154.out 0).trans rfl; have hcz23_1 : w20.cell? ⟨gb154, 1, none⟩ = some (.int .i64 a1_1) := (zq4 BK154.out 1).trans rfl; have hcz23_2 : w20.cell? ⟨gb154, 2, none⟩ = some (.slice A1_2 l1_2.length c1_2) := (zq4 BK154.out 2).trans rfl; have hfz23_0 := zq5 BK154.out 0; have hfz23_1 := zq5 BK154.out 1; have hfz23_2 := zq5 BK154.out 2))
   go_ret
   exact ⟨by first | rfl | (simp [errW_none, errW_some] <;> rfl) | (simp [*, errW_none, errW_some] <;> rfl), by repeat (first | (with_reducible first | exact HB.out | apply zq2 | apply zq1 | apply zqd | refine zq3 ?_ GE153.out | refine zq3 ?_ GE154.out) | exact HB.out)⟩
 ·rw [if_neg c3] at H
  have c3b0 : (a0_0 == a1_0) = false := beq_eq_false_iff_ne.mpr c3
  have c3b1 : (a0_0 != a1_0) = true := bne_iff_ne.mpr c3
  obtain rfl := Option.some.inj H
  go_enter Try.func21, Try.ntmps21
  go_wp2_with (first | ((with_reducible refine zqg (N := 2) rfl ?_); refine zqb ?hg (N := 2) ?hd (cs := #[.int .i64 a0_0, .int .i64 a0_1, .slice A0_2 l0_2.length c0_2]) (t := 29) ?hr ?_; (case hd => rfl); (case hg => rfl); (case hr => first | (go_simp; done) | (go_simp; rfl)); intro gb153 hg w24 hbox hb; have n0_ := Az.mk (below_step (by repeat (first | (with_reducible first | exact HB.out | apply zq2 | apply zq1 | apply zqd) | exact HB.out)) hb); have n1_ := Az.mk (hbox); have n2_ := Az.mk ((by rw [hg]; exact (below_size (by repeat (first | (with_reducible first | exact HB.out | apply zq2 | apply zq1 | apply zqd) | exact HB.out))) : w.heap.size ≤ gb153)); have n3_ := Az.mk ((by rw [hg]; exact (below_size (by repeat (first | (with_reducible first | exact HB.out | apply zq2 | apply zq1 | apply zqd) | exact HB.out))) : w.heap.size ≤ gb153)); clear HB; have HB := n0_; have BK153 := n1_; have GW153 := n2_; have GE153 := n3_; clear n0_ n1_ n2_ n3_; clear hb hbox hg) | ((with_reducible refine zqg (N := 3) rfl ?_); refine zqb ?hg (N := 3) ?hd (cs := #[.int .i64 a1_0, .int .i64 a1_1, .slice A1_2 l1_2.length c1_2]) (t := 29) ?hr ?_; (case hd => rfl); (case hg => rfl); (case hr => first | (go_simp; done) | (go_simp; rfl)); intro gb154 hg w25 hbox hb; have n0_ := Az.mk (blk_below (g := gb153) (o := .cells #[.int .i64 a0_0, .int .i64 a0_1, .slice A0_2 l0_2.length c0_2] 29 (0, 0)) (by (with_reducible repeat (first | refine zq6 ?_ _ | refine zq8 ?_ | refine zq7 ?_ _)); exact BK153.out) hb); have n1_ := Az.mk (below_step (by repeat (first | (with_reducible first | exact HB.out | apply zq2 | apply zq1 | apply zqd | refine zq3 ?_ GE153.out) | exact HB.out)) hb); have n2_ := Az.mk (hbox); have n3_ := Az.mk ((by rw [hg]; exact (below_size (by repeat (first | (with_reducible first | exact HB.out | apply zq2 | apply zq1 | apply zqd | refine zq3 ?_ GE153.out) | exact HB.out))) : w.heap.size ≤ gb154)); have n4_ := Az.mk ((by rw [hg]; exact (below_size (by repeat (first | (with_reducible first | exact HB.out | apply zq2 | apply zq1 | apply zqd | refine zq3 ?_ GE153.out) | exact HB.out))) : w.heap.size ≤ gb154)); have n5_ := Az.mk ((by rw [hg]; exact Nat.ne_of_lt (blk_lt (g := gb153) (o := .cells #[.int .i64 a0_0, .int .i64 a0_1, .slice A0_2 l0_2.length c0_2] 29 (0, 0)) (by (with_reducible repeat (first | refine zq6 ?_ _ | refine zq8 ?_ | refine zq7 ?_ _)); exact BK153.out)) : gb153 ≠ gb154)); have n6_ := Az.mk ((by rw [hg]; exact Nat.ne_of_gt (blk_lt (g := gb153) (o := .cells #[.int .i64 a0_0, .int .i64 a0_1, .slice A0_2 l0_2.length c0_2] 29 (0, 0)) (by (with_reducible repeat (first | refine zq6 ?_ _ | refine zq8 ?_ | refine zq7 ?_ _)); exact BK153.out)) : gb154 ≠ gb153)); clear BK153; clear HB; have BK153 := n0_; have HB := n1_; have BK154 := n2_; have GW154 := n3_; have GE154 := n4_; have NB153_154 := n5_; have NB154_153 := n6_; clear n0_ n1_ n2_ n3_ n4_ n5_ n6_; clear hb hbox hg; have hnb26 := NB153_154.out; have hnc26 := NB154_153.out; have hcz27_0 : w25.cell? ⟨gb153, 0, none⟩ = some (.int .i64 a0_0) := (zq4 BK153.out 0).trans rfl; have hcz27_1 : w25.cell? ⟨gb153, 1, none⟩ = some (.int .i64 a0_1) := (zq4 BK153.out 1).trans rfl; have hcz27_2 : w25.cell? ⟨gb153, 2, none⟩ = some (.slice A0_2 l0_2.length c0_2) := (zq4 BK153.out 2).trans rfl; have hfz27_0 := zq5 BK153.out 0; have hfz27_1 := zq5 BK153.out 1; have hfz27_2 := zq5 BK153.out 2; have hcz28_0 : w25.cell? ⟨gb154, 0, none⟩ = some (.int .i64 a1_0) := (zq4 BK154.out 0).trans rfl; have hcz28_1 : w25.cell? ⟨gb154, 1, none⟩ = some (.int .i64 a1_1) := (zq4 BK154.out 1).trans rfl; have hcz28_2 : w25.cell? ⟨gb154, 2, none⟩ = some (.slice A1_2 l1_2.length c1_2) := (zq4 BK154.out 2).trans rfl; have hfz28_0 := zq5 BK154.out 0; have hfz28_1 := zq5 BK154.out 1; have hfz28_2 := zq5 BK154.out 2))
  go_ret
  exact ⟨by first | rfl | (simp [errW_none, errW_some] <;> rfl) | (simp [*, errW_none, errW_some] <;> rfl), by repeat (first | (with_reducible first | exact HB.out | apply zq2 | apply zq1 | apply zqd | refine zq3 ?_ GE153.out | refine zq3 ?_ GE154.out) | exact HB.out)⟩
end Go.Proofs.Ytkoimmeghdbodaa.Print
