/- Proved, with what follows on it: the row of the law FnDiskSpoil. Conditions: the row's alone. Texts of this session and words that the kit's print laid for this seat, merged and cut by shrink.py, a program of this session. -/
import Derived.Laws.BytesArg
import Derived.Lib.ConvBytes
import Derived.Lib.Hide
import Derived.Test.YtkgpnloghmbmlaaZFnDiskSpoilE
namespace Go.Proofs.Ytkgpnloghmbmlaa.Print
open Go.RowKit Go.Proofs.YtkgpnloghmbmlaaW.PrintWords Go.Proofs.YtkgpnloghmbmlaaW.PrintLast Go.Proofs.YtkgpnloghmbmlaaW.PrintMore
attribute [local go_sem] max2_int min2_int max_two min_two max_three min_three max_four min_four   -- for this text's walks alone
set_option linter.unusedVariables false
set_option linter.unusedSimpArgs false
def spec_l71Text.l0 : Nat → List Int → Int → List Int → Int → Option (ByteArray × Int)
 | 0, _, _, _, _ => none
 | k + 1, x5, x6, x1000, x1001 => if x6 > 0 then ((some (([97, 98, 122, 0, 255, 128] : List Int) : List Int)).bind fun y831 => ((spec_l6Rd_pick.f k x1000 x1001 6).bind fun bt834 => (if 0 ≤ bt834.1 then (if bt834.1 < (y831.length : Int) then ((spec_l6Rd_pick.f k x1000 bt834.2 3).bind fun bt837 => (if x5.length < 140737488355328 then (spec_l71Text.l0 k (x5 ++ [((rd y831 bt834.1) + ((bt837.1) % 256)) % 256]) (wrap64 (x6 - 1)) x1000 bt837.2) else (none))) else (none)) else (none)))) else (some (strOfNums x5, x1001))
def spec_l71Text.f (k : Nat) (s0_0 : List Int) (s0_1 : Int) (a1 : Int) : Option (ByteArray × Int) := (spec_l6Rd_pick.f k s0_0 s0_1 (wrap64 (a1 + 1))).bind fun bt829 => (spec_l71Text.l0 k (([] : List Int)) bt829.1 s0_0 bt829.2)
def spec_l71Text.T5 : Bool × List (List Nat × List Nat) := (true, [([], []), ([], []), ([], []), ([2], [2]), ([1, 3], [1, 3]), ([4], [4]), ([], []), ([6, 3], [6]), ([7], [7]), ([5, 8], [5, 8]), ([9], [9]), ([0, 10, 7], [0, 10]), ([11, 11, 0, 1, 2, 3, 4, 5, 6, 7, 8, 9, 10, 11], [0, 11])])
def spec_l71Text.B5 : List Nat := [0, 0, 0, 4, 14, 30, 0, 76, 204, 510, 1022, 2047, 4095]
theorem spec_l71Text.tab5 : rtab .any (opsOf Try.f102 5) = spec_l71Text.T5 := by kernel_rfl
theorem spec_l71Text.bits5 : waitsOk spec_l71Text.T5.2 spec_l71Text.B5 = true := by kernel_rfl
set_option maxHeartbeats 8000000 in
set_option maxRecDepth 100000 in
theorem spec_l71Text.calls (k : Nat) (g : Nat) (s0_0 : List Int) (s0_1 : Int) (a1 : Int) (r1 : ByteArray) (r2 : Int) (w0 w : World) (hI : IsS104 w0 w g s0_0 s0_1) (hB : Below w0.heap.size w0 w) (h : spec_l71Text.f k s0_0 s0_1 a1 = some (r1, r2)) :
  Calls Try.prog 102 #[.pointer (some ⟨g, 0, none⟩), .int .i64 a1] w fun e w' => e = .returned (.string r1) ∧ IsS104 w0 w' g s0_0 r2 ∧ Below w0.heap.size w0 w' ∧ KeepBut w w' g none := by
 have HI0 := Az.mk hI
 have HK := Az.mk (KeepBut.refl w g none)
 have HL := Az.mk hB.size
 clear hI
 have HW0 := Az.mk hB.size
 have HB := Az.mk hB
 clear hB
 have H : ((spec_l6Rd_pick.f k s0_0 s0_1 (wrap64 (a1 + 1))).bind fun bt829 => (spec_l71Text.l0 k (([] : List Int)) bt829.1 s0_0 bt829.2)) = some (r1, r2) := h
 clear h
 obtain ⟨y826, hy826⟩ : ∃ y_ : List Int, y_ = (([] : List Int)) := ⟨_, rfl⟩
 replace H : ((spec_l6Rd_pick.f k s0_0 s0_1 (wrap64 (a1 + 1))).bind fun bt829 => (spec_l71Text.l0 k y826 bt829.1 s0_0 bt829.2)) = some (r1, r2) := by first | (rw [hy826]; with_reducible exact H) | (have H2_ := (Option.bind_some _ _).symm.trans H; rw [hy826]; with_reducible exact H2_) | (have H2_ := (Option.bind_some _ _).symm.trans H; with_reducible exact H2_) | with_reducible exact H | (rw [hy826]; exact H) | exact H
 have Ny826 := Az.mk hy826
 clear hy826
 replace H := Option.bind_eq_some_iff.mp H
 obtain ⟨⟨t829, t830⟩, A30, H⟩ := H
 replace H : (spec_l71Text.l0 k y826 t829 s0_0 t830) = some (r1, r2) := H
 have A3 := Az.mk A30
 clear A30
 have H' := Az.mk H
 clear H
 go_enter Try.func102, Try.ntmps102
 go_wp2_with (first | ((with_reducible refine zqg (N := 7) rfl ?_); refine Kd.R_lit (Kd.int .u8) _ 5 ?hg (N := 7) ?hd (xs := ([] : List Int)) (inner := []) (ok := fun _ => True) (okp := fun _ => True) ?hr ?hp (fun _ hk => hk) trivial (Below.refl _ _) (Nat.le_refl _) (by simp) ?_; (case hd => rfl); (case hg => rfl); (case hr => first | (go_simp; done) | (go_simp; rfl)); (case hp => exact (Reps.none _ _)); intro v827 w4 ho5 hb hg_ hnew_; clear hg_ hnew_; (first | rw [← Ny826.out] at ho5 | (simp only [Int.reduceToNat] at ho5; rw [← Ny826.out] at ho5)); have n0_ := Az.mk (Kd.R_lower ho5 (keep_size (w := w) (g := g) (row := none) (by repeat (first | (with_reducible first | exact HK.out | apply KeepBut.set_ | apply keep_drewN | apply keep_drew | apply keep_alloc) | exact HK.out)))); have n1_ := Az.mk (IsS104.below (by repeat (first | (with_reducible first | exact HI0.out | apply IsS104.alloc | apply IsS104.drewN | apply IsS104.drew | apply IsS104.set_1) | exact HI0.out)) hb); have n2_ := Az.mk (KeepBut.trans (by repeat (first | (with_reducible first | exact HK.out | apply KeepBut.set_ | apply keep_drewN | apply keep_drew | apply keep_alloc) | exact HK.out)) (KeepBut.of_below hb g none) (.inl rfl)); have n3_ := Az.mk (below_step (by repeat (first | (with_reducible first | exact HB.out | apply zq2 | apply zq1 | apply zqd | refine zq3 ?_ (IsS104.ge HI0.out)) | exact HB.out)) hb); clear HI0; clear HK; clear HB; have HO828 := n0_; have HI0 := n1_; have HK := n2_; have HB := n3_; clear n0_ n1_ n2_ n3_; clear hb ho5) | ((with_reducible refine gate_callee (f := 48) rfl ?_); refine zq9 (some 11) rfl rfl Try.func48 (by kernel_rfl) rfl #[.pointer (some ⟨g, 0, none⟩), .int .i64 (wrap64 (a1 + 1))] rfl (by (try simp only [List.map_toArray, List.map_cons, List.map_nil]); first | done | rfl | (simp only [List.length_drop, List.length_take]; rfl)) ?_; (with_reducible refine (spec_l6Rd_pick.calls k g s0_0 s0_1 (wrap64 (a1 + 1)) t829 t830 w0 _ ?side1 ?side2 A3.out).mono ?_); (case side1 => repeat (first | (with_reducible first | exact HI0.out | apply IsS104.alloc | apply IsS104.drewN | apply IsS104.drew | apply IsS104.set_1) | exact HI0.out)); (case side2 => repeat (first | (with_reducible first | exact HB.out | apply zq2 | apply zq1 | apply zqd | refine zq3 ?_ (IsS104.ge HI0.out)) | exact HB.out)); rintro e w6 ⟨rfl, hi, hb, hk⟩; refine ⟨_, rfl, ?_⟩; have n0_ := Az.mk (Kd.R_mono (Kd.R_keep (IsS104.apart (show IsS104 w0 _ g s0_0 s0_1 from by repeat (first | (with_reducible first | exact HI0.out | apply IsS104.alloc | apply IsS104.drewN | apply IsS104.drew | apply IsS104.set_1) | exact HI0.out)) (by (with_reducible repeat (first | apply Kd.R_alloc | apply Kd.R_drewN | apply Kd.R_drew)); exact HO828.out) (by decide)) hk (fun _ h => h.2)) (fun _ h => h.1)); have n1_ := Az.mk (KeepBut.trans (by repeat (first | (with_reducible first | exact HK.out | apply KeepBut.set_ | apply keep_drewN | apply keep_drew | apply keep_alloc) | exact HK.out)) hk (.inl rfl)); have n2_ := Az.mk (hb); have n3_ := Az.mk (hi); clear HO828; clear HK; clear HB; clear HI0; have HO828 := n0_; have HK := n1_; have HB := n2_; have HI0 := n3_; clear n0_ n1_ n2_ n3_; (try clear hb); (try clear hb2); (try clear hk); (try clear hi)))
 go_loopg [5, 6] k (fun kq v5 v6 w' => ∃ (x5_1 : List Int) (x6_1 : Int) (x1001_1 : Int), v6 = .int .i64 x6_1 ∧ Az (spec_l71Text.l0 kq x5_1 x6_1 s0_0 x1001_1 = some (r1, r2)) ∧ Az (kq ≤ k) ∧ Az (Kd.R (Kd.int .u8) 5 w' w.heap.size (fun _ => True) v5 x5_1) ∧ Az (IsS104 w0 w' g s0_0 x1001_1) ∧ Az (KeepBut w w' g none) ∧ Az (Below w0.heap.size w0 w'))
 case atStart => exact ⟨(y826), (t829), (t830), (by first | rfl | (simp; done) | (simp [*]; done)), H', ⟨Nat.le_refl _⟩, ⟨by (with_reducible repeat (first | apply Kd.R_alloc | apply Kd.R_drewN | apply Kd.R_drew)); exact HO828.out⟩, ⟨by repeat (first | (with_reducible first | exact HI0.out | apply IsS104.alloc | apply IsS104.drewN | apply IsS104.drew | apply IsS104.set_1) | exact HI0.out)⟩, ⟨by repeat (first | (with_reducible first | exact HK.out | apply KeepBut.set_ | apply keep_drewN | apply keep_drew | apply keep_alloc) | exact HK.out)⟩, ⟨by repeat (first | (with_reducible first | exact HB.out | apply zq2 | apply zq1 | apply zqd | refine zq3 ?_ (IsS104.ge HI0.out)) | exact HB.out)⟩⟩
 case round =>
  clear H'
  try clear c1
  try clear p2
  try clear c4
  try clear p6
  obtain ⟨x5_1, x6_1, x1001_1, rfl, HA, HK1, HO_5, HI0, HK, HB⟩ := hrel
  cases gk with
  | zero => exact absurd HA.out (by simp [spec_l71Text.l0])
  | succ k1 =>
   have H := HA.out
   clear HA
   simp only [spec_l71Text.l0] at H
   by_cases c7 : x6_1 > 0
   ·rw [if_pos c7] at H
    have c7b0 : decide (0 < x6_1) = true := decide_eq_true c7
    clear c7
    obtain ⟨y831, hy831⟩ : ∃ y_ : List Int, y_ = (([97, 98, 122, 0, 255, 128] : List Int)) := ⟨_, rfl⟩
    replace H : ((spec_l6Rd_pick.f k1 s0_0 x1001_1 6).bind fun bt834 => (if 0 ≤ bt834.1 then (if bt834.1 < (y831.length : Int) then ((spec_l6Rd_pick.f k1 s0_0 bt834.2 3).bind fun bt837 => (if x5_1.length < 140737488355328 then (spec_l71Text.l0 k1 (x5_1 ++ [((rd y831 bt834.1) + ((bt837.1) % 256)) % 256]) (wrap64 (x6_1 - 1)) s0_0 bt837.2) else (none))) else (none)) else (none))) = some (r1, r2) := by first | (rw [hy831]; with_reducible exact H) | (have H2_ := (Option.bind_some _ _).symm.trans H; rw [hy831]; with_reducible exact H2_) | (have H2_ := (Option.bind_some _ _).symm.trans H; with_reducible exact H2_) | with_reducible exact H | (rw [hy831]; exact H) | exact H
    have Ny831 := Az.mk hy831
    clear hy831
    replace H := Option.bind_eq_some_iff.mp H
    obtain ⟨⟨t834, t835⟩, A80, H⟩ := H
    replace H : (if 0 ≤ t834 then (if t834 < (y831.length : Int) then ((spec_l6Rd_pick.f k1 s0_0 t835 3).bind fun bt837 => (if x5_1.length < 140737488355328 then (spec_l71Text.l0 k1 (x5_1 ++ [((rd y831 t834) + ((bt837.1) % 256)) % 256]) (wrap64 (x6_1 - 1)) s0_0 bt837.2) else (none))) else (none)) else (none)) = some (r1, r2) := H
    have A8 := Az.mk A80
    clear A80
    by_cases c9 : 0 ≤ t834
    ·rw [if_pos c9] at H
     have c9b0 : decide (0 ≤ t834) = true := decide_eq_true c9
     clear c9
     by_cases c10 : t834 < (y831.length : Int)
     ·rw [if_pos c10] at H
      have c10b0 : decide (t834 < (y831.length : Int)) = true := decide_eq_true c10
      clear c10
      replace H := Option.bind_eq_some_iff.mp H
      obtain ⟨⟨t837, t838⟩, A110, H⟩ := H
      replace H : (if x5_1.length < 140737488355328 then (spec_l71Text.l0 k1 (x5_1 ++ [((rd y831 t834) + ((t837) % 256)) % 256]) (wrap64 (x6_1 - 1)) s0_0 t838) else (none)) = some (r1, r2) := H
      have A11 := Az.mk A110
      clear A110
      by_cases c12 : x5_1.length < 140737488355328
      ·rw [if_pos c12] at H
       have LMc12 := Az.mk c12
       clear c12
       obtain ⟨y839, hy839⟩ : ∃ y_ : List Int, y_ = (x5_1 ++ [((rd y831 t834) + ((t837) % 256)) % 256]) := ⟨_, rfl⟩
       replace H : (spec_l71Text.l0 k1 y839 (wrap64 (x6_1 - 1)) s0_0 t838) = some (r1, r2) := by first | (rw [hy839]; with_reducible exact H) | (have H2_ := (Option.bind_some _ _).symm.trans H; rw [hy839]; with_reducible exact H2_) | (have H2_ := (Option.bind_some _ _).symm.trans H; with_reducible exact H2_) | with_reducible exact H | (rw [hy839]; exact H) | exact H
       have Ny839 := Az.mk hy839
       clear hy839
       have H' := Az.mk H
       clear H
       obtain ⟨Ao13, co13, eo13⟩ := Kd.R_slice HO_5.out
       subst eo13
       try go_wp2
       have pi836 : (0 ≤ (t834 : Int)) = True := eq_true (of_decide_eq_true (by first | (with_reducible assumption) | assumption))
       have qi836 : (t834 < (y831.length : Int)) = True := eq_true (of_decide_eq_true (by first | (with_reducible assumption) | assumption))
       have n0_ := Az.mk (Kd.R_drew HO_5.out)
       have n1_ := Az.mk (IsS104.drew HI0.out)
       have n2_ := Az.mk (keep_drew HK.out)
       have n3_ := Az.mk (zqd HB.out)
       clear HO_5
       clear HI0
       clear HK
       clear HB
       have HO_5 := n0_
       have HI0 := n1_
       have HK := n2_
       have HB := n3_
       clear n0_ n1_ n2_ n3_
       refine start_ (n := 13) (S := fun w' => True) (ds := []) #[false, false, false, false, false, false, false, false, false, false, false, false, false] (by kernel_rfl) rfl rfl trivial (fun hHeld => ?_); refine with_tabW spec_l71Text.tab5 spec_l71Text.bits5 (fun HT_ HW_ => ?_)
       generalize wr.drew = w14 at HO_5 HI0 HK HB hHeld ⊢
       refine zqp (i := 0) (N := some 16) (v := ?_) (a' := ?_) #[true, false, false, false, false, false, false, false, false, false, false, false, false] rfl rfl (any_of HT_.out (by kernel_rfl)) (fun _ _ _ h => h) (Or.inl ⟨by rfl, ?_⟩) ?_ ?_
       rotate_left
       ·intro w'
        go_simp
        with_reducible rfl
       rotate_left
       ·simp only [Act.put, List.setIfInBounds_toArray, List.set_cons_zero, List.set_cons_succ, i64_w, i32_w]
        rfl
       refine zqp (i := 2) (N := some 18) (v := ?_) (a' := ?_) #[true, false, true, false, false, false, false, false, false, false, false, false, false] rfl rfl (any_of HT_.out (by kernel_rfl)) (fun _ _ _ h => h) (Or.inl ⟨by rfl, ?_⟩) ?_ ?_
       rotate_left
       ·intro w'
        go_simp
        with_reducible rfl
       rotate_left
       ·simp only [Act.put, List.setIfInBounds_toArray, List.set_cons_zero, List.set_cons_succ, i64_w, i32_w]
        rfl
       refine zqp (i := 6) (N := some 22) (v := ?_) (a' := ?_) #[true, false, true, false, false, false, true, false, false, false, false, false, false] rfl rfl (any_of HT_.out (by kernel_rfl)) (fun _ _ _ h => h) (Or.inl ⟨by rfl, ?_⟩) ?_ ?_
       rotate_left
       ·intro w'
        go_simp
        with_reducible rfl
       rotate_left
       ·simp only [Act.put, List.setIfInBounds_toArray, List.set_cons_zero, List.set_cons_succ, i64_w, i32_w]
        rfl
       refine join_ (σ := Value × Addr) 4 #[true, true, true, true, true, true, true, true, true, false, false, false, false] (fun s_ => [(17, s_.1), (19, .int .i64 t834), (21, .int .u8 (rd y831 t834)), (23, .int .i64 t837), (20, .pointer (some (s_.2.add (t834).toNat))), (24, .int .u8 ((t837) % 256))]) (fun s_ w' => (Kd.R (Kd.int .u8) 5 w' w.heap.size (fun k_ => some k_ ≠ (.slice Ao13 x5_1.length co13 : Value).ownBlock) s_.1 y831) ∧ (Kd.R (Kd.int .u8) 5 w' w.heap.size (fun k_ => some k_ ≠ (s_.1 : Value).ownBlock) (.slice Ao13 x5_1.length co13) x5_1) ∧ (∃ c_, (s_.1 : Value) = .slice (some s_.2) y831.length c_) ∧ (IsS104 w0 w' g s0_0 t838) ∧ (KeepBut w w' g none) ∧ (Below w0.heap.size w0 w')) ?_ ?_
       rotate_left
       ·intro hJ1_3_5_7
        refine join_ (σ := Value × Addr) 6 #[true, true, true, true, true, true, true, false, false, false, false, false, false] (fun s_ => [(17, s_.1), (19, .int .i64 t834), (21, .int .u8 (rd y831 t834)), (20, .pointer (some (s_.2.add (t834).toNat)))]) (fun s_ w' => (Kd.R (Kd.int .u8) 5 w' w.heap.size (fun k_ => some k_ ≠ (.slice Ao13 x5_1.length co13 : Value).ownBlock) s_.1 y831) ∧ (Kd.R (Kd.int .u8) 5 w' w.heap.size (fun k_ => some k_ ≠ (s_.1 : Value).ownBlock) (.slice Ao13 x5_1.length co13) x5_1) ∧ (∃ c_, (s_.1 : Value) = .slice (some s_.2) y831.length c_) ∧ (IsS104 w0 w' g s0_0 t835) ∧ (KeepBut w w' g none) ∧ (Below w0.heap.size w0 w')) ?_ ?_
        rotate_left
        ·intro hJ1_3_5
         refine join_ (σ := Value × Addr) 5 #[true, true, true, true, true, false, true, true, true, false, false, false, false] (fun s_ => [(17, s_.1), (19, .int .i64 t834), (23, .int .i64 t837), (20, .pointer (some (s_.2.add (t834).toNat))), (24, .int .u8 ((t837) % 256))]) (fun s_ w' => (Kd.R (Kd.int .u8) 5 w' w.heap.size (fun k_ => some k_ ≠ (.slice Ao13 x5_1.length co13 : Value).ownBlock) s_.1 y831) ∧ (Kd.R (Kd.int .u8) 5 w' w.heap.size (fun k_ => some k_ ≠ (s_.1 : Value).ownBlock) (.slice Ao13 x5_1.length co13) x5_1) ∧ (∃ c_, (s_.1 : Value) = .slice (some s_.2) y831.length c_) ∧ (IsS104 w0 w' g s0_0 t838) ∧ (KeepBut w w' g none) ∧ (Below w0.heap.size w0 w')) ?_ ?_
         rotate_left
         ·intro hJ1_3_7
          refine join_ (σ := Value × Addr) 7 #[true, true, true, true, true, false, true, false, false, false, false, false, false] (fun s_ => [(17, s_.1), (19, .int .i64 t834), (20, .pointer (some (s_.2.add (t834).toNat)))]) (fun s_ w' => (Kd.R (Kd.int .u8) 5 w' w.heap.size (fun k_ => some k_ ≠ (.slice Ao13 x5_1.length co13 : Value).ownBlock) s_.1 y831) ∧ (Kd.R (Kd.int .u8) 5 w' w.heap.size (fun k_ => some k_ ≠ (s_.1 : Value).ownBlock) (.slice Ao13 x5_1.length co13) x5_1) ∧ (∃ c_, (s_.1 : Value) = .slice (some s_.2) y831.length c_) ∧ (IsS104 w0 w' g s0_0 t835) ∧ (KeepBut w w' g none) ∧ (Below w0.heap.size w0 w')) ?_ ?_
          rotate_left
          ·intro hJ1_3
           refine join_ (σ := Unit) 7 #[true, false, true, true, false, false, true, true, true, false, false, false, false] (fun s_ => [(19, .int .i64 t834), (23, .int .i64 t837), (24, .int .u8 ((t837) % 256))]) (fun s_ w' => (Kd.R (Kd.int .u8) 5 w' w.heap.size (fun _ => True) (.slice Ao13 x5_1.length co13) x5_1) ∧ (IsS104 w0 w' g s0_0 t838) ∧ (KeepBut w w' g none) ∧ (Below w0.heap.size w0 w')) ?_ ?_
           rotate_left
           ·intro hJ3_7
            refine join_ (σ := Value × Addr) 9 #[true, true, true, false, false, false, true, false, false, false, false, false, false] (fun s_ => [(17, s_.1)]) (fun s_ w' => (Kd.R (Kd.int .u8) 5 w' w.heap.size (fun k_ => some k_ ≠ (.slice Ao13 x5_1.length co13 : Value).ownBlock) s_.1 y831) ∧ (Kd.R (Kd.int .u8) 5 w' w.heap.size (fun k_ => some k_ ≠ (s_.1 : Value).ownBlock) (.slice Ao13 x5_1.length co13) x5_1) ∧ (∃ c_, (s_.1 : Value) = .slice (some s_.2) y831.length c_) ∧ (IsS104 w0 w' g s0_0 x1001_1) ∧ (KeepBut w w' g none) ∧ (Below w0.heap.size w0 w')) ?_ ?_
            rotate_left
            ·intro hJ1
             refine join_ (σ := Unit) 9 #[true, false, true, true, false, false, true, false, false, false, false, false, false] (fun s_ => [(19, .int .i64 t834)]) (fun s_ w' => (Kd.R (Kd.int .u8) 5 w' w.heap.size (fun _ => True) (.slice Ao13 x5_1.length co13) x5_1) ∧ (IsS104 w0 w' g s0_0 t835) ∧ (KeepBut w w' g none) ∧ (Below w0.heap.size w0 w')) ?_ ?_
             rotate_left
             ·intro hJ3
              refine two_ (i := 1) (j := 3) (Ni := some 17) (Nj := some 19) #[true, true, true, false, false, false, true, false, false, false, false, false, false] #[true, false, true, true, false, false, true, false, false, false, false, false, false] rfl rfl rfl rfl (two_of HT_.out (by kernel_rfl)) (by decide) (by decide) (fun K hK => ?_) (fun K hK => ?_)
              ·skip
               refine Kd.R_lit_step (Kd.int .u8) _ 5 ?hg (N := 17) ?hd (xs := ([97, 98, 122, 0, 255, 128] : List Int)) (inner := [.int .u8 97, .int .u8 98, .int .u8 122, .int .u8 0, .int .u8 255, .int .u8 128]) (ok := fun _ => True) (okp := fun _ => True) ?hr ?hp (fun _ hk => hk) trivial (Below.refl _ _) (Nat.le_refl _) (by simp) ?_; (case hd => rfl); (case hg => rfl); (case hr => first | (go_simp; done) | (go_simp; rfl)); (case hp => exact (Reps.one (show Kd.M (Kd.int .u8) _ _ _ 97 [.int .u8 97] from rfl) (Reps.one (show Kd.M (Kd.int .u8) _ _ _ 98 [.int .u8 98] from rfl) (Reps.one (show Kd.M (Kd.int .u8) _ _ _ 122 [.int .u8 122] from rfl) (Reps.one (show Kd.M (Kd.int .u8) _ _ _ 0 [.int .u8 0] from rfl) (Reps.one (show Kd.M (Kd.int .u8) _ _ _ 255 [.int .u8 255] from rfl) (Reps.one (show Kd.M (Kd.int .u8) _ _ _ 128 [.int .u8 128] from rfl) (Reps.none _ _))))))))
               intro v832 w15 ho16 hb hg_ hnew_
               clear hg_ hnew_
               (first | rw [← Ny831.out] at ho16 | (simp only [Int.reduceToNat] at ho16; rw [← Ny831.out] at ho16))
               have n0_ := Az.mk (Kd.R_elder' (by (with_reducible repeat (first | apply Kd.R_alloc | apply Kd.R_drewN | apply Kd.R_drew)); exact HO_5.out) (Kd.R_base ho16) hb)
               have n1_ := Az.mk (Kd.R_lower (Kd.R_new' ho16 (Kd.R_lt (by (with_reducible repeat (first | apply Kd.R_alloc | apply Kd.R_drewN | apply Kd.R_drew)); exact HO_5.out))) (keep_size (w := w) (g := g) (row := none) (by repeat (first | (with_reducible first | exact HK.out | apply KeepBut.set_ | apply keep_drewN | apply keep_drew | apply keep_alloc) | exact HK.out))))
               have n2_ := Az.mk (IsS104.below (by repeat (first | (with_reducible first | exact HI0.out | apply IsS104.alloc | apply IsS104.drewN | apply IsS104.drew | apply IsS104.set_1) | exact HI0.out)) hb)
               have n3_ := Az.mk (KeepBut.trans (by repeat (first | (with_reducible first | exact HK.out | apply KeepBut.set_ | apply keep_drewN | apply keep_drew | apply keep_alloc) | exact HK.out)) (KeepBut.of_below hb g none) (.inl rfl))
               have n4_ := Az.mk (below_step (by repeat (first | (with_reducible first | exact HB.out | apply zq2 | apply zq1 | apply zqd | refine zq3 ?_ (IsS104.ge HI0.out)) | exact HB.out)) hb)
               clear HO_5
               clear HI0
               clear HK
               clear HB
               have HO_5 := n0_
               have HO833 := n1_
               have HI0 := n2_
               have HK := n3_
               have HB := n4_
               clear n0_ n1_ n2_ n3_ n4_
               clear hb ho16
               obtain ⟨Ao17, co17, eo17⟩ := Kd.R_slice HO833.out
               subst eo17
               obtain ⟨ado17, fo17, _⟩ := Kd.at_int (Kd.R_reads' HO833.out).2.2 0 (by decide) (by rw [Ny831.out]; simp)
               cases fo17
               refine hK.out _ _ trivial (fun hHeld => ?_)
               clear hK K
               refine norm_ (a' := ?_) ?_ ?_
               rotate_left
               ·show Act.put _ (some 17) _ = _
                simp only [Act.put, List.setIfInBounds_toArray, List.set_cons_zero, List.set_cons_succ, i64_w, i32_w]
                rfl
               exact norm_ (by first | (simp only [putAll, Act.put, List.setIfInBounds_toArray, List.set_cons_zero, List.set_cons_succ]; done) | (simp only [putAll, Act.put, List.setIfInBounds_toArray, List.set_cons_zero, List.set_cons_succ]; rfl)) (hJ1 (.slice (some ado17) y831.length co17, ado17) _ ⟨(by (with_reducible repeat (first | apply Kd.R_alloc | apply Kd.R_drewN | apply Kd.R_drew)); exact Kd.R_mono HO833.out (fun _ hk => hk.2)), (by (with_reducible repeat (first | apply Kd.R_alloc | apply Kd.R_drewN | apply Kd.R_drew)); exact Kd.R_mono HO_5.out (fun _ hk => hk.2)), ⟨_, rfl⟩, (by repeat (first | (with_reducible first | exact HI0.out | apply IsS104.alloc | apply IsS104.drewN | apply IsS104.drew | apply IsS104.set_1) | exact HI0.out)), (by repeat (first | (with_reducible first | exact HK.out | apply KeepBut.set_ | apply keep_drewN | apply keep_drew | apply keep_alloc) | exact HK.out)), (by repeat (first | (with_reducible first | exact HB.out | apply zq2 | apply zq1 | apply zqd | refine zq3 ?_ (IsS104.ge HI0.out)) | exact HB.out))⟩)
              ·skip
               refine goes_ Try.func48 (by kernel_rfl) rfl #[.pointer (some ⟨g, 0, none⟩), .int .i64 6] (by rfl) rfl rfl (by (try simp only [List.map_toArray, List.map_cons, List.map_nil]); first | done | rfl | (simp only [List.length_drop, List.length_take]; rfl)) ?_
               with_reducible refine (spec_l6Rd_pick.calls k1 g s0_0 x1001_1 6 t834 t835 w0 _ ?side1 ?side2 A8.out).mono ?_
               (case side1 => repeat (first | (with_reducible first | exact HI0.out | apply IsS104.alloc | apply IsS104.drewN | apply IsS104.drew | apply IsS104.set_1) | exact HI0.out))
               (case side2 => repeat (first | (with_reducible first | exact HB.out | apply zq2 | apply zq1 | apply zqd | refine zq3 ?_ (IsS104.ge HI0.out)) | exact HB.out))
               rintro e w15 ⟨rfl, hi, hb, hk⟩
               refine ⟨_, rfl, ?_⟩
               have n0_ := Az.mk (Kd.R_mono (Kd.R_keep (IsS104.apart (show IsS104 w0 _ g s0_0 x1001_1 from by repeat (first | (with_reducible first | exact HI0.out | apply IsS104.alloc | apply IsS104.drewN | apply IsS104.drew | apply IsS104.set_1) | exact HI0.out)) (by (with_reducible repeat (first | apply Kd.R_alloc | apply Kd.R_drewN | apply Kd.R_drew)); exact HO_5.out) (by decide)) hk (fun _ h => h.2)) (fun _ h => h.1))
               have n1_ := Az.mk (KeepBut.trans (by repeat (first | (with_reducible first | exact HK.out | apply KeepBut.set_ | apply keep_drewN | apply keep_drew | apply keep_alloc) | exact HK.out)) hk (.inl rfl))
               have n2_ := Az.mk (hb)
               have n3_ := Az.mk (hi)
               clear HO_5
               clear HK
               clear HB
               clear HI0
               have HO_5 := n0_
               have HK := n1_
               have HB := n2_
               have HI0 := n3_
               clear n0_ n1_ n2_ n3_
               (try clear hb)
               (try clear hb2)
               (try clear hk)
               (try clear hi)
               refine hK.out _ _ trivial (fun hHeld => ?_)
               clear hK K
               refine norm_ (a' := ?_) ?_ ?_
               rotate_left
               ·show Act.put _ (some 19) _ = _
                simp only [Act.put, List.setIfInBounds_toArray, List.set_cons_zero, List.set_cons_succ, i64_w, i32_w]
                rfl
               exact norm_ (by first | (simp only [putAll, Act.put, List.setIfInBounds_toArray, List.set_cons_zero, List.set_cons_succ]; done) | (simp only [putAll, Act.put, List.setIfInBounds_toArray, List.set_cons_zero, List.set_cons_succ]; rfl)) (hJ3 () _ ⟨(by (with_reducible repeat (first | apply Kd.R_alloc | apply Kd.R_drewN | apply Kd.R_drew)); exact HO_5.out), (by repeat (first | (with_reducible first | exact HI0.out | apply IsS104.alloc | apply IsS104.drewN | apply IsS104.drew | apply IsS104.set_1) | exact HI0.out)), (by repeat (first | (with_reducible first | exact HK.out | apply KeepBut.set_ | apply keep_drewN | apply keep_drew | apply keep_alloc) | exact HK.out)), (by repeat (first | (with_reducible first | exact HB.out | apply zq2 | apply zq1 | apply zqd | refine zq3 ?_ (IsS104.ge HI0.out)) | exact HB.out))⟩)
             ·skip
              rintro _ w16 ⟨h0_, h1_, h2_, h3_⟩
              have n0_ : Az (Kd.R (Kd.int .u8) 5 w16 w.heap.size (fun _ => True) (.slice Ao13 x5_1.length co13) x5_1) := ⟨h0_⟩
              have n1_ : Az (IsS104 w0 w16 g s0_0 t835) := ⟨h1_⟩
              have n2_ : Az (KeepBut w w16 g none) := ⟨h2_⟩
              have n3_ : Az (Below w0.heap.size w0 w16) := ⟨h3_⟩
              clear HO_5
              clear HI0
              clear HK
              clear HB
              clear h0_ h1_ h2_ h3_
              have HO_5 := n0_
              have HI0 := n1_
              have HK := n2_
              have HB := n3_
              clear n0_ n1_ n2_ n3_
              have hHeld := trivial
              refine norm_ (a' := ?_) ?_ ?_
              rotate_left
              ·simp only [putAll, Act.put, List.setIfInBounds_toArray, List.set_cons_zero, List.set_cons_succ]
               rfl
              refine two_ (i := 1) (j := 7) (Ni := some 17) (Nj := some 23) #[true, true, true, true, false, false, true, false, false, false, false, false, false] #[true, false, true, true, false, false, true, true, false, false, false, false, false] rfl rfl rfl rfl (two_of HT_.out (by kernel_rfl)) (by decide) (by decide) (fun K hK => ?_) (fun K hK => ?_)
              ·skip
               refine Kd.R_lit_step (Kd.int .u8) _ 5 ?hg (N := 17) ?hd (xs := ([97, 98, 122, 0, 255, 128] : List Int)) (inner := [.int .u8 97, .int .u8 98, .int .u8 122, .int .u8 0, .int .u8 255, .int .u8 128]) (ok := fun _ => True) (okp := fun _ => True) ?hr ?hp (fun _ hk => hk) trivial (Below.refl _ _) (Nat.le_refl _) (by simp) ?_; (case hd => rfl); (case hg => rfl); (case hr => first | (go_simp; done) | (go_simp; rfl)); (case hp => exact (Reps.one (show Kd.M (Kd.int .u8) _ _ _ 97 [.int .u8 97] from rfl) (Reps.one (show Kd.M (Kd.int .u8) _ _ _ 98 [.int .u8 98] from rfl) (Reps.one (show Kd.M (Kd.int .u8) _ _ _ 122 [.int .u8 122] from rfl) (Reps.one (show Kd.M (Kd.int .u8) _ _ _ 0 [.int .u8 0] from rfl) (Reps.one (show Kd.M (Kd.int .u8) _ _ _ 255 [.int .u8 255] from rfl) (Reps.one (show Kd.M (Kd.int .u8) _ _ _ 128 [.int .u8 128] from rfl) (Reps.none _ _))))))))
               intro v832 w17 ho18 hb hg_ hnew_
               clear hg_ hnew_
               (first | rw [← Ny831.out] at ho18 | (simp only [Int.reduceToNat] at ho18; rw [← Ny831.out] at ho18))
               have n0_ := Az.mk (Kd.R_elder' (by (with_reducible repeat (first | apply Kd.R_alloc | apply Kd.R_drewN | apply Kd.R_drew)); exact HO_5.out) (Kd.R_base ho18) hb)
               have n1_ := Az.mk (Kd.R_lower (Kd.R_new' ho18 (Kd.R_lt (by (with_reducible repeat (first | apply Kd.R_alloc | apply Kd.R_drewN | apply Kd.R_drew)); exact HO_5.out))) (keep_size (w := w) (g := g) (row := none) (by repeat (first | (with_reducible first | exact HK.out | apply KeepBut.set_ | apply keep_drewN | apply keep_drew | apply keep_alloc) | exact HK.out))))
               have n2_ := Az.mk (IsS104.below (by repeat (first | (with_reducible first | exact HI0.out | apply IsS104.alloc | apply IsS104.drewN | apply IsS104.drew | apply IsS104.set_1) | exact HI0.out)) hb)
               have n3_ := Az.mk (KeepBut.trans (by repeat (first | (with_reducible first | exact HK.out | apply KeepBut.set_ | apply keep_drewN | apply keep_drew | apply keep_alloc) | exact HK.out)) (KeepBut.of_below hb g none) (.inl rfl))
               have n4_ := Az.mk (below_step (by repeat (first | (with_reducible first | exact HB.out | apply zq2 | apply zq1 | apply zqd | refine zq3 ?_ (IsS104.ge HI0.out)) | exact HB.out)) hb)
               clear HO_5
               clear HI0
               clear HK
               clear HB
               have HO_5 := n0_
               have HO833 := n1_
               have HI0 := n2_
               have HK := n3_
               have HB := n4_
               clear n0_ n1_ n2_ n3_ n4_
               clear hb ho18
               obtain ⟨Ao19, co19, eo19⟩ := Kd.R_slice HO833.out
               subst eo19
               obtain ⟨ado19, fo19, _⟩ := Kd.at_int (Kd.R_reads' HO833.out).2.2 0 (by decide) (by rw [Ny831.out]; simp)
               cases fo19
               refine hK.out _ _ trivial (fun hHeld => ?_)
               clear hK K
               refine norm_ (a' := ?_) ?_ ?_
               rotate_left
               ·show Act.put _ (some 17) _ = _
                simp only [Act.put, List.setIfInBounds_toArray, List.set_cons_zero, List.set_cons_succ, i64_w, i32_w]
                rfl
               refine zqp (i := 4) (N := some 20) (v := ?_) (a' := ?_) #[true, true, true, true, true, false, true, false, false, false, false, false, false] rfl rfl (any_of HT_.out (by kernel_rfl)) (fun _ _ _ h => h) (Or.inl ⟨by rfl, ?_⟩) ?_ ?_
               rotate_left
               ·intro w'
                go_simp
                with_reducible rfl
               rotate_left
               ·simp only [Act.put, List.setIfInBounds_toArray, List.set_cons_zero, List.set_cons_succ, i64_w, i32_w]
                rfl
               exact norm_ (by first | (simp only [putAll, Act.put, List.setIfInBounds_toArray, List.set_cons_zero, List.set_cons_succ]; done) | (simp only [putAll, Act.put, List.setIfInBounds_toArray, List.set_cons_zero, List.set_cons_succ]; rfl)) (hJ1_3 (.slice (some ado19) y831.length co19, ado19) _ ⟨(by (with_reducible repeat (first | apply Kd.R_alloc | apply Kd.R_drewN | apply Kd.R_drew)); exact Kd.R_mono HO833.out (fun _ hk => hk.2)), (by (with_reducible repeat (first | apply Kd.R_alloc | apply Kd.R_drewN | apply Kd.R_drew)); exact Kd.R_mono HO_5.out (fun _ hk => hk.2)), ⟨_, rfl⟩, (by repeat (first | (with_reducible first | exact HI0.out | apply IsS104.alloc | apply IsS104.drewN | apply IsS104.drew | apply IsS104.set_1) | exact HI0.out)), (by repeat (first | (with_reducible first | exact HK.out | apply KeepBut.set_ | apply keep_drewN | apply keep_drew | apply keep_alloc) | exact HK.out)), (by repeat (first | (with_reducible first | exact HB.out | apply zq2 | apply zq1 | apply zqd | refine zq3 ?_ (IsS104.ge HI0.out)) | exact HB.out))⟩)
              ·skip
               refine goes_ Try.func48 (by kernel_rfl) rfl #[.pointer (some ⟨g, 0, none⟩), .int .i64 3] (by rfl) rfl rfl (by (try simp only [List.map_toArray, List.map_cons, List.map_nil]); first | done | rfl | (simp only [List.length_drop, List.length_take]; rfl)) ?_
               with_reducible refine (spec_l6Rd_pick.calls k1 g s0_0 t835 3 t837 t838 w0 _ ?side1 ?side2 A11.out).mono ?_
               (case side1 => repeat (first | (with_reducible first | exact HI0.out | apply IsS104.alloc | apply IsS104.drewN | apply IsS104.drew | apply IsS104.set_1) | exact HI0.out))
               (case side2 => repeat (first | (with_reducible first | exact HB.out | apply zq2 | apply zq1 | apply zqd | refine zq3 ?_ (IsS104.ge HI0.out)) | exact HB.out))
               rintro e w17 ⟨rfl, hi, hb, hk⟩
               refine ⟨_, rfl, ?_⟩
               have n0_ := Az.mk (Kd.R_mono (Kd.R_keep (IsS104.apart (show IsS104 w0 _ g s0_0 t835 from by repeat (first | (with_reducible first | exact HI0.out | apply IsS104.alloc | apply IsS104.drewN | apply IsS104.drew | apply IsS104.set_1) | exact HI0.out)) (by (with_reducible repeat (first | apply Kd.R_alloc | apply Kd.R_drewN | apply Kd.R_drew)); exact HO_5.out) (by decide)) hk (fun _ h => h.2)) (fun _ h => h.1))
               have n1_ := Az.mk (KeepBut.trans (by repeat (first | (with_reducible first | exact HK.out | apply KeepBut.set_ | apply keep_drewN | apply keep_drew | apply keep_alloc) | exact HK.out)) hk (.inl rfl))
               have n2_ := Az.mk (hb)
               have n3_ := Az.mk (hi)
               clear HO_5
               clear HK
               clear HB
               clear HI0
               have HO_5 := n0_
               have HK := n1_
               have HB := n2_
               have HI0 := n3_
               clear n0_ n1_ n2_ n3_
               (try clear hb)
               (try clear hb2)
               (try clear hk)
               (try clear hi)
               refine hK.out _ _ trivial (fun hHeld => ?_)
               clear hK K
               refine norm_ (a' := ?_) ?_ ?_
               rotate_left
               ·show Act.put _ (some 23) _ = _
                simp only [Act.put, List.setIfInBounds_toArray, List.set_cons_zero, List.set_cons_succ, i64_w, i32_w]
                rfl
               refine zqp (i := 8) (N := some 24) (v := ?_) (a' := ?_) #[true, false, true, true, false, false, true, true, true, false, false, false, false] rfl rfl (any_of HT_.out (by kernel_rfl)) (fun _ _ _ h => h) (Or.inl ⟨by rfl, ?_⟩) ?_ ?_
               rotate_left
               ·intro w'
                go_simp
                with_reducible rfl
               rotate_left
               ·simp only [Act.put, List.setIfInBounds_toArray, List.set_cons_zero, List.set_cons_succ, i64_w, i32_w]
                rfl
               exact norm_ (by first | (simp only [putAll, Act.put, List.setIfInBounds_toArray, List.set_cons_zero, List.set_cons_succ]; done) | (simp only [putAll, Act.put, List.setIfInBounds_toArray, List.set_cons_zero, List.set_cons_succ]; rfl)) (hJ3_7 () _ ⟨(by (with_reducible repeat (first | apply Kd.R_alloc | apply Kd.R_drewN | apply Kd.R_drew)); exact HO_5.out), (by repeat (first | (with_reducible first | exact HI0.out | apply IsS104.alloc | apply IsS104.drewN | apply IsS104.drew | apply IsS104.set_1) | exact HI0.out)), (by repeat (first | (with_reducible first | exact HK.out | apply KeepBut.set_ | apply keep_drewN | apply keep_drew | apply keep_alloc) | exact HK.out)), (by repeat (first | (with_reducible first | exact HB.out | apply zq2 | apply zq1 | apply zqd | refine zq3 ?_ (IsS104.ge HI0.out)) | exact HB.out))⟩)
            ·skip
             rintro ⟨v832, adz_v832⟩ w18 ⟨h0_, h1_, h2_, h3_, h4_, h5_⟩
             have n0_ : Az (Kd.R (Kd.int .u8) 5 w18 w.heap.size (fun k_ => some k_ ≠ (.slice Ao13 x5_1.length co13 : Value).ownBlock) v832 y831) := ⟨h0_⟩
             have n1_ : Az (Kd.R (Kd.int .u8) 5 w18 w.heap.size (fun k_ => some k_ ≠ (v832 : Value).ownBlock) (.slice Ao13 x5_1.length co13) x5_1) := ⟨h1_⟩
             have n2_ : Az (∃ c_, (v832 : Value) = .slice (some adz_v832) y831.length c_) := ⟨h2_⟩
             have n3_ : Az (IsS104 w0 w18 g s0_0 x1001_1) := ⟨h3_⟩
             have n4_ : Az (KeepBut w w18 g none) := ⟨h4_⟩
             have n5_ : Az (Below w0.heap.size w0 w18) := ⟨h5_⟩
             clear HO_5
             clear HI0
             clear HK
             clear HB
             clear h0_ h1_ h2_ h3_ h4_ h5_
             have HO833 := n0_
             have HO_5 := n1_
             have HA_HO833 := n2_
             have HI0 := n3_
             have HK := n4_
             have HB := n5_
             clear n0_ n1_ n2_ n3_ n4_ n5_
             have hHeld := trivial
             obtain ⟨co19, eo19⟩ := HA_HO833.out
             clear HA_HO833
             subst eo19
             refine norm_ (a' := ?_) ?_ ?_
             rotate_left
             ·simp only [putAll, Act.put, List.setIfInBounds_toArray, List.set_cons_zero, List.set_cons_succ]
              rfl
             refine one_ (i := 3) (N := some 19) #[true, true, true, true, false, false, true, false, false, false, false, false, false] rfl rfl (one_of HT_.out (by kernel_rfl)) (by decide) (fun K hK => ?_)
             refine goes_ Try.func48 (by kernel_rfl) rfl #[.pointer (some ⟨g, 0, none⟩), .int .i64 6] (by rfl) rfl rfl (by (try simp only [List.map_toArray, List.map_cons, List.map_nil]); first | done | rfl | (simp only [List.length_drop, List.length_take]; rfl)) ?_
             with_reducible refine (spec_l6Rd_pick.calls k1 g s0_0 x1001_1 6 t834 t835 w0 _ ?side1 ?side2 A8.out).mono ?_
             (case side1 => repeat (first | (with_reducible first | exact HI0.out | apply IsS104.alloc | apply IsS104.drewN | apply IsS104.drew | apply IsS104.set_1) | exact HI0.out))
             (case side2 => repeat (first | (with_reducible first | exact HB.out | apply zq2 | apply zq1 | apply zqd | refine zq3 ?_ (IsS104.ge HI0.out)) | exact HB.out))
             rintro e w20 ⟨rfl, hi, hb, hk⟩
             refine ⟨_, rfl, ?_⟩
             have n0_ := Az.mk (Kd.R_mono (Kd.R_keep (IsS104.apart (show IsS104 w0 _ g s0_0 x1001_1 from by repeat (first | (with_reducible first | exact HI0.out | apply IsS104.alloc | apply IsS104.drewN | apply IsS104.drew | apply IsS104.set_1) | exact HI0.out)) (by (with_reducible repeat (first | apply Kd.R_alloc | apply Kd.R_drewN | apply Kd.R_drew)); exact HO_5.out) (by decide)) hk (fun _ h => h.2)) (fun _ h => h.1))
             have n1_ := Az.mk (Kd.R_mono (Kd.R_keep (IsS104.apart (show IsS104 w0 _ g s0_0 x1001_1 from by repeat (first | (with_reducible first | exact HI0.out | apply IsS104.alloc | apply IsS104.drewN | apply IsS104.drew | apply IsS104.set_1) | exact HI0.out)) (by (with_reducible repeat (first | apply Kd.R_alloc | apply Kd.R_drewN | apply Kd.R_drew)); exact HO833.out) (by decide)) hk (fun _ h => h.2)) (fun _ h => h.1))
             have n2_ := Az.mk (KeepBut.trans (by repeat (first | (with_reducible first | exact HK.out | apply KeepBut.set_ | apply keep_drewN | apply keep_drew | apply keep_alloc) | exact HK.out)) hk (.inl rfl))
             have n3_ := Az.mk (hb)
             have n4_ := Az.mk (hi)
             clear HO_5
             clear HO833
             clear HK
             clear HB
             clear HI0
             have HO_5 := n0_
             have HO833 := n1_
             have HK := n2_
             have HB := n3_
             have HI0 := n4_
             clear n0_ n1_ n2_ n3_ n4_
             (try clear hb)
             (try clear hb2)
             (try clear hk)
             (try clear hi)
             refine hK.out _ _ trivial (fun hHeld => ?_)
             clear hK K
             refine norm_ (a' := ?_) ?_ ?_
             rotate_left
             ·show Act.put _ (some 19) _ = _
              simp only [Act.put, List.setIfInBounds_toArray, List.set_cons_zero, List.set_cons_succ, i64_w, i32_w]
              rfl
             refine zqp (i := 4) (N := some 20) (v := ?_) (a' := ?_) #[true, true, true, true, true, false, true, false, false, false, false, false, false] rfl rfl (any_of HT_.out (by kernel_rfl)) (fun _ _ _ h => h) (Or.inl ⟨by rfl, ?_⟩) ?_ ?_
             rotate_left
             ·intro w'
              go_simp
              with_reducible rfl
             rotate_left
             ·simp only [Act.put, List.setIfInBounds_toArray, List.set_cons_zero, List.set_cons_succ, i64_w, i32_w]
              rfl
             exact norm_ (by first | (simp only [putAll, Act.put, List.setIfInBounds_toArray, List.set_cons_zero, List.set_cons_succ]; done) | (simp only [putAll, Act.put, List.setIfInBounds_toArray, List.set_cons_zero, List.set_cons_succ]; rfl)) (hJ1_3 (.slice (some adz_v832) y831.length co19, adz_v832) _ ⟨(by (with_reducible repeat (first | apply Kd.R_alloc | apply Kd.R_drewN | apply Kd.R_drew)); exact HO833.out), (by (with_reducible repeat (first | apply Kd.R_alloc | apply Kd.R_drewN | apply Kd.R_drew)); exact HO_5.out), ⟨_, rfl⟩, (by repeat (first | (with_reducible first | exact HI0.out | apply IsS104.alloc | apply IsS104.drewN | apply IsS104.drew | apply IsS104.set_1) | exact HI0.out)), (by repeat (first | (with_reducible first | exact HK.out | apply KeepBut.set_ | apply keep_drewN | apply keep_drew | apply keep_alloc) | exact HK.out)), (by repeat (first | (with_reducible first | exact HB.out | apply zq2 | apply zq1 | apply zqd | refine zq3 ?_ (IsS104.ge HI0.out)) | exact HB.out))⟩)
           ·skip
            rintro _ w17 ⟨h0_, h1_, h2_, h3_⟩
            have n0_ : Az (Kd.R (Kd.int .u8) 5 w17 w.heap.size (fun _ => True) (.slice Ao13 x5_1.length co13) x5_1) := ⟨h0_⟩
            have n1_ : Az (IsS104 w0 w17 g s0_0 t838) := ⟨h1_⟩
            have n2_ : Az (KeepBut w w17 g none) := ⟨h2_⟩
            have n3_ : Az (Below w0.heap.size w0 w17) := ⟨h3_⟩
            clear HO_5
            clear HI0
            clear HK
            clear HB
            clear h0_ h1_ h2_ h3_
            have HO_5 := n0_
            have HI0 := n1_
            have HK := n2_
            have HB := n3_
            clear n0_ n1_ n2_ n3_
            have hHeld := trivial
            refine norm_ (a' := ?_) ?_ ?_
            rotate_left
            ·simp only [putAll, Act.put, List.setIfInBounds_toArray, List.set_cons_zero, List.set_cons_succ]
             rfl
            refine one_ (i := 1) (N := some 17) #[true, true, true, true, false, false, true, true, true, false, false, false, false] rfl rfl (one_of HT_.out (by kernel_rfl)) (by decide) (fun K hK => ?_)
            refine Kd.R_lit_step (Kd.int .u8) _ 5 ?hg (N := 17) ?hd (xs := ([97, 98, 122, 0, 255, 128] : List Int)) (inner := [.int .u8 97, .int .u8 98, .int .u8 122, .int .u8 0, .int .u8 255, .int .u8 128]) (ok := fun _ => True) (okp := fun _ => True) ?hr ?hp (fun _ hk => hk) trivial (Below.refl _ _) (Nat.le_refl _) (by simp) ?_; (case hd => rfl); (case hg => rfl); (case hr => first | (go_simp; done) | (go_simp; rfl)); (case hp => exact (Reps.one (show Kd.M (Kd.int .u8) _ _ _ 97 [.int .u8 97] from rfl) (Reps.one (show Kd.M (Kd.int .u8) _ _ _ 98 [.int .u8 98] from rfl) (Reps.one (show Kd.M (Kd.int .u8) _ _ _ 122 [.int .u8 122] from rfl) (Reps.one (show Kd.M (Kd.int .u8) _ _ _ 0 [.int .u8 0] from rfl) (Reps.one (show Kd.M (Kd.int .u8) _ _ _ 255 [.int .u8 255] from rfl) (Reps.one (show Kd.M (Kd.int .u8) _ _ _ 128 [.int .u8 128] from rfl) (Reps.none _ _))))))))
            intro v832 w18 ho19 hb hg_ hnew_
            clear hg_ hnew_
            (first | rw [← Ny831.out] at ho19 | (simp only [Int.reduceToNat] at ho19; rw [← Ny831.out] at ho19))
            have n0_ := Az.mk (Kd.R_elder' (by (with_reducible repeat (first | apply Kd.R_alloc | apply Kd.R_drewN | apply Kd.R_drew)); exact HO_5.out) (Kd.R_base ho19) hb)
            have n1_ := Az.mk (Kd.R_lower (Kd.R_new' ho19 (Kd.R_lt (by (with_reducible repeat (first | apply Kd.R_alloc | apply Kd.R_drewN | apply Kd.R_drew)); exact HO_5.out))) (keep_size (w := w) (g := g) (row := none) (by repeat (first | (with_reducible first | exact HK.out | apply KeepBut.set_ | apply keep_drewN | apply keep_drew | apply keep_alloc) | exact HK.out))))
            have n2_ := Az.mk (IsS104.below (by repeat (first | (with_reducible first | exact HI0.out | apply IsS104.alloc | apply IsS104.drewN | apply IsS104.drew | apply IsS104.set_1) | exact HI0.out)) hb)
            have n3_ := Az.mk (KeepBut.trans (by repeat (first | (with_reducible first | exact HK.out | apply KeepBut.set_ | apply keep_drewN | apply keep_drew | apply keep_alloc) | exact HK.out)) (KeepBut.of_below hb g none) (.inl rfl))
            have n4_ := Az.mk (below_step (by repeat (first | (with_reducible first | exact HB.out | apply zq2 | apply zq1 | apply zqd | refine zq3 ?_ (IsS104.ge HI0.out)) | exact HB.out)) hb)
            clear HO_5
            clear HI0
            clear HK
            clear HB
            have HO_5 := n0_
            have HO833 := n1_
            have HI0 := n2_
            have HK := n3_
            have HB := n4_
            clear n0_ n1_ n2_ n3_ n4_
            clear hb ho19
            obtain ⟨Ao20, co20, eo20⟩ := Kd.R_slice HO833.out
            subst eo20
            obtain ⟨ado20, fo20, _⟩ := Kd.at_int (Kd.R_reads' HO833.out).2.2 0 (by decide) (by rw [Ny831.out]; simp)
            cases fo20
            refine hK.out _ _ trivial (fun hHeld => ?_)
            clear hK K
            refine norm_ (a' := ?_) ?_ ?_
            rotate_left
            ·show Act.put _ (some 17) _ = _
             simp only [Act.put, List.setIfInBounds_toArray, List.set_cons_zero, List.set_cons_succ, i64_w, i32_w]
             rfl
            refine zqp (i := 4) (N := some 20) (v := ?_) (a' := ?_) #[true, true, true, true, true, false, true, true, true, false, false, false, false] rfl rfl (any_of HT_.out (by kernel_rfl)) (fun _ _ _ h => h) (Or.inl ⟨by rfl, ?_⟩) ?_ ?_
            rotate_left
            ·intro w'
             go_simp
             with_reducible rfl
            rotate_left
            ·simp only [Act.put, List.setIfInBounds_toArray, List.set_cons_zero, List.set_cons_succ, i64_w, i32_w]
             rfl
            exact norm_ (by first | (simp only [putAll, Act.put, List.setIfInBounds_toArray, List.set_cons_zero, List.set_cons_succ]; done) | (simp only [putAll, Act.put, List.setIfInBounds_toArray, List.set_cons_zero, List.set_cons_succ]; rfl)) (hJ1_3_7 (.slice (some ado20) y831.length co20, ado20) _ ⟨(by (with_reducible repeat (first | apply Kd.R_alloc | apply Kd.R_drewN | apply Kd.R_drew)); exact Kd.R_mono HO833.out (fun _ hk => hk.2)), (by (with_reducible repeat (first | apply Kd.R_alloc | apply Kd.R_drewN | apply Kd.R_drew)); exact Kd.R_mono HO_5.out (fun _ hk => hk.2)), ⟨_, rfl⟩, (by repeat (first | (with_reducible first | exact HI0.out | apply IsS104.alloc | apply IsS104.drewN | apply IsS104.drew | apply IsS104.set_1) | exact HI0.out)), (by repeat (first | (with_reducible first | exact HK.out | apply KeepBut.set_ | apply keep_drewN | apply keep_drew | apply keep_alloc) | exact HK.out)), (by repeat (first | (with_reducible first | exact HB.out | apply zq2 | apply zq1 | apply zqd | refine zq3 ?_ (IsS104.ge HI0.out)) | exact HB.out))⟩)
          ·skip
           rintro ⟨v832, adz_v832⟩ w19 ⟨h0_, h1_, h2_, h3_, h4_, h5_⟩
           have n0_ : Az (Kd.R (Kd.int .u8) 5 w19 w.heap.size (fun k_ => some k_ ≠ (.slice Ao13 x5_1.length co13 : Value).ownBlock) v832 y831) := ⟨h0_⟩
           have n1_ : Az (Kd.R (Kd.int .u8) 5 w19 w.heap.size (fun k_ => some k_ ≠ (v832 : Value).ownBlock) (.slice Ao13 x5_1.length co13) x5_1) := ⟨h1_⟩
           have n2_ : Az (∃ c_, (v832 : Value) = .slice (some adz_v832) y831.length c_) := ⟨h2_⟩
           have n3_ : Az (IsS104 w0 w19 g s0_0 t835) := ⟨h3_⟩
           have n4_ : Az (KeepBut w w19 g none) := ⟨h4_⟩
           have n5_ : Az (Below w0.heap.size w0 w19) := ⟨h5_⟩
           clear HO_5
           clear HI0
           clear HK
           clear HB
           clear h0_ h1_ h2_ h3_ h4_ h5_
           have HO833 := n0_
           have HO_5 := n1_
           have HA_HO833 := n2_
           have HI0 := n3_
           have HK := n4_
           have HB := n5_
           clear n0_ n1_ n2_ n3_ n4_ n5_
           have hHeld := trivial
           obtain ⟨co20, eo20⟩ := HA_HO833.out
           clear HA_HO833
           subst eo20
           refine norm_ (a' := ?_) ?_ ?_
           rotate_left
           ·simp only [putAll, Act.put, List.setIfInBounds_toArray, List.set_cons_zero, List.set_cons_succ]
            rfl
           refine two_ (i := 5) (j := 7) (Ni := some 21) (Nj := some 23) #[true, true, true, true, true, true, true, false, false, false, false, false, false] #[true, true, true, true, true, false, true, true, false, false, false, false, false] rfl rfl rfl rfl (two_of HT_.out (by kernel_rfl)) (by decide) (by decide) (fun K hK => ?_) (fun K hK => ?_)
           ·skip
            (have p836 : 0 ≤ (t834 : Int) := of_decide_eq_true (by first | (with_reducible assumption) | assumption); have q836 : t834 < (y831.length : Int) := of_decide_eq_true (by first | (with_reducible assumption) | assumption); obtain ⟨ad836, e836, hx836_0⟩ := Kd.at_int (Kd.R_reads' HO833.out).2.2 t834 p836 q836; obtain rfl : adz_v832 = ad836 := (by injection e836))
            refine value_ (w1 := ?_) (v := ?_) (by rfl) rfl ?_ ?_
            rotate_left 2
            ·go_simp
             constructor
             ·rfl
             ·rfl
            clear hx836_0
            refine hK.out _ _ trivial (fun hHeld => ?_)
            clear hK K
            refine norm_ (a' := ?_) ?_ ?_
            rotate_left
            ·show Act.put _ (some 21) _ = _
             simp only [Act.put, List.setIfInBounds_toArray, List.set_cons_zero, List.set_cons_succ, i64_w, i32_w]
             rfl
            exact norm_ (by first | (simp only [putAll, Act.put, List.setIfInBounds_toArray, List.set_cons_zero, List.set_cons_succ]; done) | (simp only [putAll, Act.put, List.setIfInBounds_toArray, List.set_cons_zero, List.set_cons_succ]; rfl)) (hJ1_3_5 (.slice (some adz_v832) y831.length co20, adz_v832) _ ⟨(by (with_reducible repeat (first | apply Kd.R_alloc | apply Kd.R_drewN | apply Kd.R_drew)); exact HO833.out), (by (with_reducible repeat (first | apply Kd.R_alloc | apply Kd.R_drewN | apply Kd.R_drew)); exact HO_5.out), ⟨_, rfl⟩, (by repeat (first | (with_reducible first | exact HI0.out | apply IsS104.alloc | apply IsS104.drewN | apply IsS104.drew | apply IsS104.set_1) | exact HI0.out)), (by repeat (first | (with_reducible first | exact HK.out | apply KeepBut.set_ | apply keep_drewN | apply keep_drew | apply keep_alloc) | exact HK.out)), (by repeat (first | (with_reducible first | exact HB.out | apply zq2 | apply zq1 | apply zqd | refine zq3 ?_ (IsS104.ge HI0.out)) | exact HB.out))⟩)
           ·skip
            refine goes_ Try.func48 (by kernel_rfl) rfl #[.pointer (some ⟨g, 0, none⟩), .int .i64 3] (by rfl) rfl rfl (by (try simp only [List.map_toArray, List.map_cons, List.map_nil]); first | done | rfl | (simp only [List.length_drop, List.length_take]; rfl)) ?_
            with_reducible refine (spec_l6Rd_pick.calls k1 g s0_0 t835 3 t837 t838 w0 _ ?side1 ?side2 A11.out).mono ?_
            (case side1 => repeat (first | (with_reducible first | exact HI0.out | apply IsS104.alloc | apply IsS104.drewN | apply IsS104.drew | apply IsS104.set_1) | exact HI0.out))
            (case side2 => repeat (first | (with_reducible first | exact HB.out | apply zq2 | apply zq1 | apply zqd | refine zq3 ?_ (IsS104.ge HI0.out)) | exact HB.out))
            rintro e w21 ⟨rfl, hi, hb, hk⟩
            refine ⟨_, rfl, ?_⟩
            have n0_ := Az.mk (Kd.R_mono (Kd.R_keep (IsS104.apart (show IsS104 w0 _ g s0_0 t835 from by repeat (first | (with_reducible first | exact HI0.out | apply IsS104.alloc | apply IsS104.drewN | apply IsS104.drew | apply IsS104.set_1) | exact HI0.out)) (by (with_reducible repeat (first | apply Kd.R_alloc | apply Kd.R_drewN | apply Kd.R_drew)); exact HO_5.out) (by decide)) hk (fun _ h => h.2)) (fun _ h => h.1))
            have n1_ := Az.mk (Kd.R_mono (Kd.R_keep (IsS104.apart (show IsS104 w0 _ g s0_0 t835 from by repeat (first | (with_reducible first | exact HI0.out | apply IsS104.alloc | apply IsS104.drewN | apply IsS104.drew | apply IsS104.set_1) | exact HI0.out)) (by (with_reducible repeat (first | apply Kd.R_alloc | apply Kd.R_drewN | apply Kd.R_drew)); exact HO833.out) (by decide)) hk (fun _ h => h.2)) (fun _ h => h.1))
            have n2_ := Az.mk (KeepBut.trans (by repeat (first | (with_reducible first | exact HK.out | apply KeepBut.set_ | apply keep_drewN | apply keep_drew | apply keep_alloc) | exact HK.out)) hk (.inl rfl))
            have n3_ := Az.mk (hb)
            have n4_ := Az.mk (hi)
            clear HO_5
            clear HO833
            clear HK
            clear HB
            clear HI0
            have HO_5 := n0_
            have HO833 := n1_
            have HK := n2_
            have HB := n3_
            have HI0 := n4_
            clear n0_ n1_ n2_ n3_ n4_
            (try clear hb)
            (try clear hb2)
            (try clear hk)
            (try clear hi)
            refine hK.out _ _ trivial (fun hHeld => ?_)
            clear hK K
            refine norm_ (a' := ?_) ?_ ?_
            rotate_left
            ·show Act.put _ (some 23) _ = _
             simp only [Act.put, List.setIfInBounds_toArray, List.set_cons_zero, List.set_cons_succ, i64_w, i32_w]
             rfl
            refine zqp (i := 8) (N := some 24) (v := ?_) (a' := ?_) #[true, true, true, true, true, false, true, true, true, false, false, false, false] rfl rfl (any_of HT_.out (by kernel_rfl)) (fun _ _ _ h => h) (Or.inl ⟨by rfl, ?_⟩) ?_ ?_
            rotate_left
            ·intro w'
             go_simp
             with_reducible rfl
            rotate_left
            ·simp only [Act.put, List.setIfInBounds_toArray, List.set_cons_zero, List.set_cons_succ, i64_w, i32_w]
             rfl
            exact norm_ (by first | (simp only [putAll, Act.put, List.setIfInBounds_toArray, List.set_cons_zero, List.set_cons_succ]; done) | (simp only [putAll, Act.put, List.setIfInBounds_toArray, List.set_cons_zero, List.set_cons_succ]; rfl)) (hJ1_3_7 (.slice (some adz_v832) y831.length co20, adz_v832) _ ⟨(by (with_reducible repeat (first | apply Kd.R_alloc | apply Kd.R_drewN | apply Kd.R_drew)); exact HO833.out), (by (with_reducible repeat (first | apply Kd.R_alloc | apply Kd.R_drewN | apply Kd.R_drew)); exact HO_5.out), ⟨_, rfl⟩, (by repeat (first | (with_reducible first | exact HI0.out | apply IsS104.alloc | apply IsS104.drewN | apply IsS104.drew | apply IsS104.set_1) | exact HI0.out)), (by repeat (first | (with_reducible first | exact HK.out | apply KeepBut.set_ | apply keep_drewN | apply keep_drew | apply keep_alloc) | exact HK.out)), (by repeat (first | (with_reducible first | exact HB.out | apply zq2 | apply zq1 | apply zqd | refine zq3 ?_ (IsS104.ge HI0.out)) | exact HB.out))⟩)
         ·skip
          rintro ⟨v832, adz_v832⟩ w20 ⟨h0_, h1_, h2_, h3_, h4_, h5_⟩
          have n0_ : Az (Kd.R (Kd.int .u8) 5 w20 w.heap.size (fun k_ => some k_ ≠ (.slice Ao13 x5_1.length co13 : Value).ownBlock) v832 y831) := ⟨h0_⟩
          have n1_ : Az (Kd.R (Kd.int .u8) 5 w20 w.heap.size (fun k_ => some k_ ≠ (v832 : Value).ownBlock) (.slice Ao13 x5_1.length co13) x5_1) := ⟨h1_⟩
          have n2_ : Az (∃ c_, (v832 : Value) = .slice (some adz_v832) y831.length c_) := ⟨h2_⟩
          have n3_ : Az (IsS104 w0 w20 g s0_0 t838) := ⟨h3_⟩
          have n4_ : Az (KeepBut w w20 g none) := ⟨h4_⟩
          have n5_ : Az (Below w0.heap.size w0 w20) := ⟨h5_⟩
          clear HO_5
          clear HI0
          clear HK
          clear HB
          clear h0_ h1_ h2_ h3_ h4_ h5_
          have HO833 := n0_
          have HO_5 := n1_
          have HA_HO833 := n2_
          have HI0 := n3_
          have HK := n4_
          have HB := n5_
          clear n0_ n1_ n2_ n3_ n4_ n5_
          have hHeld := trivial
          obtain ⟨co21, eo21⟩ := HA_HO833.out
          clear HA_HO833
          subst eo21
          refine norm_ (a' := ?_) ?_ ?_
          rotate_left
          ·simp only [putAll, Act.put, List.setIfInBounds_toArray, List.set_cons_zero, List.set_cons_succ]
           rfl
          refine one_ (i := 5) (N := some 21) #[true, true, true, true, true, true, true, true, true, false, false, false, false] rfl rfl (one_of HT_.out (by kernel_rfl)) (by decide) (fun K hK => ?_)
          (have p836 : 0 ≤ (t834 : Int) := of_decide_eq_true (by first | (with_reducible assumption) | assumption); have q836 : t834 < (y831.length : Int) := of_decide_eq_true (by first | (with_reducible assumption) | assumption); obtain ⟨ad836, e836, hx836_0⟩ := Kd.at_int (Kd.R_reads' HO833.out).2.2 t834 p836 q836; obtain rfl : adz_v832 = ad836 := (by injection e836))
          refine value_ (w1 := ?_) (v := ?_) (by rfl) rfl ?_ ?_
          rotate_left 2
          ·go_simp
           constructor
           ·rfl
           ·rfl
          clear hx836_0
          refine hK.out _ _ trivial (fun hHeld => ?_)
          clear hK K
          refine norm_ (a' := ?_) ?_ ?_
          rotate_left
          ·show Act.put _ (some 21) _ = _
           simp only [Act.put, List.setIfInBounds_toArray, List.set_cons_zero, List.set_cons_succ, i64_w, i32_w]
           rfl
          exact norm_ (by first | (simp only [putAll, Act.put, List.setIfInBounds_toArray, List.set_cons_zero, List.set_cons_succ]; done) | (simp only [putAll, Act.put, List.setIfInBounds_toArray, List.set_cons_zero, List.set_cons_succ]; rfl)) (hJ1_3_5_7 (.slice (some adz_v832) y831.length co21, adz_v832) _ ⟨(by (with_reducible repeat (first | apply Kd.R_alloc | apply Kd.R_drewN | apply Kd.R_drew)); exact HO833.out), (by (with_reducible repeat (first | apply Kd.R_alloc | apply Kd.R_drewN | apply Kd.R_drew)); exact HO_5.out), ⟨_, rfl⟩, (by repeat (first | (with_reducible first | exact HI0.out | apply IsS104.alloc | apply IsS104.drewN | apply IsS104.drew | apply IsS104.set_1) | exact HI0.out)), (by repeat (first | (with_reducible first | exact HK.out | apply KeepBut.set_ | apply keep_drewN | apply keep_drew | apply keep_alloc) | exact HK.out)), (by repeat (first | (with_reducible first | exact HB.out | apply zq2 | apply zq1 | apply zqd | refine zq3 ?_ (IsS104.ge HI0.out)) | exact HB.out))⟩)
        ·skip
         rintro ⟨v832, adz_v832⟩ w19 ⟨h0_, h1_, h2_, h3_, h4_, h5_⟩
         have n0_ : Az (Kd.R (Kd.int .u8) 5 w19 w.heap.size (fun k_ => some k_ ≠ (.slice Ao13 x5_1.length co13 : Value).ownBlock) v832 y831) := ⟨h0_⟩
         have n1_ : Az (Kd.R (Kd.int .u8) 5 w19 w.heap.size (fun k_ => some k_ ≠ (v832 : Value).ownBlock) (.slice Ao13 x5_1.length co13) x5_1) := ⟨h1_⟩
         have n2_ : Az (∃ c_, (v832 : Value) = .slice (some adz_v832) y831.length c_) := ⟨h2_⟩
         have n3_ : Az (IsS104 w0 w19 g s0_0 t835) := ⟨h3_⟩
         have n4_ : Az (KeepBut w w19 g none) := ⟨h4_⟩
         have n5_ : Az (Below w0.heap.size w0 w19) := ⟨h5_⟩
         clear HO_5
         clear HI0
         clear HK
         clear HB
         clear h0_ h1_ h2_ h3_ h4_ h5_
         have HO833 := n0_
         have HO_5 := n1_
         have HA_HO833 := n2_
         have HI0 := n3_
         have HK := n4_
         have HB := n5_
         clear n0_ n1_ n2_ n3_ n4_ n5_
         have hHeld := trivial
         obtain ⟨co20, eo20⟩ := HA_HO833.out
         clear HA_HO833
         subst eo20
         refine norm_ (a' := ?_) ?_ ?_
         rotate_left
         ·simp only [putAll, Act.put, List.setIfInBounds_toArray, List.set_cons_zero, List.set_cons_succ]
          rfl
         refine one_ (i := 7) (N := some 23) #[true, true, true, true, true, true, true, true, false, false, false, false, false] rfl rfl (one_of HT_.out (by kernel_rfl)) (by decide) (fun K hK => ?_)
         refine goes_ Try.func48 (by kernel_rfl) rfl #[.pointer (some ⟨g, 0, none⟩), .int .i64 3] (by rfl) rfl rfl (by (try simp only [List.map_toArray, List.map_cons, List.map_nil]); first | done | rfl | (simp only [List.length_drop, List.length_take]; rfl)) ?_
         with_reducible refine (spec_l6Rd_pick.calls k1 g s0_0 t835 3 t837 t838 w0 _ ?side1 ?side2 A11.out).mono ?_
         (case side1 => repeat (first | (with_reducible first | exact HI0.out | apply IsS104.alloc | apply IsS104.drewN | apply IsS104.drew | apply IsS104.set_1) | exact HI0.out))
         (case side2 => repeat (first | (with_reducible first | exact HB.out | apply zq2 | apply zq1 | apply zqd | refine zq3 ?_ (IsS104.ge HI0.out)) | exact HB.out))
         rintro e w21 ⟨rfl, hi, hb, hk⟩
         refine ⟨_, rfl, ?_⟩
         have n0_ := Az.mk (Kd.R_mono (Kd.R_keep (IsS104.apart (show IsS104 w0 _ g s0_0 t835 from by repeat (first | (with_reducible first | exact HI0.out | apply IsS104.alloc | apply IsS104.drewN | apply IsS104.drew | apply IsS104.set_1) | exact HI0.out)) (by (with_reducible repeat (first | apply Kd.R_alloc | apply Kd.R_drewN | apply Kd.R_drew)); exact HO_5.out) (by decide)) hk (fun _ h => h.2)) (fun _ h => h.1))
         have n1_ := Az.mk (Kd.R_mono (Kd.R_keep (IsS104.apart (show IsS104 w0 _ g s0_0 t835 from by repeat (first | (with_reducible first | exact HI0.out | apply IsS104.alloc | apply IsS104.drewN | apply IsS104.drew | apply IsS104.set_1) | exact HI0.out)) (by (with_reducible repeat (first | apply Kd.R_alloc | apply Kd.R_drewN | apply Kd.R_drew)); exact HO833.out) (by decide)) hk (fun _ h => h.2)) (fun _ h => h.1))
         have n2_ := Az.mk (KeepBut.trans (by repeat (first | (with_reducible first | exact HK.out | apply KeepBut.set_ | apply keep_drewN | apply keep_drew | apply keep_alloc) | exact HK.out)) hk (.inl rfl))
         have n3_ := Az.mk (hb)
         have n4_ := Az.mk (hi)
         clear HO_5
         clear HO833
         clear HK
         clear HB
         clear HI0
         have HO_5 := n0_
         have HO833 := n1_
         have HK := n2_
         have HB := n3_
         have HI0 := n4_
         clear n0_ n1_ n2_ n3_ n4_
         (try clear hb)
         (try clear hb2)
         (try clear hk)
         (try clear hi)
         refine hK.out _ _ trivial (fun hHeld => ?_)
         clear hK K
         refine norm_ (a' := ?_) ?_ ?_
         rotate_left
         ·show Act.put _ (some 23) _ = _
          simp only [Act.put, List.setIfInBounds_toArray, List.set_cons_zero, List.set_cons_succ, i64_w, i32_w]
          rfl
         refine zqp (i := 8) (N := some 24) (v := ?_) (a' := ?_) #[true, true, true, true, true, true, true, true, true, false, false, false, false] rfl rfl (any_of HT_.out (by kernel_rfl)) (fun _ _ _ h => h) (Or.inl ⟨by rfl, ?_⟩) ?_ ?_
         rotate_left
         ·intro w'
          go_simp
          with_reducible rfl
         rotate_left
         ·simp only [Act.put, List.setIfInBounds_toArray, List.set_cons_zero, List.set_cons_succ, i64_w, i32_w]
          rfl
         exact norm_ (by first | (simp only [putAll, Act.put, List.setIfInBounds_toArray, List.set_cons_zero, List.set_cons_succ]; done) | (simp only [putAll, Act.put, List.setIfInBounds_toArray, List.set_cons_zero, List.set_cons_succ]; rfl)) (hJ1_3_5_7 (.slice (some adz_v832) y831.length co20, adz_v832) _ ⟨(by (with_reducible repeat (first | apply Kd.R_alloc | apply Kd.R_drewN | apply Kd.R_drew)); exact HO833.out), (by (with_reducible repeat (first | apply Kd.R_alloc | apply Kd.R_drewN | apply Kd.R_drew)); exact HO_5.out), ⟨_, rfl⟩, (by repeat (first | (with_reducible first | exact HI0.out | apply IsS104.alloc | apply IsS104.drewN | apply IsS104.drew | apply IsS104.set_1) | exact HI0.out)), (by repeat (first | (with_reducible first | exact HK.out | apply KeepBut.set_ | apply keep_drewN | apply keep_drew | apply keep_alloc) | exact HK.out)), (by repeat (first | (with_reducible first | exact HB.out | apply zq2 | apply zq1 | apply zqd | refine zq3 ?_ (IsS104.ge HI0.out)) | exact HB.out))⟩)
       rintro ⟨v832, adz_v832⟩ w20 ⟨h0_, h1_, h2_, h3_, h4_, h5_⟩
       have n0_ : Az (Kd.R (Kd.int .u8) 5 w20 w.heap.size (fun k_ => some k_ ≠ (.slice Ao13 x5_1.length co13 : Value).ownBlock) v832 y831) := ⟨h0_⟩
       have n1_ : Az (Kd.R (Kd.int .u8) 5 w20 w.heap.size (fun k_ => some k_ ≠ (v832 : Value).ownBlock) (.slice Ao13 x5_1.length co13) x5_1) := ⟨h1_⟩
       have n2_ : Az (∃ c_, (v832 : Value) = .slice (some adz_v832) y831.length c_) := ⟨h2_⟩
       have n3_ : Az (IsS104 w0 w20 g s0_0 t838) := ⟨h3_⟩
       have n4_ : Az (KeepBut w w20 g none) := ⟨h4_⟩
       have n5_ : Az (Below w0.heap.size w0 w20) := ⟨h5_⟩
       clear HO_5
       clear HI0
       clear HK
       clear HB
       clear h0_ h1_ h2_ h3_ h4_ h5_
       have HO833 := n0_
       have HO_5 := n1_
       have HA_HO833 := n2_
       have HI0 := n3_
       have HK := n4_
       have HB := n5_
       clear n0_ n1_ n2_ n3_ n4_ n5_
       have hHeld := trivial
       obtain ⟨co21, eo21⟩ := HA_HO833.out
       clear HA_HO833
       subst eo21
       refine norm_ (a' := ?_) ?_ ?_
       rotate_left
       ·simp only [putAll, Act.put, List.setIfInBounds_toArray, List.set_cons_zero, List.set_cons_succ]
        rfl
       refine zqp (i := 9) (N := some 25) (v := ?_) (a' := ?_) #[true, true, true, true, true, true, true, true, true, true, false, false, false] rfl rfl (any_of HT_.out (by kernel_rfl)) (fun _ _ _ h => h) (Or.inl ⟨by rfl, ?_⟩) ?_ ?_
       rotate_left
       ·intro w'
        go_simp
        with_reducible rfl
       rotate_left
       ·simp only [Act.put, List.setIfInBounds_toArray, List.set_cons_zero, List.set_cons_succ, i64_w, i32_w]
        rfl
       refine one_ (i := 10) (N := some 26) #[true, true, true, true, true, true, true, true, true, true, true, false, false] rfl rfl (one_of HT_.out (by kernel_rfl)) (by decide) (fun K hK => ?_)
       refine value_ (w1 := ?_) (v := ?_) (by rfl) rfl ?_ ?_
       rotate_left 2
       ·go_simp
        constructor
        ·rfl
        ·rfl
       refine hK.out _ _ trivial (fun hHeld => ?_)
       clear hK K
       refine norm_ (a' := ?_) ?_ ?_
       rotate_left
       ·show Act.put _ (some 26) _ = _
        simp only [Act.put, List.setIfInBounds_toArray, List.set_cons_zero, List.set_cons_succ, i64_w, i32_w]
        rfl
       refine one_ (i := 11) (N := some 27) #[true, true, true, true, true, true, true, true, true, true, true, true, false] rfl rfl (one_of HT_.out (by kernel_rfl)) (by decide) (fun K hK => ?_)
       refine Kd.R_append_step (Kd.int .u8) w.heap.size (by rfl) (.tmp 16) (.tmp 26) 22 5 (.int .u8 0) 1 rfl Try.underlying22 info5 rfl (by decide) (by omega) (.slice Ao13 x5_1.length co13) x5_1 (((rd y831 t834) + ((t837) % 256)) % 256) [.int .u8 (((rd y831 t834) + ((t837) % 256)) % 256)] (fun k_ => some k_ ≠ (.slice (some adz_v832) y831.length co21 : Value).ownBlock) (fun _ => False) rfl rfl ?aP (fun _ hk => hk.elim) ?aF ?aO (Below.refl _ _) ?aS ?aL ?_
       (case aP => exact rfl)
       (case aF => exact (fun k_ hk => Kd.fresh' (Kd.R_lt (by (with_reducible repeat (first | apply Kd.R_alloc | apply Kd.R_drewN | apply Kd.R_drew)); exact HO833.out)) k_ hk))
       (case aO => exact (by (with_reducible repeat (first | apply Kd.R_alloc | apply Kd.R_drewN | apply Kd.R_drew)); exact HO_5.out))
       (case aS => exact (keep_size (w := w) (g := g) (row := none) (by repeat (first | (with_reducible first | exact HK.out | apply KeepBut.set_ | apply keep_drewN | apply keep_drew | apply keep_alloc) | exact HK.out))))
       (case aL => have := LMc12.out; omega)
       intro v840 w22 ho hb hg hat
       rw [← Ny839.out] at ho
       have n0_ := Az.mk (IsS104.grown (by repeat (first | (with_reducible first | exact HI0.out | apply IsS104.alloc | apply IsS104.drewN | apply IsS104.drew | apply IsS104.set_1) | exact HI0.out)) hg (IsS104.own_ne HI0.out HO_5.out (by decide)))
       have n1_ := Az.mk (Kd.R_after (ok := (fun _ => True)) (by (with_reducible repeat (first | apply Kd.R_alloc | apply Kd.R_drewN | apply Kd.R_drew)); exact Kd.R_mono HO833.out (fun _ hk => ⟨trivial, hk⟩)) hg hat)
       have n2_ := Az.mk (below_weaken (by repeat (first | (with_reducible first | exact HB.out | apply zq2 | apply zq1 | apply zqd | refine zq3 ?_ (IsS104.ge HI0.out)) | exact HB.out)) HL.out hb)
       have n3_ := Az.mk (KeepBut.trans (by repeat (first | (with_reducible first | exact HK.out | apply KeepBut.set_ | apply keep_drewN | apply keep_drew | apply keep_alloc) | exact HK.out)) (KeepBut.of_grown hg g) (Kd.R_base2 HO_5.out))
       have n4_ := Az.mk (ho)
       clear HI0
       clear HO833
       clear HB
       clear HK
       clear HO_5
       have HI0 := n0_
       have HO833 := n1_
       have HB := n2_
       have HK := n3_
       have HO841 := n4_
       clear n0_ n1_ n2_ n3_ n4_
       clear ho hb hg hat
       refine hK.out _ _ trivial (fun hHeld => ?_)
       clear hK K
       refine norm_ (a' := ?_) ?_ ?_
       rotate_left
       ·show Act.put _ (some 27) _ = _
        simp only [Act.put, List.setIfInBounds_toArray, List.set_cons_zero, List.set_cons_succ, i64_w, i32_w]
        rfl
       refine zqp (i := 12) (N := some 5) (v := ?_) (a' := ?_) #[true, true, true, true, true, true, true, true, true, true, true, true, true] rfl rfl (any_of HT_.out (by kernel_rfl)) (fun _ _ _ h => h) (Or.inl ⟨by rfl, ?_⟩) ?_ ?_
       rotate_left
       ·intro w'
        go_simp
        with_reducible rfl
       rotate_left
       ·simp only [Act.put, List.setIfInBounds_toArray, List.set_cons_zero, List.set_cons_succ, i64_w, i32_w]
        rfl
       refine done_ (done_of HT_.out (by kernel_rfl)) ?_
       try go_wp2
       go_roundg k1
       case measure => have := HK1.out; omega
       case rel => exact ⟨(y839), (wrap64 (x6_1 - 1)), (t838), (by first | rfl | (simp; done) | (simp [*]; done)), H', ⟨by have := HK1.out; omega⟩, ⟨by (with_reducible repeat (first | apply Kd.R_alloc | apply Kd.R_drewN | apply Kd.R_drew)); exact Kd.R_mono HO841.out (fun _ hk => trivial)⟩, ⟨by repeat (first | (with_reducible first | exact HI0.out | apply IsS104.alloc | apply IsS104.drewN | apply IsS104.drew | apply IsS104.set_1) | exact HI0.out)⟩, ⟨by repeat (first | (with_reducible first | exact HK.out | apply KeepBut.set_ | apply keep_drewN | apply keep_drew | apply keep_alloc) | exact HK.out)⟩, ⟨by repeat (first | (with_reducible first | exact HB.out | apply zq2 | apply zq1 | apply zqd | refine zq3 ?_ (IsS104.ge HI0.out)) | exact HB.out)⟩⟩
      ·rw [if_neg c12] at H
       exact absurd H (by simp)
     ·rw [if_neg c10] at H
      exact absurd H (by simp)
    ·rw [if_neg c9] at H
     exact absurd H (by simp)
   ·rw [if_neg c7] at H
    have c7b0 : decide (0 < x6_1) = false := decide_eq_false c7
    clear c7
    simp only [Option.some.injEq, Prod.mk.injEq] at H
    obtain ⟨rfl, rfl⟩ := H
    have hcv23 := own_string (P := Try.prog) Try.underlying22 Try.underlying5 Try.underlying9 (Kd.own_of_R HO_5.out)
    go_wp2
    go_ret
    exact ⟨by first | rfl | (simp [errW_none, errW_some] <;> rfl) | (simp [*, errW_none, errW_some] <;> rfl), by repeat (first | (with_reducible first | exact HI0.out | apply IsS104.alloc | apply IsS104.drewN | apply IsS104.drew | apply IsS104.set_1) | exact HI0.out), by repeat (first | (with_reducible first | exact HB.out | apply zq2 | apply zq1 | apply zqd | refine zq3 ?_ (IsS104.ge HI0.out)) | exact HB.out), by repeat (first | (with_reducible first | exact HK.out | apply KeepBut.set_ | apply keep_drewN | apply keep_drew | apply keep_alloc) | exact HK.out)⟩
end Go.Proofs.Ytkgpnloghmbmlaa.Print
namespace Go.Proofs.Ytkgpnloghmbmlaa.Print
open Go.RowKit Go.Proofs.YtkgpnloghmbmlaaW.PrintWords Go.Proofs.YtkgpnloghmbmlaaW.PrintLast Go.Proofs.YtkgpnloghmbmlaaW.PrintMore
attribute [local go_sem] max2_int min2_int max_two min_two max_three min_three max_four min_four   -- for this text's walks alone
set_option linter.unusedVariables false
set_option linter.unusedSimpArgs false
def spec_l1Sec.l0 : Nat → ByteArray → Option (ByteArray)
 | 0, _ => none
 | k + 1, x0 => if (x0.size : Int) < 3 then (if x0.size + 1 ≤ 9223372036854775807 then (spec_l1Sec.l0 k (x0 ++ (⟨#[0]⟩ : ByteArray))) else (none)) else (if 0 ≤ 3 then (if 3 ≤ (x0.size : Int) then (some (x0.extract 0 3)) else (none)) else (none))
def spec_l1Sec.f (k : Nat) (a0 : ByteArray) : Option (ByteArray) := spec_l1Sec.l0 k a0
set_option maxHeartbeats 8000000 in
set_option maxRecDepth 100000 in
theorem spec_l1Sec.calls (k : Nat) (a0 : ByteArray) (r : ByteArray) (w : World) (h : spec_l1Sec.f k a0 = some r) :
  Calls Try.prog 103 #[.string a0] w fun e w' => e = .returned (.string r) ∧ Drawn0 w w' := by
 have H : (spec_l1Sec.l0 k a0) = some r := h
 clear h
 have H' := Az.mk H
 clear H
 go_enter Try.func103, Try.ntmps103
 go_wp2
 go_loopg [0] k (fun kq v0 w' => ∃ (x0_1 : ByteArray), v0 = .string x0_1 ∧ Az (spec_l1Sec.l0 kq x0_1 = some r) ∧ Az (kq ≤ k) ∧ Drawn0 w w')
 case atStart => exact ⟨(a0), (by first | rfl | (simp; done) | (simp [*]; done)), H', ⟨Nat.le_refl _⟩, by repeat (first | exact Drawn0.refl _ | apply Drawn0.step)⟩
 case round =>
  clear H'
  try clear c1
  obtain ⟨x0_1, rfl, HA, HK1, ⟨m1, rfl⟩⟩ := hrel
  cases gk with
  | zero => exact absurd HA.out (by simp [spec_l1Sec.l0])
  | succ k1 =>
   have H := HA.out
   clear HA
   simp only [spec_l1Sec.l0] at H
   by_cases c2 : (x0_1.size : Int) < 3
   ·rw [if_pos c2] at H
    have c2b0 : decide ((x0_1.size : Int) < 3) = true := decide_eq_true c2
    have c2b1 : decide (x0_1.size < 3) = true := decide_eq_true (by omega)
    clear c2
    by_cases c3 : x0_1.size + 1 ≤ 9223372036854775807
    ·rw [if_pos c3] at H
     have c3b0 := eq_true c3
     have c3b1 : decide (x0_1.size + 1 ≤ 9223372036854775807) = true := decide_eq_true c3
     try have c3b2 : (9223372036854775807 < x0_1.size + 1) = False := eq_false (Nat.not_lt.2 c3)
     have H' := Az.mk H
     clear H
     go_wp2
     go_roundg k1
     case measure => have := HK1.out; omega
     case rel => exact ⟨(x0_1 ++ (⟨#[0]⟩ : ByteArray)), (by first | rfl | (simp; done) | (simp [*]; done)), H', ⟨by have := HK1.out; omega⟩, by repeat (first | exact Drawn0.refl _ | apply Drawn0.step)⟩
    ·rw [if_neg c3] at H
     exact absurd H (by simp)
   ·rw [if_neg c2] at H
    have c2b0 : decide ((x0_1.size : Int) < 3) = false := decide_eq_false c2
    have c2b1 : decide (x0_1.size < 3) = false := decide_eq_false (by omega)
    clear c2
    by_cases c4 : 0 ≤ 3
    ·rw [if_pos c4] at H
     have c4b0 := eq_true c4
     have c4b1 : decide (0 ≤ 3) = true := decide_eq_true c4
     clear c4
     by_cases c5 : 3 ≤ (x0_1.size : Int)
     ·rw [if_pos c5] at H
      have c5b0 := eq_true c5
      have c5b1 : decide (3 ≤ (x0_1.size : Int)) = true := decide_eq_true c5
      clear c5
      obtain rfl := Option.some.inj H
      go_wp2
      go_ret
      exact ⟨by first | rfl | (simp; done) | (simp [*]; done), by repeat (first | exact Drawn0.refl _ | apply Drawn0.step)⟩
     ·rw [if_neg c5] at H
      exact absurd H (by simp)
    ·rw [if_neg c4] at H
     exact absurd H (by simp)
def spec_l71Put.f (k : Nat) (s0_0 : List Int) (s0_1 : Int) : Option (Bool × Int × ByteArray × Int) := (spec_l6Rd_pick.f k s0_0 s0_1 4).bind fun bt843 => (if bt843.1 = 0 then ((spec_l6Rd_pick.f k s0_0 bt843.2 2).bind fun bt845 => ((spec_l71Text.f k s0_0 bt845.2 6).bind fun bt847 => (some (true, bt845.1, bt847.1, bt847.2)))) else ((spec_l6Rd_pick.f k s0_0 bt843.2 12).bind fun bt849 => ((spec_l71Text.f k s0_0 bt849.2 3).bind fun bt851 => ((spec_l1Sec.f k bt851.1).bind fun t853 => (some (false, bt849.1, t853, bt851.2))))))
set_option maxHeartbeats 8000000 in
set_option maxRecDepth 100000 in
theorem spec_l71Put.calls (k : Nat) (g : Nat) (s0_0 : List Int) (s0_1 : Int) (r1 : Bool) (r2 : Int) (r3 : ByteArray) (r4 : Int) (w0 w : World) (hI : IsS104 w0 w g s0_0 s0_1) (hB : Below w0.heap.size w0 w) (h : spec_l71Put.f k s0_0 s0_1 = some (r1, r2, r3, r4)) :
  Calls Try.prog 81 #[.pointer (some ⟨g, 0, none⟩)] w fun e w' => e = .returned (.agg #[.bool r1, .int .i64 r2, .string r3]) ∧ IsS104 w0 w' g s0_0 r4 ∧ Below w0.heap.size w0 w' ∧ KeepBut w w' g none := by
 have hu54 := Try.underlying54
 have HI0 := Az.mk hI
 have HK := Az.mk (KeepBut.refl w g none)
 have HL := Az.mk hB.size
 clear hI
 have HW0 := Az.mk hB.size
 have HB := Az.mk hB
 clear hB
 have H : ((spec_l6Rd_pick.f k s0_0 s0_1 4).bind fun bt843 => (if bt843.1 = 0 then ((spec_l6Rd_pick.f k s0_0 bt843.2 2).bind fun bt845 => ((spec_l71Text.f k s0_0 bt845.2 6).bind fun bt847 => (some (true, bt845.1, bt847.1, bt847.2)))) else ((spec_l6Rd_pick.f k s0_0 bt843.2 12).bind fun bt849 => ((spec_l71Text.f k s0_0 bt849.2 3).bind fun bt851 => ((spec_l1Sec.f k bt851.1).bind fun t853 => (some (false, bt849.1, t853, bt851.2))))))) = some (r1, r2, r3, r4) := h
 clear h
 replace H := Option.bind_eq_some_iff.mp H
 obtain ⟨⟨t843, t844⟩, A20, H⟩ := H
 replace H : (if t843 = 0 then ((spec_l6Rd_pick.f k s0_0 t844 2).bind fun bt845 => ((spec_l71Text.f k s0_0 bt845.2 6).bind fun bt847 => (some (true, bt845.1, bt847.1, bt847.2)))) else ((spec_l6Rd_pick.f k s0_0 t844 12).bind fun bt849 => ((spec_l71Text.f k s0_0 bt849.2 3).bind fun bt851 => ((spec_l1Sec.f k bt851.1).bind fun t853 => (some (false, bt849.1, t853, bt851.2)))))) = some (r1, r2, r3, r4) := H
 have A2 := Az.mk A20
 clear A20
 by_cases c3 : t843 = 0
 ·rw [if_pos c3] at H
  have c3b0 : (t843 == 0) = true := beq_iff_eq.mpr c3
  have c3b1 : (t843 != 0) = false := bne_eq_false_iff_eq.mpr c3
  clear c3
  replace H := Option.bind_eq_some_iff.mp H
  obtain ⟨⟨t845, t846⟩, A40, H⟩ := H
  replace H : ((spec_l71Text.f k s0_0 t846 6).bind fun bt847 => (some (true, t845, bt847.1, bt847.2))) = some (r1, r2, r3, r4) := H
  have A4 := Az.mk A40
  clear A40
  replace H := Option.bind_eq_some_iff.mp H
  obtain ⟨⟨t847, t848⟩, A50, H⟩ := H
  replace H : (some (true, t845, t847, t848)) = some (r1, r2, r3, r4) := H
  have A5 := Az.mk A50
  clear A50
  simp only [Option.some.injEq, Prod.mk.injEq] at H
  obtain ⟨rfl, rfl, rfl, rfl⟩ := H
  go_enter Try.func81, Try.ntmps81
  go_wp2_with (first | ((with_reducible refine zqg (N := 2) rfl ?_); refine zqb ?hg (N := 2) ?hd (cs := #[.bool false, .int .i64 0, .string (⟨#[]⟩ : ByteArray)]) (t := 54) ?hr ?_; (case hd => rfl); (case hg => rfl); (case hr => first | (go_simp; done) | (go_simp; rfl)); intro gb842 hg w6 hbox hb; have n0_ := Az.mk (IsS104.below (by repeat (first | (with_reducible first | exact HI0.out | apply IsS104.alloc | apply IsS104.drewN | apply IsS104.drew | apply IsS104.set_1) | exact HI0.out)) hb); have n1_ := Az.mk (KeepBut.trans (by repeat (first | (with_reducible first | exact HK.out | apply KeepBut.set_ | apply keep_drewN | apply keep_drew | apply keep_alloc) | exact HK.out)) (KeepBut.of_below hb g none) (.inl rfl)); have n2_ := Az.mk (below_step (by repeat (first | (with_reducible first | exact HB.out | apply zq2 | apply zq1 | apply zqd | refine zq3 ?_ (IsS104.ge HI0.out)) | exact HB.out)) hb); have n3_ := Az.mk (hbox); have n4_ := Az.mk ((by rw [hg]; exact (keep_size (w := w) (g := g) (row := none) (by repeat (first | (with_reducible first | exact HK.out | apply KeepBut.set_ | apply keep_drewN | apply keep_drew | apply keep_alloc) | exact HK.out))) : w.heap.size ≤ gb842)); have n5_ := Az.mk ((Nat.le_trans HW0.out (by rw [hg]; exact (keep_size (w := w) (g := g) (row := none) (by repeat (first | (with_reducible first | exact HK.out | apply KeepBut.set_ | apply keep_drewN | apply keep_drew | apply keep_alloc) | exact HK.out))) : w.heap.size ≤ gb842) : w0.heap.size ≤ gb842)); have n6_ := Az.mk ((by rw [hg]; exact Nat.ne_of_lt (IsS104.lt (show IsS104 w0 _ g s0_0 s0_1 from by repeat (first | (with_reducible first | exact HI0.out | apply IsS104.alloc | apply IsS104.drewN | apply IsS104.drew | apply IsS104.set_1) | exact HI0.out))) : g ≠ gb842)); have n7_ := Az.mk ((by rw [hg]; exact Nat.ne_of_gt (IsS104.lt (show IsS104 w0 _ g s0_0 s0_1 from by repeat (first | (with_reducible first | exact HI0.out | apply IsS104.alloc | apply IsS104.drewN | apply IsS104.drew | apply IsS104.set_1) | exact HI0.out))) : gb842 ≠ g)); clear HI0; clear HK; clear HB; have HI0 := n0_; have HK := n1_; have HB := n2_; have BK842 := n3_; have GW842 := n4_; have GE842 := n5_; have NB0_842 := n6_; have NB842_0 := n7_; clear n0_ n1_ n2_ n3_ n4_ n5_ n6_ n7_; clear hb hbox hg) | ((with_reducible refine gate_callee (f := 48) rfl ?_); refine zq9 (some 4) rfl rfl Try.func48 (by kernel_rfl) rfl #[.pointer (some ⟨g, 0, none⟩), .int .i64 4] rfl (by (try simp only [List.map_toArray, List.map_cons, List.map_nil]); first | done | rfl | (simp only [List.length_drop, List.length_take]; rfl)) ?_; (with_reducible refine (spec_l6Rd_pick.calls k g s0_0 s0_1 4 t843 t844 w0 _ ?side1 ?side2 A2.out).mono ?_); (case side1 => repeat (first | (with_reducible first | exact HI0.out | apply IsS104.alloc | apply IsS104.drewN | apply IsS104.drew | apply IsS104.set_1 | refine IsS104.far ?_ NB0_842.out _) | exact HI0.out)); (case side2 => repeat (first | (with_reducible first | exact HB.out | apply zq2 | apply zq1 | apply zqd | refine zq3 ?_ (IsS104.ge HI0.out) | refine zq3 ?_ GE842.out) | exact HB.out)); rintro e w7 ⟨rfl, hi, hb, hk⟩; refine ⟨_, rfl, ?_⟩; have n0_ := Az.mk (KeepBut.blk hk (g' := gb842) (o := .cells #[.bool false, .int .i64 0, .string (⟨#[]⟩ : ByteArray)] 54 (0, 0)) (by (with_reducible repeat (first | refine zq6 ?_ _ | refine zq8 ?_ | refine zq7 ?_ _)); exact BK842.out) NB842_0.out (by simp)); have n1_ := Az.mk (KeepBut.trans (by repeat (first | (with_reducible first | exact HK.out | apply KeepBut.set_ | apply keep_drewN | apply keep_drew | apply keep_alloc | refine keep_far ?_ GW842.out _) | exact HK.out)) hk (.inl rfl)); have n2_ := Az.mk (hb); have n3_ := Az.mk (hi); clear BK842; clear HK; clear HB; clear HI0; have BK842 := n0_; have HK := n1_; have HB := n2_; have HI0 := n3_; clear n0_ n1_ n2_ n3_; (try clear hb); (try clear hb2); (try clear hk); (try clear hi)) | ((with_reducible refine gate_callee (f := 48) rfl ?_); refine zq9 (some 7) rfl rfl Try.func48 (by kernel_rfl) rfl #[.pointer (some ⟨g, 0, none⟩), .int .i64 2] rfl (by (try simp only [List.map_toArray, List.map_cons, List.map_nil]); first | done | rfl | (simp only [List.length_drop, List.length_take]; rfl)) ?_; (with_reducible refine (spec_l6Rd_pick.calls k g s0_0 t844 2 t845 t846 w0 _ ?side1 ?side2 A4.out).mono ?_); (case side1 => repeat (first | (with_reducible first | exact HI0.out | apply IsS104.alloc | apply IsS104.drewN | apply IsS104.drew | apply IsS104.set_1 | refine IsS104.far ?_ NB0_842.out _) | exact HI0.out)); (case side2 => repeat (first | (with_reducible first | exact HB.out | apply zq2 | apply zq1 | apply zqd | refine zq3 ?_ (IsS104.ge HI0.out) | refine zq3 ?_ GE842.out) | exact HB.out)); rintro e w8 ⟨rfl, hi, hb, hk⟩; refine ⟨_, rfl, ?_⟩; have n0_ := Az.mk (KeepBut.blk hk (g' := gb842) (o := .cells #[.bool false, .int .i64 0, .string (⟨#[]⟩ : ByteArray)] 54 (0, 0)) (by (with_reducible repeat (first | refine zq6 ?_ _ | refine zq8 ?_ | refine zq7 ?_ _)); exact BK842.out) NB842_0.out (by simp)); have n1_ := Az.mk (KeepBut.trans (by repeat (first | (with_reducible first | exact HK.out | apply KeepBut.set_ | apply keep_drewN | apply keep_drew | apply keep_alloc | refine keep_far ?_ GW842.out _) | exact HK.out)) hk (.inl rfl)); have n2_ := Az.mk (hb); have n3_ := Az.mk (hi); clear BK842; clear HK; clear HB; clear HI0; have BK842 := n0_; have HK := n1_; have HB := n2_; have HI0 := n3_; clear n0_ n1_ n2_ n3_; (try clear hb); (try clear hb2); (try clear hk); (try clear hi)) | ((with_reducible refine gate_callee (f := 102) rfl ?_); refine zq9 (some 9) rfl rfl Try.func102 (by kernel_rfl) rfl #[.pointer (some ⟨g, 0, none⟩), .int .i64 6] rfl (by (try simp only [List.map_toArray, List.map_cons, List.map_nil]); first | done | rfl | (simp only [List.length_drop, List.length_take]; rfl)) ?_; (with_reducible refine (spec_l71Text.calls k g s0_0 t846 6 t847 t848 w0 _ ?side1 ?side2 A5.out).mono ?_); (case side1 => repeat (first | (with_reducible first | exact HI0.out | apply IsS104.alloc | apply IsS104.drewN | apply IsS104.drew | apply IsS104.set_1 | refine IsS104.far ?_ NB0_842.out _) | exact HI0.out)); (case side2 => repeat (first | (with_reducible first | exact HB.out | apply zq2 | apply zq1 | apply zqd | refine zq3 ?_ (IsS104.ge HI0.out) | refine zq3 ?_ GE842.out) | exact HB.out)); rintro e w9 ⟨rfl, hi, hb, hk⟩; refine ⟨_, rfl, ?_⟩; have n0_ := Az.mk (KeepBut.blk hk (g' := gb842) (o := .cells #[.bool false, .int .i64 0, .string (⟨#[]⟩ : ByteArray)] 54 (0, 0)) (by (with_reducible repeat (first | refine zq6 ?_ _ | refine zq8 ?_ | refine zq7 ?_ _)); exact BK842.out) NB842_0.out (by simp)); have n1_ := Az.mk (KeepBut.trans (by repeat (first | (with_reducible first | exact HK.out | apply KeepBut.set_ | apply keep_drewN | apply keep_drew | apply keep_alloc | refine keep_far ?_ GW842.out _) | exact HK.out)) hk (.inl rfl)); have n2_ := Az.mk (hb); have n3_ := Az.mk (hi); clear BK842; clear HK; clear HB; clear HI0; have BK842 := n0_; have HK := n1_; have HB := n2_; have HI0 := n3_; clear n0_ n1_ n2_ n3_; (try clear hb); (try clear hb2); (try clear hk); (try clear hi); have hnb10 := NB842_0.out; have hnc10 := NB0_842.out; have hcz11_0 : w9.cell? ⟨gb842, 0, none⟩ = some (.bool false) := (zq4 BK842.out 0).trans rfl; have hcz11_1 : w9.cell? ⟨gb842, 1, none⟩ = some (.int .i64 0) := (zq4 BK842.out 1).trans rfl; have hcz11_2 : w9.cell? ⟨gb842, 2, none⟩ = some (.string (⟨#[]⟩ : ByteArray)) := (zq4 BK842.out 2).trans rfl; have hfz11_0 := zq5 BK842.out 0; have hfz11_1 := zq5 BK842.out 1; have hfz11_2 := zq5 BK842.out 2))
  refine bodyPost_ret (results_cell_row rfl _ _ gb842 54 #[.bool true, .int .i64 t845, .string t847] (0, 0) _ rfl (by (with_reducible repeat (first | refine zq6 ?_ _ | refine zq8 ?_ | refine zq7 ?_ _)); refine blk_put (cs := #[.bool true, .int .i64 t845, .string (⟨#[]⟩ : ByteArray)]) ?_ 2 _ rfl; (with_reducible repeat (first | refine zq6 ?_ _ | refine zq8 ?_ | refine zq7 ?_ _)); refine blk_put (cs := #[.bool true, .int .i64 0, .string (⟨#[]⟩ : ByteArray)]) ?_ 1 _ rfl; (with_reducible repeat (first | refine zq6 ?_ _ | refine zq8 ?_ | refine zq7 ?_ _)); refine blk_put (cs := #[.bool false, .int .i64 0, .string (⟨#[]⟩ : ByteArray)]) ?_ 0 _ rfl; (with_reducible repeat (first | refine zq6 ?_ _ | refine zq8 ?_ | refine zq7 ?_ _)); exact BK842.out) Try.underlying54 rfl (by kernel_rfl)) rfl ?_
  exact ⟨by first | rfl | (simp [errW_none, errW_some] <;> rfl) | (simp [*, errW_none, errW_some] <;> rfl), by repeat (first | (with_reducible first | exact HI0.out | apply IsS104.alloc | apply IsS104.drewN | apply IsS104.drew | apply IsS104.set_1 | refine IsS104.far ?_ NB0_842.out _) | exact HI0.out), by repeat (first | (with_reducible first | exact HB.out | apply zq2 | apply zq1 | apply zqd | refine zq3 ?_ (IsS104.ge HI0.out) | refine zq3 ?_ GE842.out) | exact HB.out), by repeat (first | (with_reducible first | exact HK.out | apply KeepBut.set_ | apply keep_drewN | apply keep_drew | apply keep_alloc | refine keep_far ?_ GW842.out _) | exact HK.out)⟩
 ·rw [if_neg c3] at H
  have c3b0 : (t843 == 0) = false := beq_eq_false_iff_ne.mpr c3
  have c3b1 : (t843 != 0) = true := bne_iff_ne.mpr c3
  replace H := Option.bind_eq_some_iff.mp H
  obtain ⟨⟨t849, t850⟩, A120, H⟩ := H
  replace H : ((spec_l71Text.f k s0_0 t850 3).bind fun bt851 => ((spec_l1Sec.f k bt851.1).bind fun t853 => (some (false, t849, t853, bt851.2)))) = some (r1, r2, r3, r4) := H
  have A12 := Az.mk A120
  clear A120
  replace H := Option.bind_eq_some_iff.mp H
  obtain ⟨⟨t851, t852⟩, A130, H⟩ := H
  replace H : ((spec_l1Sec.f k t851).bind fun t853 => (some (false, t849, t853, t852))) = some (r1, r2, r3, r4) := H
  have A13 := Az.mk A130
  clear A130
  replace H := Option.bind_eq_some_iff.mp H
  obtain ⟨t853, A140, H⟩ := H
  replace H : (some (false, t849, t853, t852)) = some (r1, r2, r3, r4) := H
  have A14 := Az.mk A140
  clear A140
  simp only [Option.some.injEq, Prod.mk.injEq] at H
  obtain ⟨rfl, rfl, rfl, rfl⟩ := H
  go_enter Try.func81, Try.ntmps81
  go_wp2_with (first | ((with_reducible refine zqg (N := 2) rfl ?_); refine zqb ?hg (N := 2) ?hd (cs := #[.bool false, .int .i64 0, .string (⟨#[]⟩ : ByteArray)]) (t := 54) ?hr ?_; (case hd => rfl); (case hg => rfl); (case hr => first | (go_simp; done) | (go_simp; rfl)); intro gb842 hg w15 hbox hb; have n0_ := Az.mk (IsS104.below (by repeat (first | (with_reducible first | exact HI0.out | apply IsS104.alloc | apply IsS104.drewN | apply IsS104.drew | apply IsS104.set_1) | exact HI0.out)) hb); have n1_ := Az.mk (KeepBut.trans (by repeat (first | (with_reducible first | exact HK.out | apply KeepBut.set_ | apply keep_drewN | apply keep_drew | apply keep_alloc) | exact HK.out)) (KeepBut.of_below hb g none) (.inl rfl)); have n2_ := Az.mk (below_step (by repeat (first | (with_reducible first | exact HB.out | apply zq2 | apply zq1 | apply zqd | refine zq3 ?_ (IsS104.ge HI0.out)) | exact HB.out)) hb); have n3_ := Az.mk (hbox); have n4_ := Az.mk ((by rw [hg]; exact (keep_size (w := w) (g := g) (row := none) (by repeat (first | (with_reducible first | exact HK.out | apply KeepBut.set_ | apply keep_drewN | apply keep_drew | apply keep_alloc) | exact HK.out))) : w.heap.size ≤ gb842)); have n5_ := Az.mk ((Nat.le_trans HW0.out (by rw [hg]; exact (keep_size (w := w) (g := g) (row := none) (by repeat (first | (with_reducible first | exact HK.out | apply KeepBut.set_ | apply keep_drewN | apply keep_drew | apply keep_alloc) | exact HK.out))) : w.heap.size ≤ gb842) : w0.heap.size ≤ gb842)); have n6_ := Az.mk ((by rw [hg]; exact Nat.ne_of_lt (IsS104.lt (show IsS104 w0 _ g s0_0 s0_1 from by repeat (first | (with_reducible first | exact HI0.out | apply IsS104.alloc | apply IsS104.drewN | apply IsS104.drew | apply IsS104.set_1) | exact HI0.out))) : g ≠ gb842)); have n7_ := Az.mk ((by rw [hg]; exact Nat.ne_of_gt (IsS104.lt (show IsS104 w0 _ g s0_0 s0_1 from by repeat (first | (with_reducible first | exact HI0.out | apply IsS104.alloc | apply IsS104.drewN | apply IsS104.drew | apply IsS104.set_1) | exact HI0.out))) : gb842 ≠ g)); clear HI0; clear HK; clear HB; have HI0 := n0_; have HK := n1_; have HB := n2_; have BK842 := n3_; have GW842 := n4_; have GE842 := n5_; have NB0_842 := n6_; have NB842_0 := n7_; clear n0_ n1_ n2_ n3_ n4_ n5_ n6_ n7_; clear hb hbox hg) | ((with_reducible refine gate_callee (f := 48) rfl ?_); refine zq9 (some 4) rfl rfl Try.func48 (by kernel_rfl) rfl #[.pointer (some ⟨g, 0, none⟩), .int .i64 4] rfl (by (try simp only [List.map_toArray, List.map_cons, List.map_nil]); first | done | rfl | (simp only [List.length_drop, List.length_take]; rfl)) ?_; (with_reducible refine (spec_l6Rd_pick.calls k g s0_0 s0_1 4 t843 t844 w0 _ ?side1 ?side2 A2.out).mono ?_); (case side1 => repeat (first | (with_reducible first | exact HI0.out | apply IsS104.alloc | apply IsS104.drewN | apply IsS104.drew | apply IsS104.set_1 | refine IsS104.far ?_ NB0_842.out _) | exact HI0.out)); (case side2 => repeat (first | (with_reducible first | exact HB.out | apply zq2 | apply zq1 | apply zqd | refine zq3 ?_ (IsS104.ge HI0.out) | refine zq3 ?_ GE842.out) | exact HB.out)); rintro e w16 ⟨rfl, hi, hb, hk⟩; refine ⟨_, rfl, ?_⟩; have n0_ := Az.mk (KeepBut.blk hk (g' := gb842) (o := .cells #[.bool false, .int .i64 0, .string (⟨#[]⟩ : ByteArray)] 54 (0, 0)) (by (with_reducible repeat (first | refine zq6 ?_ _ | refine zq8 ?_ | refine zq7 ?_ _)); exact BK842.out) NB842_0.out (by simp)); have n1_ := Az.mk (KeepBut.trans (by repeat (first | (with_reducible first | exact HK.out | apply KeepBut.set_ | apply keep_drewN | apply keep_drew | apply keep_alloc | refine keep_far ?_ GW842.out _) | exact HK.out)) hk (.inl rfl)); have n2_ := Az.mk (hb); have n3_ := Az.mk (hi); clear BK842; clear HK; clear HB; clear HI0; have BK842 := n0_; have HK := n1_; have HB := n2_; have HI0 := n3_; clear n0_ n1_ n2_ n3_; (try clear hb); (try clear hb2); (try clear hk); (try clear hi)) | ((with_reducible refine gate_callee (f := 48) rfl ?_); refine zq9 (some 12) rfl rfl Try.func48 (by kernel_rfl) rfl #[.pointer (some ⟨g, 0, none⟩), .int .i64 12] rfl (by (try simp only [List.map_toArray, List.map_cons, List.map_nil]); first | done | rfl | (simp only [List.length_drop, List.length_take]; rfl)) ?_; (with_reducible refine (spec_l6Rd_pick.calls k g s0_0 t844 12 t849 t850 w0 _ ?side1 ?side2 A12.out).mono ?_); (case side1 => repeat (first | (with_reducible first | exact HI0.out | apply IsS104.alloc | apply IsS104.drewN | apply IsS104.drew | apply IsS104.set_1 | refine IsS104.far ?_ NB0_842.out _) | exact HI0.out)); (case side2 => repeat (first | (with_reducible first | exact HB.out | apply zq2 | apply zq1 | apply zqd | refine zq3 ?_ (IsS104.ge HI0.out) | refine zq3 ?_ GE842.out) | exact HB.out)); rintro e w17 ⟨rfl, hi, hb, hk⟩; refine ⟨_, rfl, ?_⟩; have n0_ := Az.mk (KeepBut.blk hk (g' := gb842) (o := .cells #[.bool false, .int .i64 0, .string (⟨#[]⟩ : ByteArray)] 54 (0, 0)) (by (with_reducible repeat (first | refine zq6 ?_ _ | refine zq8 ?_ | refine zq7 ?_ _)); exact BK842.out) NB842_0.out (by simp)); have n1_ := Az.mk (KeepBut.trans (by repeat (first | (with_reducible first | exact HK.out | apply KeepBut.set_ | apply keep_drewN | apply keep_drew | apply keep_alloc | refine keep_far ?_ GW842.out _) | exact HK.out)) hk (.inl rfl)); have n2_ := Az.mk (hb); have n3_ := Az.mk (hi); clear BK842; clear HK; clear HB; clear HI0; have BK842 := n0_; have HK := n1_; have HB := n2_; have HI0 := n3_; clear n0_ n1_ n2_ n3_; (try clear hb); (try clear hb2); (try clear hk); (try clear hi)) | ((with_reducible refine gate_callee (f := 102) rfl ?_); refine zq9 (some 14) rfl rfl Try.func102 (by kernel_rfl) rfl #[.pointer (some ⟨g, 0, none⟩), .int .i64 3] rfl (by (try simp only [List.map_toArray, List.map_cons, List.map_nil]); first | done | rfl | (simp only [List.length_drop, List.length_take]; rfl)) ?_; (with_reducible refine (spec_l71Text.calls k g s0_0 t850 3 t851 t852 w0 _ ?side1 ?side2 A13.out).mono ?_); (case side1 => repeat (first | (with_reducible first | exact HI0.out | apply IsS104.alloc | apply IsS104.drewN | apply IsS104.drew | apply IsS104.set_1 | refine IsS104.far ?_ NB0_842.out _) | exact HI0.out)); (case side2 => repeat (first | (with_reducible first | exact HB.out | apply zq2 | apply zq1 | apply zqd | refine zq3 ?_ (IsS104.ge HI0.out) | refine zq3 ?_ GE842.out) | exact HB.out)); rintro e w18 ⟨rfl, hi, hb, hk⟩; refine ⟨_, rfl, ?_⟩; have n0_ := Az.mk (KeepBut.blk hk (g' := gb842) (o := .cells #[.bool false, .int .i64 0, .string (⟨#[]⟩ : ByteArray)] 54 (0, 0)) (by (with_reducible repeat (first | refine zq6 ?_ _ | refine zq8 ?_ | refine zq7 ?_ _)); exact BK842.out) NB842_0.out (by simp)); have n1_ := Az.mk (KeepBut.trans (by repeat (first | (with_reducible first | exact HK.out | apply KeepBut.set_ | apply keep_drewN | apply keep_drew | apply keep_alloc | refine keep_far ?_ GW842.out _) | exact HK.out)) hk (.inl rfl)); have n2_ := Az.mk (hb); have n3_ := Az.mk (hi); clear BK842; clear HK; clear HB; clear HI0; have BK842 := n0_; have HK := n1_; have HB := n2_; have HI0 := n3_; clear n0_ n1_ n2_ n3_; (try clear hb); (try clear hb2); (try clear hk); (try clear hi)) | ((with_reducible refine gate_callee (f := 103) rfl ?_); refine zq9 (some 15) rfl rfl Try.func103 (by kernel_rfl) rfl #[.string t851] rfl (by (try simp only [List.map_toArray, List.map_cons, List.map_nil]); first | done | rfl | (simp only [List.length_drop, List.length_take]; rfl)) ?_; (with_reducible refine (spec_l1Sec.calls k t851 t853 _ A14.out).mono ?_); rintro e w' ⟨rfl, ⟨nd, rfl⟩⟩; refine ⟨_, rfl, ?_⟩; (try (rw [drewN_self w18]; generalize hq_ : World.drewN w18 _ = w18; have n0_ : Az (w18.heap[gb842]? = some (.cells #[.bool false, .int .i64 0, .string (⟨#[]⟩ : ByteArray)] 54 (0, 0))) := ⟨by rw [← hq_]; exact (by (with_reducible repeat (first | refine zq6 ?_ _ | refine zq8 ?_ | refine zq7 ?_ _)); exact BK842.out)⟩; have n1_ : Az (IsS104 w0 w18 g s0_0 t852) := ⟨by rw [← hq_]; exact (by repeat (first | (with_reducible first | exact HI0.out | apply IsS104.alloc | apply IsS104.drewN | apply IsS104.drew | apply IsS104.set_1 | refine IsS104.far ?_ NB0_842.out _) | exact HI0.out))⟩; have n2_ : Az (KeepBut w w18 g none) := ⟨by rw [← hq_]; exact (by repeat (first | (with_reducible first | exact HK.out | apply KeepBut.set_ | apply keep_drewN | apply keep_drew | apply keep_alloc | refine keep_far ?_ GW842.out _) | exact HK.out))⟩; have n3_ : Az (Below w0.heap.size w0 w18) := ⟨by rw [← hq_]; exact (by repeat (first | (with_reducible first | exact HB.out | apply zq2 | apply zq1 | apply zqd | refine zq3 ?_ (IsS104.ge HI0.out) | refine zq3 ?_ GE842.out) | exact HB.out))⟩; clear BK842 HI0 HK HB hq_; have BK842 := n0_; have HI0 := n1_; have HK := n2_; have HB := n3_; clear n0_ n1_ n2_ n3_)); have hnb19 := NB842_0.out; have hnc19 := NB0_842.out; have hcz20_0 : w18.cell? ⟨gb842, 0, none⟩ = some (.bool false) := (zq4 BK842.out 0).trans rfl; have hcz20_1 : w18.cell? ⟨gb842, 1, none⟩ = some (.int .i64 0) := (zq4 BK842.out 1).trans rfl; have hcz20_2 : w18.cell? ⟨gb842, 2, none⟩ = some (.string (⟨#[]⟩ : ByteArray)) := (zq4 BK842.out 2).trans rfl; have hfz20_0 := zq5 BK842.out 0; have hfz20_1 := zq5 BK842.out 1; have hfz20_2 := zq5 BK842.out 2))
  refine bodyPost_ret (results_cell_row rfl _ _ gb842 54 #[.bool false, .int .i64 t849, .string t853] (0, 0) _ rfl (by (with_reducible repeat (first | refine zq6 ?_ _ | refine zq8 ?_ | refine zq7 ?_ _)); refine blk_put (cs := #[.bool false, .int .i64 t849, .string (⟨#[]⟩ : ByteArray)]) ?_ 2 _ rfl; (with_reducible repeat (first | refine zq6 ?_ _ | refine zq8 ?_ | refine zq7 ?_ _)); refine blk_put (cs := #[.bool false, .int .i64 0, .string (⟨#[]⟩ : ByteArray)]) ?_ 1 _ rfl; (with_reducible repeat (first | refine zq6 ?_ _ | refine zq8 ?_ | refine zq7 ?_ _)); refine blk_put (cs := #[.bool false, .int .i64 0, .string (⟨#[]⟩ : ByteArray)]) ?_ 0 _ rfl; (with_reducible repeat (first | refine zq6 ?_ _ | refine zq8 ?_ | refine zq7 ?_ _)); exact BK842.out) Try.underlying54 rfl (by kernel_rfl)) rfl ?_
  exact ⟨by first | rfl | (simp [errW_none, errW_some] <;> rfl) | (simp [*, errW_none, errW_some] <;> rfl), by repeat (first | (with_reducible first | exact HI0.out | apply IsS104.alloc | apply IsS104.drewN | apply IsS104.drew | apply IsS104.set_1 | refine IsS104.far ?_ NB0_842.out _) | exact HI0.out), by repeat (first | (with_reducible first | exact HB.out | apply zq2 | apply zq1 | apply zqd | refine zq3 ?_ (IsS104.ge HI0.out) | refine zq3 ?_ GE842.out) | exact HB.out), by repeat (first | (with_reducible first | exact HK.out | apply KeepBut.set_ | apply keep_drewN | apply keep_drew | apply keep_alloc | refine keep_far ?_ GW842.out _) | exact HK.out)⟩
end Go.Proofs.Ytkgpnloghmbmlaa.Print
namespace Go.Proofs.Ytkgpnloghmbmlaa.Hq
open Go.RowKit Go.Proofs.Ytkgpnloghmbmlaa.Print Go.Proofs.YtkgpnloghmbmlaaW.PrintWords Go.Proofs.YtkgpnloghmbmlaaW.PrintLast Go.Proofs.Ytkgpnloghmbmlaa.Pure Go.Proofs.Ytkgpnloghmbmlaa.Hd
set_option linter.unusedVariables false
theorem text_l0 {b : List Int} (hb : Pure.Code b) (n : Nat) : ∀ (p : Int) (x : List Int), 0 ≤ p → n ≤ 1000 → x.length + n ≤ 1000000 → p + 2 * (n : Int) ≤ 10000000 →
    ∃ s q, Ev (fun k => spec_l71Text.l0 k x (n : Int) b p) (s, q) ∧ s.size ≤ x.length + n ∧ p ≤ q ∧ q ≤ p + 2 * (n : Int) := by
  induction n with
  | zero =>
    intro p x h0 hn hx hp
    refine ⟨strOfNums x, p, Ev.next ?_, by rw [size_strOfNums']; omega, by omega, by omega⟩
    simp only [spec_l71Text.l0]
    exact Ev.neg (by omega) (Ev.ret rfl)
  | succ n ih =>
    intro p x h0 hn hx hp
    obtain ⟨r1, e1, a1, a2, _⟩ := pick_ev hb p 6 (by omega) (by omega)
    obtain ⟨r2, e2, _, _, _⟩ := pick_ev hb (p + 1) 3 (by omega) (by omega)
    have a2 := a2 (by omega)
    obtain ⟨s, q, e3, l1, l2, l3⟩ := ih (p + 1 + 1) (x ++ [((rd ([97, 98, 122, 0, 255, 128] : List Int) r1) + (r2 % 256)) % 256]) (by omega) (by omega) (by rw [List.length_append, List.length_singleton]; omega) (by omega)
    have e : wrap64 (((n + 1 : Nat) : Int) - 1) = (n : Int) := by rw [wrap_ok (by omega)]; omega
    rw [List.length_append, List.length_singleton] at l1
    refine ⟨s, q, Ev.next ?_, by omega, by omega, by omega⟩
    simp only [spec_l71Text.l0, e]
    clear e
    exact Ev.pos (by omega) (Ev.take rfl (Ev.bind e1 (Ev.pos a1 (Ev.pos (by dsimp only [List.length]; omega) (Ev.bind e2 (Ev.pos (by omega) e3))))))
theorem text_ev {b : List Int} (hb : Pure.Code b) (p : Int) (m : Nat) (h0 : 0 ≤ p) (hm : m ≤ 100) (hp : p ≤ 1000000) : ∃ s q, Ev (fun k => spec_l71Text.f k b p (m : Int)) (s, q) ∧ s.size ≤ m ∧ p ≤ q ∧ q ≤ p + 1 + 2 * (m : Int) := by
  have e : wrap64 ((m : Int) + 1) = (m : Int) + 1 := wrap_ok (by omega)
  obtain ⟨r, e1, a1, a2, _⟩ := pick_ev hb p ((m : Int) + 1) (by omega) (by omega)
  have a2 := a2 (by omega)
  obtain ⟨n, rfl⟩ := Int.eq_ofNat_of_zero_le a1
  obtain ⟨s, q, e2, l1, l2, l3⟩ := text_l0 hb n (p + 1) [] (by omega) (by omega) (by simp; omega) (by omega)
  refine ⟨s, q, ?_, by simp at l1; omega, by omega, by omega⟩
  unfold spec_l71Text.f
  rw [e]
  exact Ev.bind e1 e2
theorem sec_ev (n : Nat) : ∀ s : ByteArray, s.size + n = 3 ∨ (n = 0 ∧ 3 ≤ s.size) → ∃ r, Ev (fun k => spec_l1Sec.f k s) r ∧ r.size = 3 := by
  induction n with
  | zero =>
    intro s hs
    refine ⟨s.extract 0 3, Ev.next ?_, by simp [ByteArray.size_extract]; omega⟩
    simp only [spec_l1Sec.f, spec_l1Sec.l0]
    exact Ev.neg (by omega) (Ev.pos (by omega) (Ev.pos (by omega) (Ev.ret rfl)))
  | succ n ih =>
    intro s hs
    have h1 : (s ++ (⟨#[0]⟩ : ByteArray)).size = s.size + 1 := by rw [ByteArray.size_append]; rfl
    obtain ⟨r, e, hr⟩ := ih (s ++ (⟨#[0]⟩ : ByteArray)) (by omega)
    refine ⟨r, Ev.next ?_, hr⟩
    simp only [spec_l1Sec.f, spec_l1Sec.l0]
    exact Ev.pos (by omega) (Ev.pos (by omega) e)
theorem put_ev {b : List Int} (hb : Pure.Code b) (p : Int) (h0 : 0 ≤ p) (hp : p ≤ 900000) : ∃ (x : S54) (q : Int), Ev (fun k => spec_l71Put.f k b p) (x.f0, x.f1, x.f2, q) ∧ putB x = true ∧ p ≤ q ∧ q ≤ p + 30 := by
  obtain ⟨r, e1, a1, a2, _⟩ := pick_ev hb p 4 (by omega) (by omega)
  unfold spec_l71Put.f
  by_cases hr : r = 0
  · obtain ⟨r2, e2, c1, c2, _⟩ := pick_ev hb (p + 1) 2 (by omega) (by omega)
    have c2 := c2 (by omega)
    obtain ⟨s, q, e3, l1, l2, l3⟩ := text_ev hb (p + 1 + 1) 6 (by omega) (by omega) (by omega)
    refine ⟨⟨true, r2, s⟩, q, Ev.bind e1 (Ev.pos hr (Ev.bind e2 (Ev.bind e3 (Ev.ret rfl)))), ?_, by omega, by omega⟩
    unfold putB
    rw [if_pos rfl]
    exact decide_eq_true ⟨c1, c2, by show s.size ≤ 700; omega⟩
  · obtain ⟨r2, e2, c1, c2, _⟩ := pick_ev hb (p + 1) 12 (by omega) (by omega)
    have c2 := c2 (by omega)
    obtain ⟨s, q, e3, l1, l2, l3⟩ := text_ev hb (p + 1 + 1) 3 (by omega) (by omega) (by omega)
    obtain ⟨t, e4, ht⟩ := sec_ev (3 - s.size) s (by omega)
    refine ⟨⟨false, r2, t⟩, q, Ev.bind e1 (Ev.neg hr (Ev.bind e2 (Ev.bind e3 (Ev.bind e4 (Ev.ret rfl))))), ?_, by omega, by omega⟩
    unfold putB
    rw [if_neg (by simp)]
    exact decide_eq_true ⟨c1, c2, ht⟩
structure Rdr (w0 : World) (b : List Int) (m : Nat) (cs : Array Value) : Prop where
  ok : ∃ A c p, cs = #[.slice A b.length c, .int .i64 p] ∧ Kd.C (Kd.int .u8) w0 A b.length b ∧ 0 ≤ p ∧ p + m ≤ 500000
  code : Pure.Code b
theorem Rdr.less {w0 : World} {b : List Int} {m m' : Nat} {cs : Array Value} (h : Rdr w0 b m cs) (hm : m' ≤ m) : Rdr w0 b m' cs := by
  obtain ⟨A, c, p, h1, h2, h3, h4⟩ := h.ok
  exact ⟨⟨A, c, p, h1, h2, h3, by omega⟩, h.code⟩
section
variable {w0 ws w : World} {L : List Part} {b : List Int} {g : Nat} {cs : Array Value}
theorem is_of (H : Hq w0.heap.size ws w L) (i : Nat) (e : L[i]? = some (.box g cs 104)) {A : Option Addr} {c : Nat} {p : Int} (hcs : cs = #[.slice A b.length c, .int .i64 p]) (hC : Kd.C (Kd.int .u8) w0 A b.length b) : IsS104 w0 w g b p :=
  ⟨A, c, by rw [← hcs]; exact H.box i e, H.box_ge i e, hC⟩
theorem rd_of {w' : World} (hB : Below w0.heap.size w0 ws) (H : Hq w0.heap.size ws w L) (i : Nat) (e : L[i]? = some (.box g cs 104)) (hc : Pure.Code b) {q : Int} {m : Nat} (hq : 0 ≤ q ∧ q + m ≤ 500000) (hI : IsS104 w0 w' g b q) (hb : Below w0.heap.size w0 w') (hk : KeepBut w w' g none) :
    ∃ cs', Rdr w0 b m cs' ∧ Hq w0.heap.size ws w' (L.set i (.box g cs' 104)) := by
  obtain ⟨A, c, h1, h2, h3⟩ := hI
  have hbel := hB.trans H.bel
  exact ⟨_, ⟨⟨A, c, q, rfl, h3, hq.1, hq.2⟩, hc⟩, H.put_box i e h1 ⟨hb.os.trans hbel.os.symm, hb.tape.trans hbel.tape.symm, hb.output.trans hbel.output.symm, hk.1, fun k h1 => (hb.block k h1).trans (hbel.block k h1).symm⟩ fun k h1 h2 => hk.2 k h1 h2 (by simp)⟩
theorem pick_callq {m : Nat} (hB : Below w0.heap.size w0 ws) (H : Hq w0.heap.size ws w L) (i : Nat) (e : L[i]? = some (.box g cs 104)) (hr : Rdr w0 b (m + 1) cs) (n : Int) (hn : 1 ≤ n ∧ n ≤ 100000) :
    Calls Try.prog 48 #[.pointer (some ⟨g, 0, none⟩), .int .i64 n] w fun e w' => ∃ (r : Nat) (cs' : Array Value), e = .returned (.int .i64 (r : Int)) ∧ (r : Int) < n ∧ Rdr w0 b m cs' ∧ Hq w0.heap.size ws w' (L.set i (.box g cs' 104)) := by
  obtain ⟨A, c, p, h1, h2, h3, h4⟩ := hr.ok
  obtain ⟨r, e1, a1, a2, _⟩ := pick_ev hr.code p n (by omega) (by omega)
  obtain ⟨K, hK⟩ := e1
  obtain ⟨r, rfl⟩ := Int.eq_ofNat_of_zero_le a1
  refine (spec_l6Rd_pick.calls K g b p n r (p + 1) w0 w (is_of H i e h1 h2) (hB.trans H.bel) (hK K (Nat.le_refl _))).mono fun e' w' hh => ?_
  obtain ⟨he, hI, hb, hk⟩ := hh
  obtain ⟨cs', q1, q2⟩ := rd_of hB H i e hr.code (m := m) (by omega) hI hb hk
  exact ⟨r, cs', he, a2 (by omega), q1, q2⟩
theorem put_callq {m : Nat} (hB : Below w0.heap.size w0 ws) (H : Hq w0.heap.size ws w L) (i : Nat) (e : L[i]? = some (.box g cs 104)) (hr : Rdr w0 b (m + 30) cs) :
    Calls Try.prog 81 #[.pointer (some ⟨g, 0, none⟩)] w fun e w' => ∃ (x : S54) (cs' : Array Value), e = .returned (.agg (cP x)) ∧ putB x = true ∧ Rdr w0 b m cs' ∧ Hq w0.heap.size ws w' (L.set i (.box g cs' 104)) := by
  obtain ⟨A, c, p, h1, h2, h3, h4⟩ := hr.ok
  obtain ⟨x, q, e1, a1, a2, a3⟩ := put_ev hr.code p (by omega) (by omega)
  obtain ⟨K, hK⟩ := e1
  refine (spec_l71Put.calls K g b p x.f0 x.f1 x.f2 q w0 w (is_of H i e h1 h2) (hB.trans H.bel) (hK K (Nat.le_refl _))).mono fun e' w' hh => ?_
  obtain ⟨he, hI, hb, hk⟩ := hh
  obtain ⟨cs', q1, q2⟩ := rd_of hB H i e hr.code (m := m) (by omega) hI hb hk
  exact ⟨x, cs', he, a1, q1, q2⟩
end
end Go.Proofs.Ytkgpnloghmbmlaa.Hq
namespace Go.Proofs.Ytkgpnloghmbmlaa.Hq
open Go.RowKit Go.Proofs.Ytkgpnloghmbmlaa.Print Go.Proofs.YtkgpnloghmbmlaaW.PrintWords Go.Proofs.YtkgpnloghmbmlaaW.PrintLast Go.Proofs.YtkgpnloghmbmlaaW.PrintMore Go.Proofs.Ytkgpnloghmbmlaa.Pure Go.Proofs.Ytkgpnloghmbmlaa.Hd
set_option linter.unusedVariables false
theorem blk_frz0 {w : World} {g : Nat} {cs : Array Value} {t : TypeId} (h : w.heap[g]? = some (.cells cs t (0, 0))) (j : Nat) : w.frozen? ⟨g, j, none⟩ = false := by simp [World.frozen?, h]
section
variable {P : Program} {ops : Array Oper} {Q : Exit → Act → World → Prop} {rest : List Oper} {o : Oper} {a : Act} {base : Nat} {w0 w : World} {L : List Part} {Kc : Act → World → Prop}
theorem Hq.lit (h : Hq base w0 w L) (hgd : o.guard = none) (cs : Array Value) (t : TypeId) (n : Nat)
    (hrun : (execOp a.eval o).run P w = .ok (.value (.slice (some ⟨w.heap.size, 0, none⟩) n n)) (w.alloc (.cells cs t (0, 0))))
    (k : ∀ g w1, Az (Hq base w0 w1 (.box g cs t :: L)) → wpList P ops Q rest (a.put o.dst (.slice (some ⟨g, 0, none⟩) n n)) w1) : wpList P ops Q (o :: rest) a w :=
  Kd.event_run hgd hrun (k _ _ ⟨h.boxed rfl (blk_new w _) (zq2 (Below.refl _ _) _)⟩)
theorem Hq.run_stb (h : Hq base w0 w L) (i : Nat) {g : Nat} {cs : Array Value} {t : TypeId} (e : L[i]? = some (.box g cs t)) (j : Nat) {u v : Value} (hj : cs[j]? = some u) {ty : TypeId} {x y : Operand} (hi : (P.info? ty).map (·.size) = some 1) (ho : o.op = .store ty x y) (hx : a.eval x = .pointer (some ⟨g, j, none⟩)) (hy : a.eval y = v) (h1 : v.oneCell' = true) :
    (execOp a.eval o).run P w = .ok .skip (w.setCell ⟨g, j, none⟩ v) :=
  run_sc hi ((zq4 (h.box i e) j).trans hj) (blk_frz0 (h.box i e) j) ho hx hy h1
theorem Hq.stb (h : Hq base w0 w L) (i : Nat) {g : Nat} {cs : Array Value} {t : TypeId} (e : L[i]? = some (.box g cs t)) (j : Nat) {u : Value} (v : Value) (hj : cs[j]? = some u) (hgd : o.guard = none) {ty : TypeId} {x y : Operand} (hi : (P.info? ty).map (·.size) = some 1) (ho : o.op = .store ty x y) (hN : o.dst = none) (hx : a.eval x = .pointer (some ⟨g, j, none⟩)) (hy : a.eval y = v) (h1 : v.oneCell' = true)
    (k : ∀ w1, Az (Hq base w0 w1 (L.set i (.box g (cs.setIfInBounds j v) t))) → wpList P ops Q rest a w1) : wpList P ops Q (o :: rest) a w :=
  h.st_cell i e j v hgd hN (h.run_stb i e j hj hi ho hx hy h1) k
theorem last_st {w1 : World} (hw : Region.wanted o (yielded ops a.tmps) = true) (hN : o.dst = none) (hrun : (execOp a.eval o).run P w = .ok .skip w1) (k : Kc a w1) : if Region.wanted o (yielded ops a.tmps) = true then Oper.wp P o a w Kc Q else Kc (a.put none undef) w := by
  rw [if_pos hw]
  unfold Oper.wp
  rw [hrun]
  show Kc (a.put o.dst undef) _
  rw [hN]
  exact k
theorem Hq.last_row (h : Hq base w0 w L) (i : Nat) {g : Nat} {cs : Array Value} {t : TypeId} (e : L[i]? = some (.box g cs t)) (hw : Region.wanted o (yielded ops a.tmps) = true) {ty : TypeId} {x y : Operand} (ho : o.op = .store ty x y) (hN : o.dst = none) (hx : a.eval x = .pointer (some ⟨g, 0, none⟩)) (cs' : Array Value) (hy : a.eval y = .agg cs')
    (hi : (P.info? ty).map (·.size) = some cs'.size) (hs : cs.size = cs'.size) (h1 : cs'.all (·.oneCell') = true) (k : ∀ w1, Az (Hq base w0 w1 (L.set i (.box g cs' t))) → Kc a w1) : if Region.wanted o (yielded ops a.tmps) = true then Oper.wp P o a w Kc Q else Kc (a.put none undef) w :=
  last_st hw hN (h.run_st i e ho hx cs' hy hi hs h1) (k _ ⟨h.set_row i e cs'⟩)
theorem Hq.last_cell (h : Hq base w0 w L) (i : Nat) {g : Nat} {cs : Array Value} {t : TypeId} (e : L[i]? = some (.box g cs t)) (j : Nat) {u : Value} (v : Value) (hj : cs[j]? = some u) (hw : Region.wanted o (yielded ops a.tmps) = true) {ty : TypeId} {x y : Operand} (hi : (P.info? ty).map (·.size) = some 1) (ho : o.op = .store ty x y) (hN : o.dst = none) (hx : a.eval x = .pointer (some ⟨g, j, none⟩)) (hy : a.eval y = v) (h1 : v.oneCell' = true)
    (k : ∀ w1, Az (Hq base w0 w1 (L.set i (.box g (cs.setIfInBounds j v) t))) → Kc a w1) : if Region.wanted o (yielded ops a.tmps) = true then Oper.wp P o a w Kc Q else Kc (a.put none undef) w :=
  last_st hw hN (h.run_stb i e j hj hi ho hx hy h1) (k _ ⟨h.set_box i e j v⟩)
end
def moreD (D : Dd) (p : S54) : Dd := { D with l4 := D.l4 ++ [p] }
def newS (S : Nat → Prop) (w w' : World) : Nat → Prop := fun k => (S k ∨ w.heap.size ≤ k) ∧ k < w'.heap.size
section
variable {b : Nat} {ws W w1 : World} {L : List Part} {S : Nat → Prop} {wo : World} {M : Mm} {D : Dd}
theorem app_of (H : Hq b ws W L) (i : Nat) (e : L[i]? = some (.set S wo)) (O : OwS wo b S M D) {p : S54} {v1 : Value} (hr : Kd.R k54 54 w1 b (fun k => S k ∨ W.heap.size ≤ k) v1 (D.l4 ++ [p])) (hb : Below b ws w1) (hg : W.grownBy w1 (M.s4 D).ownBlock) :
    ∃ A c, v1 = .slice A (D.l4 ++ [p]).length c ∧ Hq b ws w1 (L.set i (.set (newS S W w1) w1)) ∧ OwS w1 b (newS S W w1) ⟨M.A1, M.c1, M.A2, M.c2, M.A3, M.c3, A, c⟩ (moreD D p) := by
  obtain ⟨A, c, rfl⟩ := Kd.R_slice hr
  have O' := H.ows i e O
  have g4 := own_ge O'.o4
  have hbel := H.bel
  refine ⟨A, c, rfl, H.wrote i e ⟨hb.os.trans hbel.os.symm, hb.tape.trans hbel.tape.symm, hb.output.trans hbel.output.symm, hg.size, fun k h1 => (hb.block k h1).trans (hbel.block k h1).symm⟩ (fun k h1 h2 => hg.block k h1 fun e => h2 (g4 k e.symm).2), ?_⟩
  have up : ∀ k, (S k ∨ W.heap.size ≤ k) → k < w1.heap.size → newS S W w1 k := fun k h1 h2 => ⟨h1, h2⟩
  exact ⟨Kd.R_mono (Kd.R_bound (R_far_types O'.o1 O'.o4 (by decide) hg ownerless_string)) fun k hk => ⟨up k (.inl hk.1.1) hk.2.2.1, hk.1.2⟩, Kd.R_mono (Kd.R_bound (R_far_types O'.o2 O'.o4 (by decide) hg ownerless_string)) fun k hk => ⟨up k (.inl hk.1.1) hk.2.2.1, hk.1.2⟩,
    Kd.R_mono (Kd.R_bound (R_far_types O'.o3 O'.o4 (by decide) hg ownerless_bool)) fun k hk => up k (.inl hk.1) hk.2.2.1, Kd.R_mono (Kd.R_bound hr) fun k hk => up k hk.1 hk.2.2.1⟩
end
section
variable {ops : Array Oper} {Q : Exit → Act → World → Prop} {rest : List Oper} {o : Oper} {a : Act} {b : Nat} {ws W w1 : World} {L : List Part} {S : Nat → Prop} {wo : World} {M : Mm} {D : Dd} {Kc : Act → World → Prop}
theorem Hq.app (H : Hq b ws W L) (i : Nat) (e : L[i]? = some (.set S wo)) (O : OwS wo b S M D) (hl : D.l4.length ≤ 1000) (p : S54) (hgd : o.guard = none) (s x : Operand) (ho : o.op = .call { callee := .builtin .append, args := #[s, x], argTypes := #[26, 26] }) (hs : a.eval s = .slice M.A4 D.l4.length M.c4) (hx : a.eval x = .slice (some ⟨W.heap.size, 0, none⟩) 1 1)
    (k : ∀ A c w1 (q : List S54), Az (q = D.l4 ++ [p]) → Az (Hq b ws w1 (L.set i (.set (newS S W w1) w1))) → Az (OwS w1 b (newS S W w1) ⟨M.A1, M.c1, M.A2, M.c2, M.A3, M.c3, A, c⟩ { D with l4 := q }) → wpList Try.prog ops Q rest (a.put o.dst (.slice A q.length c)) w1) :
    wpList Try.prog ops Q (o :: rest) a (W.alloc (.cells #[.bool p.f0, .int .i64 p.f1, .string p.f2] 54)) := by
  have O' := H.ows i e O
  refine Kd.R_append k54 (w0 := ws) b hgd s x 26 54 (.agg #[(.bool false), (.int .i64 0), (.string ⟨#[]⟩)]) 32 ho Try.underlying26 info54 rfl (by decide) (by omega) (M.s4 D) D.l4 p [.bool p.f0, .int .i64 p.f1, .string p.f2] (fun k => S k ∨ W.heap.size ≤ k) (fun _ => False) hs hx (k54_mkM _ _ _ p) (fun _ hk => hk.elim) (fun k hk => .inr hk) (Kd.R_mono O'.o4 fun _ hk => .inl hk) H.bel H.ge (by omega) ?_
  intro v1 w1 hr hb hg _
  obtain ⟨A, c, rfl, h1, h2⟩ := app_of H i e O hr hb hg
  exact k A c w1 _ ⟨rfl⟩ ⟨h1⟩ ⟨h2⟩
theorem Hq.app_ (H : Hq b ws W L) (i : Nat) (e : L[i]? = some (.set S wo)) (O : OwS wo b S M D) (hl : D.l4.length ≤ 1000) (p : S54) (hw : Region.wanted o (yielded ops a.tmps) = true) (s x : Operand) (ho : o.op = .call { callee := .builtin .append, args := #[s, x], argTypes := #[26, 26] }) (hs : a.eval s = .slice M.A4 D.l4.length M.c4) (hx : a.eval x = .slice (some ⟨W.heap.size, 0, none⟩) 1 1)
    (k : ∀ A c w1 (q : List S54), Az (q = D.l4 ++ [p]) → Az (Hq b ws w1 (L.set i (.set (newS S W w1) w1))) → Az (OwS w1 b (newS S W w1) ⟨M.A1, M.c1, M.A2, M.c2, M.A3, M.c3, A, c⟩ { D with l4 := q }) → Kc (a.put o.dst (.slice A q.length c)) w1) :
    if Region.wanted o (yielded ops a.tmps) = true then Oper.wp Try.prog o a (W.alloc (.cells #[.bool p.f0, .int .i64 p.f1, .string p.f2] 54)) Kc Q else Kc (a.put o.dst undef) (W.alloc (.cells #[.bool p.f0, .int .i64 p.f1, .string p.f2] 54)) := by
  have O' := H.ows i e O
  refine Kd.R_append_step k54 (w0 := ws) b hw s x 26 54 (.agg #[(.bool false), (.int .i64 0), (.string ⟨#[]⟩)]) 32 ho Try.underlying26 info54 rfl (by decide) (by omega) (M.s4 D) D.l4 p [.bool p.f0, .int .i64 p.f1, .string p.f2] (fun k => S k ∨ W.heap.size ≤ k) (fun _ => False) hs hx (k54_mkM _ _ _ p) (fun _ hk => hk.elim) (fun k hk => .inr hk) (Kd.R_mono O'.o4 fun _ hk => .inl hk) H.bel H.ge (by omega) ?_
  intro v1 w1 hr hb hg _
  obtain ⟨A, c, rfl, h1, h2⟩ := app_of H i e O hr hb hg
  exact k A c w1 _ ⟨rfl⟩ ⟨h1⟩ ⟨h2⟩
end
def LiesS (w : World) (S : Nat → Prop) (M : Mm) (D : Dd) : Prop := ∀ w', (∀ k, S k → w'.heap[k]? = w.heap[k]?) → Rd w' M D
theorem OwS.lies {w : World} {b : Nat} {S : Nat → Prop} {M : Mm} {D : Dd} (h : OwS w b S M D) : LiesS w S M D := fun w' hk => (h.move hk).rd
theorem OwS.lies_drop {w : World} {b : Nat} {S : Nat → Prop} {A1 A3 A4 : Option Addr} {g2 c1 c2 c3 c4 : Nat} {D : Dd} (h : OwS w b S ⟨A1, c1, some ⟨g2, 0, none⟩, c2, A3, c3, A4, c4⟩ D) (h2 : D.l2.length = 2) : LiesS w S ⟨A1, c1, some ⟨g2, 1, none⟩, c2 - 1, A3, c3, A4, c4⟩ { D with l2 := D.l2.drop 1 } := fun w' hk => by
  have r := (h.move hk).rd
  have hc : 2 ≤ c2 := by have := r.h2; simp only at this; omega
  have q := Kd.C_drop (m := 1) r.r2 (by omega) r.h2
  rw [if_neg (by simp only; omega)] at q
  have hz : (⟨g2, 0, none⟩ : Addr).add (1 * Kd.string.sz) = ⟨g2, 1, none⟩ := add0 g2 1
  rw [Option.map_some, hz] at q
  exact ⟨r.r1, r.h1, q, by show (D.l2.drop 1).length ≤ c2 - 1; rw [List.length_drop]; omega, r.r3, r.h3, r.r4, r.h4⟩
theorem Hq.apart {b : Nat} {ws w : World} {L : List Part} (H : Hq b ws w L) (i j : Nat) {p q : Part} (hij : i ≠ j) (e : L[i]? = some p) (e' : L[j]? = some q) : p.Off q := by
  obtain ⟨hi1, hi2⟩ := List.getElem?_eq_some_iff.1 e
  obtain ⟨hj1, hj3⟩ := List.getElem?_eq_some_iff.1 e'
  rw [← hi2, ← hj3]
  rcases Nat.lt_or_gt_of_ne hij with hl | hl
  · exact List.pairwise_iff_getElem.1 H.dis i j hi1 hj1 hl
  · exact (List.pairwise_iff_getElem.1 H.dis j i hj1 hi1 hl).symm
def DrawsDisk (w0 : World) (b : List Int) (g m : Nat) (w : World) (e : Ending) (w' : World) : Prop := ∃ (M : Mm) (D : Dd) (cs' : Array Value), e = .returned (.agg (cD M D)) ∧ FitsD D ∧ (∀ w'', (∀ k, w.heap.size ≤ k → k < w'.heap.size → w''.heap[k]? = w'.heap[k]?) → Rd w'' M D) ∧ Rdr w0 b m cs' ∧ w'.heap[g]? = some (.cells cs' 104 (0, 0)) ∧ Below w0.heap.size w w' ∧ ∀ k, k < w.heap.size → k ≠ g → w'.heap[k]? = w.heap[k]?
theorem draws_of {w0 w w' wo : World} {b : List Int} {g m : Nat} {L : List Part} {cs' : Array Value} {S : Nat → Prop} {M : Mm} {D : Dd} (hwg : g < w.heap.size) (H : Hq w0.heap.size w w' L) (ig ir io : Nat) (eg : L[ig]? = some (.box g cs' 104)) (er : L[ir]? = some (.set (fun k => k ≠ g ∧ w0.heap.size ≤ k ∧ k < w.heap.size) w)) (eo : L[io]? = some (.set S wo)) (n1 : io ≠ ig) (n2 : io ≠ ir) (hr : Rdr w0 b m cs') (hl : LiesS wo S M D) (hf : FitsD D) : DrawsDisk w0 b g m w (.returned (.agg (cD M D))) w' := by
  refine ⟨M, D, cs', rfl, hf, fun w'' hk => hl w'' fun k hS => ?_, hr, H.box ig eg, H.bel, fun k h1 h2 => ?_⟩
  · have hin := H.set_in io eo k hS
    rw [← H.same io eo k hS]
    refine hk k ?_ hin.2
    refine Nat.le_of_not_lt fun hlt => ?_
    by_cases hg : k = g
    · exact H.apart io ig n1 eo eg k hS hg
    · exact H.apart io ir n2 eo er k hS ⟨hg, hin.1, hlt⟩
  · by_cases hb : w0.heap.size ≤ k
    · exact H.same ir er k ⟨h2, hb, h1⟩
    · exact H.bel.block k (by omega)
end Go.Proofs.Ytkgpnloghmbmlaa.Hq
namespace Go.Proofs.Ytkgpnloghmbmlaa.Hq
open Go.RowKit Go.Proofs.Ytkgpnloghmbmlaa.Print Go.Proofs.YtkgpnloghmbmlaaW.PrintWords Go.Proofs.YtkgpnloghmbmlaaW.PrintLast Go.Proofs.YtkgpnloghmbmlaaW.PrintMore Go.Proofs.Ytkgpnloghmbmlaa.Pure Go.Proofs.Ytkgpnloghmbmlaa.Hd
set_option linter.unusedVariables false
set_option linter.unusedSimpArgs false
theorem cell4' {M : Mm} {D : Dd} {n : Nat} (h : D.l4.length = n) : (cD M D)[4]? = some (.slice M.A4 n M.c4) := by rw [← h]; rfl
theorem OwS.up {w w' : World} {b : Nat} {S S' : Nat → Prop} {M : Mm} {D : Dd} (h : OwS w b S M D) (hi : ∀ k, S k → S' k) : OwS w b S' M D := ⟨Kd.R_mono h.o1 fun k hk => ⟨hi k hk.1, hk.2⟩, Kd.R_mono h.o2 fun k hk => ⟨hi k hk.1, hk.2⟩, Kd.R_mono h.o3 fun k hk => hi k hk, Kd.R_mono h.o4 fun k hk => hi k hk⟩
theorem Hq.start (w : World) : Hq w.heap.size w w [] := ⟨Below.refl _ _, Nat.le_refl _, fun _ h => (by cases h), List.Pairwise.nil⟩
theorem touch_as {b : Nat} {S : Nat → Prop} {D D' : Dd} {w w' : World} {e : Ending} (h : D = D') (t : Touch b S D w e w') : Touch b S D' w e w' := h ▸ t
theorem touch_end {b : Nat} {w w' wo : World} {L : List Part} {S S1 : Nat → Prop} {M : Mm} {D : Dd} (H : Hq b w w' L) (i j : Nat) (eo : L[i]? = some (.set S1 wo)) (er : L[j]? = some (.set (fun k => ¬ S k ∧ b ≤ k ∧ k < w.heap.size) w)) (hij : i ≠ j) (O : OwS wo b S1 M D) : Touch b S D w (.returned (.agg (cD M D))) w' := by
  refine ⟨M, rfl, (H.ows i eo O).up (w' := w') fun k hk => ?_, H.bel, H.kept j er⟩
  have hin := H.set_in i eo k hk
  refine ⟨?_, hin.2⟩
  by_cases hS : S k
  · exact .inl hS
  · refine .inr (Nat.le_of_not_lt fun hlt => H.apart i j hij eo er k hk ⟨hS, hin.1, hlt⟩)
section
variable {ops : Array Oper} {Q : Exit → Act → World → Prop} {rest : List Oper} {o : Oper} {a : Act} {w : World}
theorem lit54 (p : S54) (hgd : o.guard = none) (hrun : (execOp a.eval o).run Try.prog w = .ok (.value (.slice (some ⟨w.heap.size, 0, none⟩) 1 1)) (w.alloc (.cells #[.bool p.f0, .int .i64 p.f1, .string p.f2] 54)))
    (k : wpList Try.prog ops Q rest (a.put o.dst (.slice (some ⟨w.heap.size, 0, none⟩) 1 1)) (w.alloc (.cells #[.bool p.f0, .int .i64 p.f1, .string p.f2] 54))) : wpList Try.prog ops Q (o :: rest) a w := Kd.event_run hgd hrun k
end
theorem OwS.own {w : World} {b : Nat} {S : Nat → Prop} {M : Mm} {D : Dd} (h : OwS w b S M D) : Own w b w.heap.size M D :=
  ⟨Kd.R_mono (Kd.R_bound h.o1) fun k hk => ⟨hk.2.2.1, hk.1.2⟩, Kd.R_mono (Kd.R_bound h.o2) fun k hk => ⟨hk.2.2.1, hk.1.2⟩, Kd.R_mono (Kd.R_bound h.o3) fun k hk => hk.2.2.1, Kd.R_mono (Kd.R_bound h.o4) fun k hk => hk.2.2.1⟩
theorem sizeZ26 : (Try.prog.info? 26).map (·.size) = some 1 := by kernel_rfl
set_option maxHeartbeats 8000000 in
set_option maxRecDepth 100000 in
theorem l3Write_callz {w0 w : World} {S : Nat → Prop} {M : Mm} {D : Dd} (hB : Below w0.heap.size w0 w) (hS : ∀ k, S k → w0.heap.size ≤ k ∧ k < w.heap.size) (h : OwS w w0.heap.size S M D) (hg : GoodD D) (p : S54) : Calls Try.prog 85 #[.agg (cD M D), .agg (cP p)] w (Touch w0.heap.size S (laidD D p) w) := by
  have hs28 := sizeE28
  have hs54 := sizeE54
  have HB := Az.mk hB
  have HG := Az.mk hg
  have O := Az.mk h
  have H := Az.mk (Hq.start_set w hB.size hS)
  have tk0 : True := trivial
  clear hB hS h
  by_cases h1 : D.st = 1
  · skip
    have HE := Az.mk (show D = laidD D p from (if_pos h1).symm)
    have hs1 : (D.st == 1) = true := by simp [h1]
    clear h1
    clear hg
    go_enter Try.func85, Try.ntmps85
    go_wp2_with (first | ((with_reducible refine zqg (N := 2) rfl ?_); refine H.out.bx rfl (cD M D) 28 ?hr ?_; (case hr => first | (go_simp; done) | (go_simp; rfl)); intro g2 w2 H1; clear H; have H := H1; clear H1; (try simp only [Act.put, List.setIfInBounds_toArray, List.set_cons_zero, List.set_cons_succ])) | ((with_reducible refine zqg (N := 3) rfl ?_); refine H.out.bx rfl (cP p) 54 ?hr ?_; (case hr => first | (go_simp; done) | (go_simp; rfl)); intro g3 w3 H1; clear H; have H := H1; clear H1; (try simp only [Act.put, List.setIfInBounds_toArray, List.set_cons_zero, List.set_cons_succ])) | ((with_reducible refine zqg (N := 4) rfl ?_); refine H.out.bx rfl (#[.int .i64 0, .slice none 0 0, .slice none 0 0, .slice none 0 0, .slice none 0 0]) 28 ?hr ?_; (case hr => first | (go_simp; done) | (go_simp; rfl)); intro g4 w4 H1; clear H; have H := H1; clear H1; (try simp only [Act.put, List.setIfInBounds_toArray, List.set_cons_zero, List.set_cons_succ])) | ((with_reducible refine zqg (N := 6) rfl ?_); refine H.out.ld_cell 2 rfl 0 (v := .int .i64 D.st) rfl rfl rfl rfl Try.underlying3 rfl ?_; (try simp only [Act.put, List.setIfInBounds_toArray, List.set_cons_zero, List.set_cons_succ])) | ((with_reducible refine zqg (N := 8) rfl ?_); refine H.out.ld_row 2 rfl rfl rfl rfl Try.underlying28 rfl hs28 ?_; (try simp only [Act.put, List.setIfInBounds_toArray, List.set_cons_zero, List.set_cons_succ])) | ((with_reducible refine gate_store (t := 28) (p := 4) rfl ?_); refine H.out.st_row 0 rfl rfl (x := .tmp 4) (y := .tmp 8) rfl rfl rfl (cD M D) rfl hs28 rfl (cD_one _ _) ?_; intro ws1 H1; clear H; have H := H1; clear H1))
    exact bodyPost_ret (results_cell_row rfl _ _ g4 28 _ (0, 0) _ rfl (H.out.box 0 rfl) Try.underlying28 rfl (by kernel_rfl)) rfl (touch_as HE.out (touch_end H.out 3 4 rfl rfl (by decide) O.out))
  · skip
    by_cases h2 : D.l4.length = 40
    · skip
      have HE := Az.mk (show ∀ q, q = (comeD D).l4 ++ [p] → { comeD D with l4 := q } = laidD D p from fun q hq => by rw [hq]; unfold laidD; rw [if_neg h1, if_pos h2]; rfl)
      have H40 := Az.mk h2
      have hs1 : (D.st == 1) = false := by simp [h1]
      clear h1 h2
      clear hg
      go_enter Try.func85, Try.ntmps85
      have HL4 := Az.mk (show (comeD D).l4.length ≤ 1000 from by show ([] : List S54).length ≤ 1000; simp)
      go_wp2_with (first | ((with_reducible refine zqg (N := 2) rfl ?_); refine H.out.bx rfl (cD M D) 28 ?hr ?_; (case hr => first | (go_simp; done) | (go_simp; rfl)); intro g2 w2 H1; clear H; have H := H1; clear H1; (try simp only [Act.put, List.setIfInBounds_toArray, List.set_cons_zero, List.set_cons_succ])) | ((with_reducible refine zqg (N := 3) rfl ?_); refine H.out.bx rfl (cP p) 54 ?hr ?_; (case hr => first | (go_simp; done) | (go_simp; rfl)); intro g3 w3 H1; clear H; have H := H1; clear H1; (try simp only [Act.put, List.setIfInBounds_toArray, List.set_cons_zero, List.set_cons_succ])) | ((with_reducible refine zqg (N := 4) rfl ?_); refine H.out.bx rfl (#[.int .i64 0, .slice none 0 0, .slice none 0 0, .slice none 0 0, .slice none 0 0]) 28 ?hr ?_; (case hr => first | (go_simp; done) | (go_simp; rfl)); intro g4 w4 H1; clear H; have H := H1; clear H1; (try simp only [Act.put, List.setIfInBounds_toArray, List.set_cons_zero, List.set_cons_succ])) | ((with_reducible refine zqg (N := 6) rfl ?_); refine H.out.ld_cell 2 rfl 0 (v := .int .i64 D.st) rfl rfl rfl rfl Try.underlying3 rfl ?_; (try simp only [Act.put, List.setIfInBounds_toArray, List.set_cons_zero, List.set_cons_succ])) | ((with_reducible refine zqg (N := 10) rfl ?_); refine H.out.ld_cell 2 rfl 4 (v := .slice M.A4 40 M.c4) (cell4' H40.out) rfl rfl rfl Try.underlying26 rfl ?_; (try simp only [Act.put, List.setIfInBounds_toArray, List.set_cons_zero, List.set_cons_succ])) | ((with_reducible refine zqg (N := 13) rfl ?_); refine H.out.ld_row 2 rfl rfl rfl rfl Try.underlying28 rfl hs28 ?_; (try simp only [Act.put, List.setIfInBounds_toArray, List.set_cons_zero, List.set_cons_succ])) | (go_at_call 79; have _tk := tk0; refine (l3Flush_callq (HB.out.trans H.out.bel) (H.out.ows 3 rfl O.out) HG.out).mono ?_; rintro e w14 ⟨M14, rfl, ho, hb, hk⟩; have H1 := Az.mk (H.out.wrote 3 rfl hb hk); have O1 := Az.mk ho; have HG1 := Az.mk (good_come HG.out); clear ho hb hk; clear H O HG; have H := H1; have O := O1; have HG := HG1; clear H1 O1 HG1; clear tk0 _tk; have tk1 : True := trivial) | ((with_reducible refine gate_store (t := 28) (p := 2) rfl ?_); refine H.out.st_row 2 rfl rfl (x := .tmp 2) (y := .tmp 14) rfl rfl rfl (cD M14 (comeD D)) rfl hs28 rfl (cD_one _ _) ?_; intro ws1 H1; clear H; have H := H1; clear H1) | ((with_reducible refine zqg (N := 16) rfl ?_); refine H.out.ld_cell 2 rfl 4 (v := .slice M14.A4 (comeD D).l4.length M14.c4) rfl rfl rfl rfl Try.underlying26 rfl ?_; (try simp only [Act.put, List.setIfInBounds_toArray, List.set_cons_zero, List.set_cons_succ])) | ((with_reducible refine zqg (N := 17) rfl ?_); refine H.out.ld_row 1 rfl rfl rfl rfl Try.underlying54 rfl hs54 ?_; (try simp only [Act.put, List.setIfInBounds_toArray, List.set_cons_zero, List.set_cons_succ])) | ((with_reducible refine zqg (N := 18) rfl ?_); refine lit54 p rfl ?hr ?_; (case hr => simp only [cP]; first | (go_simp; done) | (go_simp; rfl)); (try simp only [Act.put, List.setIfInBounds_toArray, List.set_cons_zero, List.set_cons_succ])) | ((with_reducible refine gate_builtin (b := .append) (xs := #[.tmp 16, .tmp 18]) rfl ?_); at_builtin; refine H.out.app 3 rfl O.out HL4.out p rfl (.tmp 16) (.tmp 18) rfl rfl rfl ?_; intro A19 c19 w19 q19 HQ19 H1 O1; clear H O; have H := H1; have O := O1; clear H1 O1; (try simp only [Act.put, List.setIfInBounds_toArray, List.set_cons_zero, List.set_cons_succ])) | ((with_reducible refine gate_store (t := 26) (p := 20) rfl ?_); refine H.out.stb 2 rfl 4 (.slice A19 q19.length c19) rfl rfl sizeZ26 rfl rfl rfl rfl rfl ?_; intro ws5 H1; clear H; have H := H1; clear H1) | ((with_reducible refine zqg (N := 21) rfl ?_); refine H.out.ld_row 2 rfl rfl rfl rfl Try.underlying28 rfl hs28 ?_; (try simp only [Act.put, List.setIfInBounds_toArray, List.set_cons_zero, List.set_cons_succ])) | ((with_reducible refine gate_store (t := 28) (p := 4) rfl ?_); refine H.out.st_row 0 rfl rfl (x := .tmp 4) (y := .tmp 21) rfl rfl rfl (cD ⟨M14.A1, M14.c1, M14.A2, M14.c2, M14.A3, M14.c3, A19, c19⟩ { (comeD D) with l4 := q19 }) rfl hs28 rfl (cD_one _ _) ?_; intro ws6 H1; clear H; have H := H1; clear H1))
      exact bodyPost_ret (results_cell_row rfl _ _ g4 28 _ (0, 0) _ rfl (H.out.box 0 rfl) Try.underlying28 rfl (by kernel_rfl)) rfl (touch_as (HE.out q19 HQ19.out) (touch_end H.out 3 4 rfl rfl (by decide) O.out))
    · skip
      have HE := Az.mk (show ∀ q, q = D.l4 ++ [p] → { D with l4 := q } = laidD D p from fun q hq => by rw [hq]; unfold laidD; rw [if_neg h1, if_neg h2])
      have hs1 : (D.st == 1) = false := by simp [h1]
      have hs2 : ((D.l4.length : Int) == 40) = false := by rw [beq_eq_false_iff_ne]; omega
      clear h1 h2
      clear hg
      go_enter Try.func85, Try.ntmps85
      have HL4 := Az.mk (show D.l4.length ≤ 1000 from by have := HG.out.sh.2.2.2.2; omega)
      go_wp2_with (first | ((with_reducible refine zqg (N := 2) rfl ?_); refine H.out.bx rfl (cD M D) 28 ?hr ?_; (case hr => first | (go_simp; done) | (go_simp; rfl)); intro g2 w2 H1; clear H; have H := H1; clear H1; (try simp only [Act.put, List.setIfInBounds_toArray, List.set_cons_zero, List.set_cons_succ])) | ((with_reducible refine zqg (N := 3) rfl ?_); refine H.out.bx rfl (cP p) 54 ?hr ?_; (case hr => first | (go_simp; done) | (go_simp; rfl)); intro g3 w3 H1; clear H; have H := H1; clear H1; (try simp only [Act.put, List.setIfInBounds_toArray, List.set_cons_zero, List.set_cons_succ])) | ((with_reducible refine zqg (N := 4) rfl ?_); refine H.out.bx rfl (#[.int .i64 0, .slice none 0 0, .slice none 0 0, .slice none 0 0, .slice none 0 0]) 28 ?hr ?_; (case hr => first | (go_simp; done) | (go_simp; rfl)); intro g4 w4 H1; clear H; have H := H1; clear H1; (try simp only [Act.put, List.setIfInBounds_toArray, List.set_cons_zero, List.set_cons_succ])) | ((with_reducible refine zqg (N := 6) rfl ?_); refine H.out.ld_cell 2 rfl 0 (v := .int .i64 D.st) rfl rfl rfl rfl Try.underlying3 rfl ?_; (try simp only [Act.put, List.setIfInBounds_toArray, List.set_cons_zero, List.set_cons_succ])) | ((with_reducible refine zqg (N := 10) rfl ?_); refine H.out.ld_cell 2 rfl 4 (v := .slice M.A4 D.l4.length M.c4) rfl rfl rfl rfl Try.underlying26 rfl ?_; (try simp only [Act.put, List.setIfInBounds_toArray, List.set_cons_zero, List.set_cons_succ])) | ((with_reducible refine zqg (N := 16) rfl ?_); refine H.out.ld_cell 2 rfl 4 (v := .slice M.A4 D.l4.length M.c4) rfl rfl rfl rfl Try.underlying26 rfl ?_; (try simp only [Act.put, List.setIfInBounds_toArray, List.set_cons_zero, List.set_cons_succ])) | ((with_reducible refine zqg (N := 17) rfl ?_); refine H.out.ld_row 1 rfl rfl rfl rfl Try.underlying54 rfl hs54 ?_; (try simp only [Act.put, List.setIfInBounds_toArray, List.set_cons_zero, List.set_cons_succ])) | ((with_reducible refine zqg (N := 18) rfl ?_); refine lit54 p rfl ?hr ?_; (case hr => simp only [cP]; first | (go_simp; done) | (go_simp; rfl)); (try simp only [Act.put, List.setIfInBounds_toArray, List.set_cons_zero, List.set_cons_succ])) | ((with_reducible refine gate_builtin (b := .append) (xs := #[.tmp 16, .tmp 18]) rfl ?_); at_builtin; refine H.out.app 3 rfl O.out HL4.out p rfl (.tmp 16) (.tmp 18) rfl rfl rfl ?_; intro A19 c19 w19 q19 HQ19 H1 O1; clear H O; have H := H1; have O := O1; clear H1 O1; (try simp only [Act.put, List.setIfInBounds_toArray, List.set_cons_zero, List.set_cons_succ])) | ((with_reducible refine gate_store (t := 26) (p := 20) rfl ?_); refine H.out.stb 2 rfl 4 (.slice A19 q19.length c19) rfl rfl sizeZ26 rfl rfl rfl rfl rfl ?_; intro ws5 H1; clear H; have H := H1; clear H1) | ((with_reducible refine zqg (N := 21) rfl ?_); refine H.out.ld_row 2 rfl rfl rfl rfl Try.underlying28 rfl hs28 ?_; (try simp only [Act.put, List.setIfInBounds_toArray, List.set_cons_zero, List.set_cons_succ])) | ((with_reducible refine gate_store (t := 28) (p := 4) rfl ?_); refine H.out.st_row 0 rfl rfl (x := .tmp 4) (y := .tmp 21) rfl rfl rfl (cD ⟨M.A1, M.c1, M.A2, M.c2, M.A3, M.c3, A19, c19⟩ { D with l4 := q19 }) rfl hs28 rfl (cD_one _ _) ?_; intro ws6 H1; clear H; have H := H1; clear H1))
      exact bodyPost_ret (results_cell_row rfl _ _ g4 28 _ (0, 0) _ rfl (H.out.box 0 rfl) Try.underlying28 rfl (by kernel_rfl)) rfl (touch_as (HE.out q19 HQ19.out) (touch_end H.out 3 4 rfl rfl (by decide) O.out))
end Go.Proofs.Ytkgpnloghmbmlaa.Hq
namespace Go.Proofs.Ytkgpnloghmbmlaa.Hd
open Go.RowKit Go.Proofs.Ytkgpnloghmbmlaa.Print Go.Proofs.YtkgpnloghmbmlaaW.PrintWords Go.Proofs.YtkgpnloghmbmlaaW.PrintLast Go.Proofs.Ytkgpnloghmbmlaa.Pure
set_option linter.unusedVariables false
set_option linter.unusedSimpArgs false
def TN : Bool × List (List Nat × List Nat) := (true, [([], []), ([], []), ([], []), ([], []), ([], []), ([0, 1, 2, 3, 4], [0, 1, 2, 3, 4]), ([5, 0, 1, 2, 3, 4, 5], [5])])
def BN : List Nat := [0, 0, 0, 0, 0, 31, 63]
theorem tabN : rtab .any (opsOf Try.f19 3) = TN := by kernel_rfl
theorem bitsN : waitsOk TN.2 BN = true := by kernel_rfl
set_option maxHeartbeats 8000000 in
set_option maxRecDepth 100000 in
theorem specNew_callz {w : World} {st : Int} (h : 0 ≤ st ∧ st ≤ 2) : Calls Try.prog 19 #[.int .i64 st] w (Gives (newD st) w) := by
  have hu28 := Try.underlying28
  have hs28 := sizeL28
  have HIN := Az.mk (decide_eq_true h)
  have H := Az.mk (Hd.start w)
  clear h
  go_enter Try.func19, Try.ntmps19
  go_wp2_with (first | ((with_reducible refine zqg (N := 2) rfl ?_); refine H.out.bx rfl (#[.int .i64 0, .slice none 0 0, .slice none 0 0, .slice none 0 0, .slice none 0 0]) 28 ?hr ?_; (case hr => first | (go_simp; done) | (go_simp; rfl)); intro g2 wb H1; clear H; have H := H1; clear H1) | (go_at_call 51; refine (l6In_call _ _ _ true HIN.out).mono ?_; rintro e w4 ⟨rfl, hb⟩; have H1 := Az.mk (H.out.step hb); clear hb; clear H; have H := H1; clear H1))
  refine start_ (n := 7) (S := fun w' => True) (ds := []) #[false, false, false, false, false, false, false] (by kernel_rfl) rfl rfl trivial (fun hHeld => ?_)
  refine with_tabW tabN bitsN (fun HT_ HW_ => ?_)
  have HD := Az.mk H.out.drew
  clear hHeld H
  generalize World.drew _ = wd at HD ⊢
  refine zqp (i := 0) (N := some 7) (v := ?_) (a' := ?_) #[true, false, false, false, false, false, false] rfl rfl (by kernel_rfl) (fun _ _ _ h => h) (Or.inl ⟨by rfl, ?_⟩) ?_ ?_
  rotate_left
  · intro w'
    go_simp
    with_reducible rfl
  rotate_left
  · simp only [Act.put, List.setIfInBounds_toArray, List.set_cons_zero, List.set_cons_succ, i64_w, i32_w]
    rfl
  refine inv_at [1, 2, 3, 4, 5, 6] (fun a0_ b a w' => ∃ (b1 : Value) (b2 : Value) (b3 : Value) (b4 : Value) (m5_ : Value), a = putSel a0_ b [(1, 8, b1), (2, 9, b2), (3, 10, b3), (4, 11, b4), (5, 12, m5_)] ∧ (b 6 = false → Hd w.heap.size w w' [.box g2 #[.int .i64 0, .slice none 0 0, .slice none 0 0, .slice none 0 0, .slice none 0 0] 28]) ∧ (b 1 = true → b 6 = false → Kd.R Kd.string 9 w' w.heap.size (fun _ => True) b1 e12) ∧ (b 2 = true → b 6 = false → Kd.R Kd.string 9 w' w.heap.size (fun _ => True) b2 e2) ∧ (b 3 = true → b 6 = false → Kd.R Kd.bool 4 w' w.heap.size (fun _ => True) b3 f12) ∧ (b 4 = true → b 6 = false → Kd.R k54 54 w' w.heap.size (fun _ => True) b4 ([] : List S54)) ∧ (b 1 = true → b 2 = true → (b1 : Value).ownBlock = none ∨ (b1 : Value).ownBlock ≠ (b2 : Value).ownBlock) ∧ (b 6 = true → (Hd w.heap.size w w' [.box g2 #[.int .i64 st, b1, b2, b3, b4] 28] ∧ Kd.R Kd.string 9 w' w.heap.size (fun _ => True) b1 e12 ∧ Kd.R Kd.string 9 w' w.heap.size (fun _ => True) b2 e2 ∧ Kd.R Kd.bool 4 w' w.heap.size (fun _ => True) b3 f12 ∧ Kd.R k54 54 w' w.heap.size (fun _ => True) b4 ([] : List S54))) ∧ (b 5 = true → (m5_ : Value) = .agg #[.int .i64 st, b1, b2, b3, b4])) HT_.out HW_.out (by kernel_rfl) (by kernel_rfl) ?_ ?_ ?_
  · exact ⟨.bool false, .bool false, .bool false, .bool false, .bool false, by simp only [putSel, Bool.false_eq_true, if_false], fun _ => HD.out, fun h_ => absurd h_ (by decide), fun h_ => absurd h_ (by decide), fun h_ => absurd h_ (by decide), fun h_ => absurd h_ (by decide), fun h_ => absurd h_ (by decide), fun h_ => absurd h_ (by decide), fun h_ => absurd h_ (by decide)⟩
  · skip
    clear HD
    refine steps_cons ?_ ?_
    · rintro b a w' ⟨b1, b2, b3, b4, m5_, ha, Q_HD, Q_FB1, Q_FB2, Q_FB3, Q_FB4, Q_NBB, Q_HE, Q_X5_⟩ hb_ hon hoff
      refine ⟨_, rfl, fun K hK => ?_⟩
      replace ha := Az.mk ha
      have HD := Az.mk (Q_HD (hoff 6 (by kernel_rfl)))
      refine Kd.R_make_step Kd.string (w0 := w) w.heap.size 9 (by rfl) (N := 8) rfl 24 _ _ rfl 12 rfl rfl Try.underlying24 (.string ⟨#[]⟩) 16 infoL9 rfl (by decide) (by omega) (⟨#[]⟩ : ByteArray) (ok := fun _ => True) (okp := fun _ => True) rfl (fun _ hk => hk) trivial (by omega) (by omega) HD.out.bel HD.out.base_le ?_
      intro v1 w1 hr1 _ hg1 hn1
      have hb1 := below_of_none hg1
      refine hK.out _ _ ⟨v1, b2, b3, b4, m5_, (by rw [ha.out]; exact putSel_upk 0 hb_ rfl rfl rfl), fun _ => HD.out.step hb1, fun _ _ => hr1, fun h0_ h1_ => Kd.R_below (Q_FB2 h0_ h1_) hb1, fun h0_ h1_ => Kd.R_below (Q_FB3 h0_ h1_) hb1, fun h0_ h1_ => Kd.R_below (Q_FB4 h0_ h1_) hb1, fun h0_ h1_ => own_apart' (own_new hn1) (own_lt' (Q_FB2 h1_ (hoff 6 (by kernel_rfl)))), fun h0_ => absurd ((hoff 6 (by kernel_rfl)).symm.trans h0_) (by decide), fun h0_ => absurd ((hoff 5 (by kernel_rfl)).symm.trans h0_) (by decide)⟩
    refine steps_cons ?_ ?_
    · rintro b a w' ⟨b1, b2, b3, b4, m5_, ha, Q_HD, Q_FB1, Q_FB2, Q_FB3, Q_FB4, Q_NBB, Q_HE, Q_X5_⟩ hb_ hon hoff
      refine ⟨_, rfl, fun K hK => ?_⟩
      replace ha := Az.mk ha
      have HD := Az.mk (Q_HD (hoff 6 (by kernel_rfl)))
      refine Kd.R_make_step Kd.string (w0 := w) w.heap.size 9 (by rfl) (N := 9) rfl 24 _ _ rfl 2 rfl rfl Try.underlying24 (.string ⟨#[]⟩) 16 infoL9 rfl (by decide) (by omega) (⟨#[]⟩ : ByteArray) (ok := fun _ => True) (okp := fun _ => True) rfl (fun _ hk => hk) trivial (by omega) (by omega) HD.out.bel HD.out.base_le ?_
      intro v1 w1 hr1 _ hg1 hn1
      have hb1 := below_of_none hg1
      refine hK.out _ _ ⟨b1, v1, b3, b4, m5_, (by rw [ha.out]; exact putSel_upk 1 hb_ rfl rfl rfl), fun _ => HD.out.step hb1, fun h0_ h1_ => Kd.R_below (Q_FB1 h0_ h1_) hb1, fun _ _ => hr1, fun h0_ h1_ => Kd.R_below (Q_FB3 h0_ h1_) hb1, fun h0_ h1_ => Kd.R_below (Q_FB4 h0_ h1_) hb1, fun h0_ h1_ => own_apart (own_lt' (Q_FB1 h0_ (hoff 6 (by kernel_rfl)))) (own_new hn1), fun h0_ => absurd ((hoff 6 (by kernel_rfl)).symm.trans h0_) (by decide), fun h0_ => absurd ((hoff 5 (by kernel_rfl)).symm.trans h0_) (by decide)⟩
    refine steps_cons ?_ ?_
    · rintro b a w' ⟨b1, b2, b3, b4, m5_, ha, Q_HD, Q_FB1, Q_FB2, Q_FB3, Q_FB4, Q_NBB, Q_HE, Q_X5_⟩ hb_ hon hoff
      refine ⟨_, rfl, fun K hK => ?_⟩
      replace ha := Az.mk ha
      have HD := Az.mk (Q_HD (hoff 6 (by kernel_rfl)))
      refine Kd.R_make_step Kd.bool (w0 := w) w.heap.size 4 (by rfl) (N := 10) rfl 25 _ _ rfl 12 rfl rfl Try.underlying25 (.bool false) 1 infoL4 rfl (by decide) (by omega) false (ok := fun _ => True) (okp := fun _ => True) rfl (fun _ hk => hk) trivial (by omega) (by omega) HD.out.bel HD.out.base_le ?_
      intro v1 w1 hr1 _ hg1 hn1
      have hb1 := below_of_none hg1
      refine hK.out _ _ ⟨b1, b2, v1, b4, m5_, (by rw [ha.out]; exact putSel_upk 2 hb_ rfl rfl rfl), fun _ => HD.out.step hb1, fun h0_ h1_ => Kd.R_below (Q_FB1 h0_ h1_) hb1, fun h0_ h1_ => Kd.R_below (Q_FB2 h0_ h1_) hb1, fun _ _ => hr1, fun h0_ h1_ => Kd.R_below (Q_FB4 h0_ h1_) hb1, fun h0_ h1_ => (Q_NBB h0_ h1_), fun h0_ => absurd ((hoff 6 (by kernel_rfl)).symm.trans h0_) (by decide), fun h0_ => absurd ((hoff 5 (by kernel_rfl)).symm.trans h0_) (by decide)⟩
    refine steps_cons ?_ ?_
    · rintro b a w' ⟨b1, b2, b3, b4, m5_, ha, Q_HD, Q_FB1, Q_FB2, Q_FB3, Q_FB4, Q_NBB, Q_HE, Q_X5_⟩ hb_ hon hoff
      refine ⟨_, rfl, fun K hK => ?_⟩
      replace ha := Az.mk ha
      have HD := Az.mk (Q_HD (hoff 6 (by kernel_rfl)))
      refine Kd.R_lit_step k54 w.heap.size 54 (by rfl) (N := 11) rfl (xs := ([] : List S54)) (inner := []) (ok := fun _ => True) (okp := fun _ => True) (w0 := w) ?hr (Reps.none _ _) (fun _ hk => hk) trivial HD.out.bel HD.out.base_le (by simp) ?_
      (case hr => first | (go_simp; done) | (go_simp; rfl))
      intro v1 w1 hr1 _ hg1 hn1
      have hb1 := below_of_none hg1
      refine hK.out _ _ ⟨b1, b2, b3, v1, m5_, (by rw [ha.out]; exact putSel_upk 3 hb_ rfl rfl rfl), fun _ => HD.out.step hb1, fun h0_ h1_ => Kd.R_below (Q_FB1 h0_ h1_) hb1, fun h0_ h1_ => Kd.R_below (Q_FB2 h0_ h1_) hb1, fun h0_ h1_ => Kd.R_below (Q_FB3 h0_ h1_) hb1, fun _ _ => hr1, fun h0_ h1_ => (Q_NBB h0_ h1_), fun h0_ => absurd ((hoff 6 (by kernel_rfl)).symm.trans h0_) (by decide), fun h0_ => absurd ((hoff 5 (by kernel_rfl)).symm.trans h0_) (by decide)⟩
    refine steps_cons ?_ ?_
    · rintro b a w' ⟨b1, b2, b3, b4, m5_, ha, Q_HD, Q_FB1, Q_FB2, Q_FB3, Q_FB4, Q_NBB, Q_HE, Q_X5_⟩ hb_ hon hoff
      refine ⟨_, rfl, fun K hK => ?_⟩
      have e7 : a.tmps[7]? = some (.int .i64 st) := by rw [ha]; exact (putSel_off rfl).trans rfl
      have e8 : a.tmps[8]? = some (b1) := by rw [ha]; exact putSel_on (e := (1, 8, b1)) 0 rfl rfl (hon 1 (by kernel_rfl)) rfl
      have e9 : a.tmps[9]? = some (b2) := by rw [ha]; exact putSel_on (e := (2, 9, b2)) 1 rfl rfl (hon 2 (by kernel_rfl)) rfl
      have e10 : a.tmps[10]? = some (b3) := by rw [ha]; exact putSel_on (e := (3, 10, b3)) 2 rfl rfl (hon 3 (by kernel_rfl)) rfl
      have e11 : a.tmps[11]? = some (b4) := by rw [ha]; exact putSel_on (e := (4, 11, b4)) 3 rfl rfl (hon 4 (by kernel_rfl)) rfl
      replace ha := Az.mk ha
      have HD := Az.mk (Q_HD (hoff 6 (by kernel_rfl)))
      have FB1 := Az.mk (Q_FB1 (hon 1 (by kernel_rfl)) (hoff 6 (by kernel_rfl)))
      have FB2 := Az.mk (Q_FB2 (hon 2 (by kernel_rfl)) (hoff 6 (by kernel_rfl)))
      have FB3 := Az.mk (Q_FB3 (hon 3 (by kernel_rfl)) (hoff 6 (by kernel_rfl)))
      have FB4 := Az.mk (Q_FB4 (hon 4 (by kernel_rfl)) (hoff 6 (by kernel_rfl)))
      have NBB := Az.mk (Q_NBB (hon 1 (by kernel_rfl)) (hon 2 (by kernel_rfl)))
      obtain ⟨p1, q1, rfl⟩ := Kd.R_slice FB1.out
      obtain ⟨p2, q2, rfl⟩ := Kd.R_slice FB2.out
      obtain ⟨p3, q3, rfl⟩ := Kd.R_slice FB3.out
      obtain ⟨p4, q4, rfl⟩ := Kd.R_slice FB4.out
      refine value_ (w1 := w') (v := .agg #[.int .i64 st, (.slice p1 e12.length q1), (.slice p2 e2.length q2), (.slice p3 f12.length q3), (.slice p4 ([] : List S54).length q4)]) (by rfl) rfl ?_ ?_
      · go_simp
        (try simp only [i64_w])
        try rfl
      refine hK.out _ _ ⟨(.slice p1 e12.length q1), (.slice p2 e2.length q2), (.slice p3 f12.length q3), (.slice p4 ([] : List S54).length q4), (.agg #[.int .i64 st, (.slice p1 e12.length q1), (.slice p2 e2.length q2), (.slice p3 f12.length q3), (.slice p4 ([] : List S54).length q4)]), (by rw [ha.out]; exact putSel_upk 4 hb_ rfl rfl rfl), fun _ => HD.out, fun _ _ => FB1.out, fun _ _ => FB2.out, fun _ _ => FB3.out, fun _ _ => FB4.out, fun _ _ => NBB.out, fun h0_ => absurd ((hoff 6 (by kernel_rfl)).symm.trans h0_) (by decide), fun _ => rfl⟩
    refine steps_cons ?_ ?_
    · rintro b a w' ⟨b1, b2, b3, b4, m5_, ha, Q_HD, Q_FB1, Q_FB2, Q_FB3, Q_FB4, Q_NBB, Q_HE, Q_X5_⟩ hb_ hon hoff
      refine ⟨_, rfl, fun K hK => ?_⟩
      have e2 : a.tmps[2]? = some (.pointer (some ⟨g2, 0, none⟩)) := by rw [ha]; exact (putSel_off rfl).trans rfl
      have e12 : a.tmps[12]? = some (m5_) := by rw [ha]; exact putSel_on (e := (5, 12, m5_)) 4 rfl rfl (hon 5 (by kernel_rfl)) rfl
      rw [Q_X5_ (hon 5 (by kernel_rfl))] at e12
      replace ha := Az.mk ha
      have HD := Az.mk (Q_HD hb_)
      have FB1 := Az.mk (Q_FB1 (hon 1 (by kernel_rfl)) hb_)
      have FB2 := Az.mk (Q_FB2 (hon 2 (by kernel_rfl)) hb_)
      have FB3 := Az.mk (Q_FB3 (hon 3 (by kernel_rfl)) hb_)
      have FB4 := Az.mk (Q_FB4 (hon 4 (by kernel_rfl)) hb_)
      have NBB := Az.mk (Q_NBB (hon 1 (by kernel_rfl)) (hon 2 (by kernel_rfl)))
      have ho : (#[.int .i64 st, b1, b2, b3, b4] : Array Value).all (·.oneCell') = true := by
        obtain ⟨_, _, h1⟩ := Kd.R_slice FB1.out
        obtain ⟨_, _, h2⟩ := Kd.R_slice FB2.out
        obtain ⟨_, _, h3⟩ := Kd.R_slice FB3.out
        obtain ⟨_, _, h4⟩ := Kd.R_slice FB4.out
        rw [h1, h2, h3, h4]
        simp [Value.oneCell']
      refine skip_ (by rfl) rfl (HD.out.run_st 0 rfl rfl (eval_of e2) _ (eval_of e12) hs28 rfl ho) ?_
      refine hK.out _ _ ⟨b1, b2, b3, b4, m5_, (by rw [ha.out]; exact putSel_none (v := undef) rfl), fun h0_ => absurd ((up_self b 6).symm.trans h0_) (by decide), fun _ h1_ => absurd ((up_self b 6).symm.trans h1_) (by decide), fun _ h1_ => absurd ((up_self b 6).symm.trans h1_) (by decide), fun _ h1_ => absurd ((up_self b 6).symm.trans h1_) (by decide), fun _ h1_ => absurd ((up_self b 6).symm.trans h1_) (by decide), fun _ _ => NBB.out, fun _ => ⟨HD.out.set_row 0 rfl _, R_set_far FB1.out (HD.out.box 0 rfl) (by decide) _ ownerless_string, R_set_far FB2.out (HD.out.box 0 rfl) (by decide) _ ownerless_string, R_set_far FB3.out (HD.out.box 0 rfl) (by decide) _ ownerless_bool, R_set_far FB4.out (HD.out.box 0 rfl) (by decide) _ ownerless_k54⟩, Q_X5_⟩
    exact steps_nil
  · rintro b a w' hall ⟨b1, b2, b3, b4, m5_, ha, Q_HD, Q_FB1, Q_FB2, Q_FB3, Q_FB4, Q_NBB, Q_HE, Q_X5_⟩
    clear HD
    have hb1_ := hall 1 (by kernel_rfl)
    have hb2_ := hall 2 (by kernel_rfl)
    have hb3_ := hall 3 (by kernel_rfl)
    have hb4_ := hall 4 (by kernel_rfl)
    have hb5_ := hall 5 (by kernel_rfl)
    have hb6_ := hall 6 (by kernel_rfl)
    subst ha
    obtain rfl := Q_X5_ hb5_
    simp only [putSel, hb1_, hb2_, hb3_, hb4_, hb5_, hb6_, if_true, Act.put, List.setIfInBounds_toArray, List.set_cons_zero, List.set_cons_succ]
    clear Q_HD
    clear Q_FB1
    clear Q_FB2
    clear Q_FB3
    clear Q_FB4
    have NBB := Az.mk (Q_NBB hb1_ hb2_)
    clear Q_NBB
    have HE := Az.mk (Q_HE hb6_)
    clear Q_HE
    clear hall hb1_ hb2_ hb3_ hb4_ hb5_ hb6_

    obtain ⟨HE1, o1, o2, o3, o4⟩ := HE.out
    go_wp2
    refine bodyPost_ret (results_cell_row rfl _ _ g2 28 _ (0, 0) _ rfl (HE1.box 0 rfl) Try.underlying28 rfl (by kernel_rfl)) rfl ?_
    have hn : ∀ k, b1.ownBlock = some k → some k ≠ b2.ownBlock := fun k hk => atom_of NBB.out hk
    have hn' : ∀ k, b2.ownBlock = some k → some k ≠ b1.ownBlock := fun k hk => atom_of' NBB.out hk
    obtain ⟨A1, c1, rfl⟩ := Kd.R_slice o1
    obtain ⟨A2, c2, rfl⟩ := Kd.R_slice o2
    obtain ⟨A3, c3, rfl⟩ := Kd.R_slice o3
    obtain ⟨A4, c4, rfl⟩ := Kd.R_slice o4
    exact ⟨⟨A1, c1, A2, c2, A3, c3, A4, c4⟩, rfl, ⟨R_base o1 (fun k hk => (own_ge o1 k hk).1) (fun k hk => ⟨own_lt' o1 k hk, hn k hk⟩), R_base o2 (fun k hk => (own_ge o2 k hk).1) (fun k hk => ⟨own_lt' o2 k hk, hn' k hk⟩), R_base o3 (fun k hk => (own_ge o3 k hk).1) (fun k hk => own_lt' o3 k hk), R_base54 o4 (fun k hk => (own_ge o4 k hk).1) (fun k hk => own_lt' o4 k hk)⟩, HE1.bel⟩
end Go.Proofs.Ytkgpnloghmbmlaa.Hd
namespace Go.Proofs.Ytkgpnloghmbmlaa.Hq
open Go.RowKit Go.Proofs.Ytkgpnloghmbmlaa.Print Go.Proofs.YtkgpnloghmbmlaaW.PrintWords Go.Proofs.YtkgpnloghmbmlaaW.PrintLast Go.Proofs.YtkgpnloghmbmlaaW.PrintMore Go.Proofs.Ytkgpnloghmbmlaa.Pure Go.Proofs.Ytkgpnloghmbmlaa.Hd
set_option linter.unusedVariables false
set_option linter.unusedSimpArgs false
def lit4 (r : Nat) : Int := ([0, 0, 2, 1] : List Int).getD r 0
theorem lit4_get {r : Nat} (h : (r : Int) < 4) : (#[.int .i64 0, .int .i64 0, .int .i64 2, .int .i64 1] : Array Value)[r]? = some (.int .i64 (lit4 r)) := by
 have : r = 0 ∨ r = 1 ∨ r = 2 ∨ r = 3 := by omega
 rcases this with rfl | rfl | rfl | rfl <;> rfl
theorem lit4_bd (r : Nat) : 0 ≤ lit4 r ∧ lit4 r ≤ 2 := by
 match r with
 | 0 => decide
 | 1 => decide
 | 2 => decide
 | 3 => decide
 | r + 4 => simp [lit4]
def lit3 (r : Nat) : Int := ([-1, 3, 1] : List Int).getD r 0
theorem lit3_get {r : Nat} (h : (r : Int) < 3) : (#[.int .i64 (-1), .int .i64 3, .int .i64 1] : Array Value)[r]? = some (.int .i64 (lit3 r)) := by
 have : r = 0 ∨ r = 1 ∨ r = 2 := by omega
 rcases this with rfl | rfl | rfl <;> rfl
theorem sizeQ3 : (Try.prog.info? 3).map (·.size) = some 1 := by kernel_rfl
theorem sizeQ24 : (Try.prog.info? 24).map (·.size) = some 1 := by kernel_rfl
theorem sizeQ26 : (Try.prog.info? 26).map (·.size) = some 1 := by kernel_rfl
theorem fits_set1 {D : Dd} {i : Nat} {x : ByteArray} (h : FitsD D) : FitsD { D with l1 := D.l1.set i x } := ⟨by rw [List.length_set]; exact h.h1, h.h2, h.h3, h.h4⟩
theorem fits_set3 {D : Dd} {i : Nat} {x : Bool} (h : FitsD D) : FitsD { D with l3 := D.l3.set i x } := ⟨h.h1, h.h2, by rw [List.length_set]; exact h.h3, h.h4⟩
theorem fits_l4 {D : Dd} {q : List S54} (h : FitsD D) (hl : q.length ≤ 1001) : FitsD { D with l4 := q } := ⟨h.h1, h.h2, h.h3, by
 show q.length ≤ _
 omega⟩
theorem fits_drop {D : Dd} (h : FitsD D) : FitsD { D with l2 := D.l2.drop 1 } := ⟨h.h1, by
 have := h.h2
 show (D.l2.drop 1).length ≤ _
 rw [List.length_drop]
 omega, h.h3, h.h4⟩
theorem ret_as {w0 w w' : World} {b : List Int} {g m : Nat} {x y : Array Value} (e : y = x) (h : DrawsDisk w0 b g m w (.returned (.agg y)) w') : DrawsDisk w0 b g m w (.returned (.agg x)) w' := e ▸ h
theorem spoil_in {D : Dd} (h : GoodD D) {a b c : Nat} (ha : (a : Int) < 12) (hb : (b : Int) < 3) (hc : (c : Int) < 255) : SpoilIn D a b (wrap64 (1 + (c : Int))) := by
 have hs := h.sh
 unfold Shaped at hs
 have hso := slot_good h (a := a) (by omega)
 have e : wrap64 (1 + (c : Int)) = 1 + (c : Int) := wrap_ok (by omega)
 rw [e]
 clear e
 exact ⟨by omega, by omega, by omega, by omega, by rcases hso with h | h <;> omega, by rcases hso with h | h <;> omega, by omega⟩
theorem l3Spoil_callq {w : World} {lo : Nat} {S : Nat → Prop} {M : Mm} {D : Dd} {a b : Nat} {c : Int} (hS : ∀ k, S k → lo ≤ k ∧ k < w.heap.size) (h : OwS w lo S M D) (hs : SpoilIn D a b c) : Calls Try.prog 87 #[.agg (cD M D), .int .i64 (a : Int), .int .i64 (b : Int), .int .i64 c] w (Touch lo S (spoilD D a b c) w) := by
 have up : ∀ {w' : World}, Below lo w w' → ∀ k, S k → (S k ∨ w.heap.size ≤ k) ∧ k < w'.heap.size := fun hb k hk => ⟨.inl hk, Nat.lt_of_lt_of_le (hS k hk).2 hb.size⟩
 by_cases hz : (D.l1.getD a ByteArray.empty).size = 0 ∨ D.l3.getD a false = true
 ·have e : spoilD D a b c = D := if_pos hz
  rw [e]
  refine (qspoil_same h hS hs.a1 hs.a3 hs.l1 hs.l3 ?_).mono fun e w' hh => ⟨M, hh.1, OwS.up (w' := w') hh.2.1 (up hh.2.2.1), hh.2.2⟩
  by_cases h6 : (D.l1.getD a ByteArray.empty).size = 0
  ·exact .inl (empty_of h6)
  ·exact .inr ⟨nonempty_of h6, hz.resolve_left h6⟩
 ·have e : spoilD D a b c = { D with l1 := D.l1.set a (turned (D.l1.getD a ByteArray.empty) b c), l3 := D.l3.set a true } := if_neg hz
  have h7 : D.l3.getD a false = false := by
   cases hh : D.l3.getD a false with
   | false => rfl
   | true => exact absurd (.inr hh) hz
  rw [e]
  refine (qspoil_main h hS hs.a1 hs.a3 hs.l1 hs.l3 (hs.b.resolve_left fun hh => hz (.inl hh)) hs.s hs.c h7).mono fun e w' hh => ?_
  exact ⟨M, by rw [cD_set]; exact hh.1, OwS.up (w' := w') hh.2.1 (up hh.2.2.1), hh.2.2⟩
theorem size9' : (Try.prog.info? 9).map (·.size) = some 1 := by kernel_rfl
theorem elem24 : Try.prog.underlying 24 = some (.slice (Try.prog.elem 24)) := by
 have h := Try.underlying24
 have : Try.prog.elem 24 = 9 := by simp [Program.elem, h]
 rw [this]
 exact h
theorem drop_ev {ops : Array Oper} {Q : Exit → Act → World → Prop} {rest : List Oper} {o : Oper} {a : Act} {w : World} {x : Operand} {g2 c : Nat} {l : List ByteArray} (hgd : o.guard = none) (ho : o.op = .slice 24 x (some (.const (.int .i64 1))) none none) (hx : a.eval x = .slice (some ⟨g2, 0, none⟩) l.length c) (h2 : l.length = 2) (hc : 2 ≤ c)
  (k : ∀ q : List ByteArray, Az (q = l.drop 1) → wpList Try.prog ops Q rest (a.put o.dst (.slice (some ⟨g2, 1, none⟩) q.length (c - 1))) w) : wpList Try.prog ops Q (o :: rest) a w := by
 refine Kd.event_run (v := .slice (some ⟨g2, 1, none⟩) (l.drop 1).length (c - 1)) hgd ?_ (k _ ⟨rfl⟩)
 cases hq : Try.prog.info? 9 with
 | none => have := size9'; rw [hq] at this; simp at this
 | some i =>
  have hs : i.size = 1 := by have := size9'; rw [hq] at this; simpa using this
  have h := cut_from (P := Try.prog) 24 9 .i64 (i := i) Try.underlying24 hq 1 hs (some ⟨g2, 0, none⟩) l.length c 1 (by omega) (by omega) w
  have hz : (⟨g2, 0, none⟩ : Addr).add (Int.toNat 1 * 1) = ⟨g2, 1, none⟩ := add0 g2 1
  have hne : ¬ c = Int.toNat 1 := by show ¬ c = 1; omega
  rw [if_neg hne, Option.map_some, hz] at h
  unfold execOp
  simp only [ho, hx, Option.map_some, Option.map_none]
  rw [show a.eval (Operand.const (.int .i64 1)) = .int .i64 1 from rfl, Sem.run_bind, run_sliceAt_slice (h := elem24), h, List.length_drop]
  rfl
theorem OwS.cap2 {w : World} {b : Nat} {S : Nat → Prop} {M : Mm} {D : Dd} (h : OwS w b S M D) (h2 : D.l2.length = 2) : 2 ≤ M.c2 := h2 ▸ h.rd.h2
set_option maxHeartbeats 8000000 in
set_option maxRecDepth 100000 in
theorem l71Disk_calls {w0 w : World} {b : List Int} {g m : Nat} {cs : Array Value} (hB : Below w0.heap.size w0 w) (hbox : w.heap[g]? = some (.cells cs 104 (0, 0))) (hge : w0.heap.size ≤ g) (hr : Rdr w0 b (m + 3000) cs) : Calls Try.prog 75 #[.pointer (some ⟨g, 0, none⟩)] w (DrawsDisk w0 b g m w) := by
 have hs28 := sizeE28
 have HB := Az.mk hB
 have HR := Az.mk hr
 have HWG := Az.mk (blk_lt hbox)
 have H := Az.mk (Hq.start_box w hge hbox)
 have tk0 : True := trivial
 clear hB hbox hge hr
 go_enter Try.func75, Try.ntmps75
 go_wp2_with (first | ((with_reducible refine zqg (N := 2) rfl ?_); refine H.out.bx rfl (#[.int .i64 0, .slice none 0 0, .slice none 0 0, .slice none 0 0, .slice none 0 0]) 28 ?hr ?_; (case hr => first | (go_simp; done) | (go_simp; rfl)); intro g2 w2 H1; clear H; have H := H1; clear H1; (try simp only [Act.put, List.setIfInBounds_toArray, List.set_cons_zero, List.set_cons_succ])) | ((with_reducible refine zqg (N := 5) rfl ?_); refine H.out.lit rfl (#[.int .i64 0, .int .i64 0, .int .i64 2, .int .i64 1]) 3 4 ?hr ?_; (case hr => first | (go_simp; done) | (go_simp; rfl)); intro g5 w5 H1; clear H; have H := H1; clear H1; (try simp only [Act.put, List.setIfInBounds_toArray, List.set_cons_zero, List.set_cons_succ])) | (go_at_call 48; have _tk := tk0; refine (pick_callq (m := m + 2999) HB.out H.out 2 rfl (HR.out.less (by omega)) 4 (by omega)).mono ?_; rintro e w7 ⟨r7, c7, rfl, hr7, hrd, h1⟩; have HR1 := Az.mk hrd; have H1 := Az.mk h1; have hz7 := eq_true (Int.natCast_nonneg r7); clear hrd h1; clear H HR; have H := H1; have HR := HR1; clear H1 HR1; clear tk0 _tk; have tk1 : True := trivial) | ((with_reducible refine zqg (N := 9) rfl ?_); refine H.out.ld_cell 0 rfl r7 (v := .int .i64 (lit4 r7)) (lit4_get hr7) rfl rfl rfl Try.underlying3 rfl ?_; (try simp only [Act.put, List.setIfInBounds_toArray, List.set_cons_zero, List.set_cons_succ])) | (go_at_call 19; have _tk := tk1; refine (specNew_callz (lit4_bd r7)).mono ?_; rintro e w10 ⟨M10, rfl, ho, hb⟩; have H1 := Az.mk (H.out.made hb); have O := Az.mk (OwS.of_own ho H.out.ge); clear ho hb; clear H; have H := H1; clear H1; clear tk1 _tk; have tk2 : True := trivial) | ((with_reducible refine zqg (N := 3) rfl ?_); refine H.out.bx rfl (#[.int .i64 0, .slice none 0 0, .slice none 0 0, .slice none 0 0, .slice none 0 0]) 28 ?hr ?_; (case hr => first | (go_simp; done) | (go_simp; rfl)); intro g3 w3 H1; clear H; have H := H1; clear H1; (try simp only [Act.put, List.setIfInBounds_toArray, List.set_cons_zero, List.set_cons_succ])) | ((with_reducible refine gate_store (t := 28) (p := 3) rfl ?_); refine H.out.st_row 0 rfl rfl (x := .tmp 3) (y := .tmp 10) rfl rfl rfl (cD M10 (newD (lit4 r7))) rfl hs28 rfl (cD_one _ _) ?_; intro ws1 H1; clear H; have H := H1; clear H1) | (go_at_call 48; have _tk := tk2; refine (pick_callq (m := m + 2998) HB.out H.out 4 rfl (HR.out.less (by omega)) 12 (by omega)).mono ?_; rintro e w12 ⟨r12, c12, rfl, hr12, hrd, h1⟩; have HR1 := Az.mk hrd; have H1 := Az.mk h1; have hz12 := eq_true (Int.natCast_nonneg r12); clear hrd h1; clear H HR; have H := H1; have HR := HR1; clear H1 HR1; clear tk2 _tk; have tk3 : True := trivial))
 go_loopg [4] 13 (fun kq v4 w' => ∃ (n : Nat) (M : Mm) (D : Dd) (S : Nat → Prop) (wo : World) (c : Array Value), v4 = .int .i64 (n : Int) ∧ Az (n + 1 ≤ kq ∧ kq ≤ 13) ∧ Az (GoodD D) ∧ Az (Rdr w0 b (m + 1500 + 100 * n) c) ∧ Az (OwS wo w0.heap.size S M D) ∧ Az (Hq w0.heap.size w w' [.box g3 (cD M D) 28, .set S wo, .box g2 (#[.int .i64 0, .slice none 0 0, .slice none 0 0, .slice none 0 0, .slice none 0 0]) 28, .box g c 104, .set (fun k => k ≠ g ∧ w0.heap.size ≤ k ∧ k < w.heap.size) w]))
 case atStart => exact ⟨r12, M10, newD (lit4 r7), _, _, _, rfl, ⟨by omega⟩, ⟨good_new (lit4_bd r7)⟩, ⟨HR.out.less (by omega)⟩, O, ⟨H.out.sel [0, 1, 3, 4, 5] _ (by decide) rfl⟩⟩
 case round =>
  clear H HR O
  obtain ⟨n, M, D, S, wo, c, rfl, HN, HG, HR, O, H⟩ := hrel
  cases gk with
  | zero => exact absurd HN.out.1 (by omega)
  | succ k1 =>
   have tk0 : True := trivial
   by_cases hn : 0 < (n : Int)
   ·have c14 : decide (0 < (n : Int)) = true := decide_eq_true hn
    go_wp2
    refine start_ (n := 5) (S := fun w' => Hq w0.heap.size w w' [.box g3 (cD M D) 28]) (ds := [4]) #[false, false, false, false, false] (by kernel_rfl) rfl rfl (H.out.drew.sel [0] _ (by decide) rfl) (fun hHeld => ?_)
    have H1 := Az.mk H.out.drew
    clear H; have H := H1; clear H1
    generalize World.drew wr = wd5 at hHeld H ⊢
    refine zqt (i := 0) (N := some 17) (v := .agg (cD M D)) (a' := ?_) #[true, false, false, false, false] rfl rfl (by kernel_rfl) (fun _ _ _ h => h) (Or.inl ⟨by rfl, fun w' s0 => s0.run_row 0 rfl rfl rfl Try.underlying28 rfl hs28⟩) hHeld ?_ ?_
    rotate_left
    ·simp only [Act.put, List.setIfInBounds_toArray, List.set_cons_zero, List.set_cons_succ, i64_w, i32_w]
     rfl
    refine zqp (i := 1) (N := some 18) (v := ?_) (a' := ?_) #[true, true, false, false, false] rfl rfl (by kernel_rfl) (fun _ _ _ h => h) (Or.inl ⟨by rfl, ?_⟩) ?_ ?_
    rotate_left
    ·intro w'
     go_simp
     with_reducible rfl
    rotate_left
    ·simp only [Act.put, List.setIfInBounds_toArray, List.set_cons_zero, List.set_cons_succ, i64_w, i32_w]
     rfl
    refine one_ (i := 2) (N := some 19) #[true, true, true, false, false] rfl rfl (by kernel_rfl) (by decide) (fun K hK => ?_)
    refine goes_ Try.func81 (by kernel_rfl) rfl #[.pointer (some ⟨g, 0, none⟩)] (by rfl) rfl rfl (by (try simp only [List.map_toArray, List.map_cons, List.map_nil]); first | done | rfl) ?_
    refine (put_callq (m := m + 1500 + 100 * (n - 1) + 70) HB.out H.out 3 rfl (HR.out.less (by omega))).mono ?_
    rintro e w19 ⟨x19, c19, rfl, hx, hrd, h1⟩
    refine ⟨_, rfl, ?_⟩
    have HR1 := Az.mk hrd
    have H1 := Az.mk h1
    have HX19 := Az.mk hx
    clear hrd h1 hx
    clear H HR; have H := H1; have HR := HR1; clear H1 HR1
    refine hK.out _ _ (H.out.sel [0] _ (by decide) rfl) (fun hHeld => ?_)
    clear hK K
    refine norm_ (a' := ?_) ?_ ?_
    rotate_left
    ·show Act.put _ (some 19) _ = _
     simp only [Act.put, List.setIfInBounds_toArray, List.set_cons_zero, List.set_cons_succ, i64_w, i32_w]
     rfl
    refine one_ (i := 3) (N := some 20) #[true, true, true, true, false] rfl rfl (by kernel_rfl) (by decide) (fun K hK => ?_)
    refine goes_ Try.func85 (by kernel_rfl) rfl #[.agg (cD M D), .agg (cP x19)] (by rfl) rfl rfl (by (try simp only [List.map_toArray, List.map_cons, List.map_nil]); first | done | rfl) ?_
    refine (l3Write_callz (HB.out.trans H.out.bel) (H.out.set_in 1 rfl) (H.out.ows 1 rfl O.out) HG.out x19).mono ?_
    rintro e w20 ⟨M20, rfl, ho, hb, hk⟩
    refine ⟨_, rfl, ?_⟩
    have H1 := Az.mk (H.out.wrote 1 rfl hb hk)
    have O1 := Az.mk ho
    have HG1 := Az.mk (good_laid HG.out HX19.out)
    clear ho hb hk
    clear H O HG; have H := H1; have O := O1; have HG := HG1; clear H1 O1 HG1
    refine hK.out _ _ (H.out.sel [0] _ (by decide) rfl) (fun hHeld => ?_)
    clear hK K
    refine norm_ (a' := ?_) ?_ ?_
    rotate_left
    ·show Act.put _ (some 20) _ = _
     simp only [Act.put, List.setIfInBounds_toArray, List.set_cons_zero, List.set_cons_succ, i64_w, i32_w]
     rfl
    refine last_ (i := 4) (N := none) #[true, true, true, true, true] rfl rfl (by kernel_rfl) (by decide) (fun K hK => ?_)
    refine H.out.last_row 0 rfl (by rfl) (x := .tmp 3) (y := .tmp 20) rfl rfl rfl (cD M20 (laidD D x19)) rfl hs28 rfl (cD_one _ _) ?_
    intro ws5 H1
    clear H; have H := H1; clear H1
    refine hK.out _ _ ?_
    clear hK K
    refine norm_ (a' := ?_) ?_ ?_
    rotate_left
    ·rfl
    refine done_ (by kernel_rfl) ?_
    go_upto_if 23 with (first | (go_at_call 48; have _tk := tk0; refine (pick_callq (m := m + 1500 + 100 * (n - 1) + 69) HB.out H.out 3 rfl (HR.out.less (by omega)) 3 (by omega)).mono ?_; rintro e w22 ⟨r22, c22, rfl, hr22, hrd, h1⟩; have HR1 := Az.mk hrd; have H1 := Az.mk h1; have hz22 := eq_true (Int.natCast_nonneg r22); clear hrd h1; clear H HR; have H := H1; have HR := HR1; clear H1 HR1; clear tk0 _tk; have tk1 : True := trivial))
    (try simp only [Act.put, List.setIfInBounds_toArray, List.set_cons_zero, List.set_cons_succ])
    by_cases z22 : (r22 : Int) = 0
    ·skip
     have z22a : ((r22 : Int) == 0) = true := beq_iff_eq.mpr z22
     have z22b : decide ((r22 : Int) = 0) = true := decide_eq_true z22
     clear z22
     go_upto_if 28 with (first | ((with_reducible refine zqg (N := 24) rfl ?_); refine H.out.ld_row 0 rfl rfl rfl rfl Try.underlying28 rfl hs28 ?_; (try simp only [Act.put, List.setIfInBounds_toArray, List.set_cons_zero, List.set_cons_succ])) | (go_at_call 79; have _tk := tk1; refine (l3Flush_callq (HB.out.trans H.out.bel) (H.out.ows 1 rfl O.out) HG.out).mono ?_; rintro e w25 ⟨M25, rfl, ho, hb, hk⟩; have H1 := Az.mk (H.out.wrote 1 rfl hb hk); have O1 := Az.mk ho; have HG1 := Az.mk (good_come HG.out); clear ho hb hk; clear H O HG; have H := H1; have O := O1; have HG := HG1; clear H1 O1 HG1; clear tk1 _tk; have tk2 : True := trivial) | ((with_reducible refine gate_store (t := 28) (p := 3) rfl ?_); refine H.out.st_row 0 rfl rfl (x := .tmp 3) (y := .tmp 25) rfl rfl rfl (cD M25 (comeD (laidD D x19))) rfl hs28 rfl (cD_one _ _) ?_; intro ws7 H1; clear H; have H := H1; clear H1) | (go_at_call 48; have _tk := tk2; refine (pick_callq (m := m + 1500 + 100 * (n - 1) + 68) HB.out H.out 3 rfl (HR.out.less (by omega)) 5 (by omega)).mono ?_; rintro e w27 ⟨r27, c27, rfl, hr27, hrd, h1⟩; have HR1 := Az.mk hrd; have H1 := Az.mk h1; have hz27 := eq_true (Int.natCast_nonneg r27); clear hrd h1; clear H HR; have H := H1; have HR := HR1; clear H1 HR1; clear tk2 _tk; have tk3 : True := trivial))
     (try simp only [Act.put, List.setIfInBounds_toArray, List.set_cons_zero, List.set_cons_succ])
     by_cases z27 : (r27 : Int) = 0
     ·skip
      have z27a : ((r27 : Int) == 0) = true := beq_iff_eq.mpr z27
      have z27b : decide ((r27 : Int) = 0) = true := decide_eq_true z27
      clear z27
      go_wp2
      refine start_ (n := 10) (S := fun w' => Hq w0.heap.size w w' [.box g3 (cD M25 (comeD (laidD D x19))) 28]) (ds := [9]) #[false, false, false, false, false, false, false, false, false, false] (by kernel_rfl) rfl rfl (H.out.drew.sel [0] _ (by decide) rfl) (fun hHeld => ?_)
      have H1 := Az.mk H.out.drew
      clear H; have H := H1; clear H1
      generalize World.drew w27 = wd9 at hHeld H ⊢
      refine zqt (i := 0) (N := some 29) (v := .agg (cD M25 (comeD (laidD D x19)))) (a' := ?_) #[true, false, false, false, false, false, false, false, false, false] rfl rfl (by kernel_rfl) (fun _ _ _ h => h) (Or.inl ⟨by rfl, fun w' s0 => s0.run_row 0 rfl rfl rfl Try.underlying28 rfl hs28⟩) hHeld ?_ ?_
      rotate_left
      ·simp only [Act.put, List.setIfInBounds_toArray, List.set_cons_zero, List.set_cons_succ, i64_w, i32_w]
       rfl
      refine zqp (i := 1) (N := some 30) (v := ?_) (a' := ?_) #[true, true, false, false, false, false, false, false, false, false] rfl rfl (by kernel_rfl) (fun _ _ _ h => h) (Or.inl ⟨by rfl, ?_⟩) ?_ ?_
      rotate_left
      ·intro w'
       go_simp
       with_reducible rfl
      rotate_left
      ·simp only [Act.put, List.setIfInBounds_toArray, List.set_cons_zero, List.set_cons_succ, i64_w, i32_w]
       rfl
      refine zqp (i := 3) (N := some 32) (v := ?_) (a' := ?_) #[true, true, false, true, false, false, false, false, false, false] rfl rfl (by kernel_rfl) (fun _ _ _ h => h) (Or.inl ⟨by rfl, ?_⟩) ?_ ?_
      rotate_left
      ·intro w'
       go_simp
       with_reducible rfl
      rotate_left
      ·simp only [Act.put, List.setIfInBounds_toArray, List.set_cons_zero, List.set_cons_succ, i64_w, i32_w]
       rfl
      refine zqp (i := 5) (N := some 34) (v := ?_) (a' := ?_) #[true, true, false, true, false, true, false, false, false, false] rfl rfl (by kernel_rfl) (fun _ _ _ h => h) (Or.inl ⟨by rfl, ?_⟩) ?_ ?_
      rotate_left
      ·intro w'
       go_simp
       with_reducible rfl
      rotate_left
      ·simp only [Act.put, List.setIfInBounds_toArray, List.set_cons_zero, List.set_cons_succ, i64_w, i32_w]
       rfl
      refine one_ (i := 2) (N := some 31) #[true, true, true, true, false, true, false, false, false, false] rfl rfl (by kernel_rfl) (by decide) (fun K hK => ?_)
      refine goes_ Try.func48 (by kernel_rfl) rfl #[.pointer (some ⟨g, 0, none⟩), .int .i64 12] (by rfl) rfl rfl (by (try simp only [List.map_toArray, List.map_cons, List.map_nil]); first | done | rfl) ?_
      refine (pick_callq (m := m + 1500 + 100 * (n - 1) + 67) HB.out H.out 3 rfl (HR.out.less (by omega)) 12 (by omega)).mono ?_
      rintro e w31 ⟨r31, c31, rfl, hr31, hrd, h1⟩
      refine ⟨_, rfl, ?_⟩
      have HR1 := Az.mk hrd
      have H1 := Az.mk h1
      have hz31 := eq_true (Int.natCast_nonneg r31)
      clear hrd h1
      clear H HR; have H := H1; have HR := HR1; clear H1 HR1
      refine hK.out _ _ (H.out.sel [0] _ (by decide) rfl) (fun hHeld => ?_)
      clear hK K
      refine norm_ (a' := ?_) ?_ ?_
      rotate_left
      ·show Act.put _ (some 31) _ = _
       simp only [Act.put, List.setIfInBounds_toArray, List.set_cons_zero, List.set_cons_succ, i64_w, i32_w]
       rfl
      refine one_ (i := 4) (N := some 33) #[true, true, true, true, true, true, false, false, false, false] rfl rfl (by kernel_rfl) (by decide) (fun K hK => ?_)
      refine goes_ Try.func48 (by kernel_rfl) rfl #[.pointer (some ⟨g, 0, none⟩), .int .i64 3] (by rfl) rfl rfl (by (try simp only [List.map_toArray, List.map_cons, List.map_nil]); first | done | rfl) ?_
      refine (pick_callq (m := m + 1500 + 100 * (n - 1) + 66) HB.out H.out 3 rfl (HR.out.less (by omega)) 3 (by omega)).mono ?_
      rintro e w33 ⟨r33, c33, rfl, hr33, hrd, h1⟩
      refine ⟨_, rfl, ?_⟩
      have HR1 := Az.mk hrd
      have H1 := Az.mk h1
      have hz33 := eq_true (Int.natCast_nonneg r33)
      clear hrd h1
      clear H HR; have H := H1; have HR := HR1; clear H1 HR1
      refine hK.out _ _ (H.out.sel [0] _ (by decide) rfl) (fun hHeld => ?_)
      clear hK K
      refine norm_ (a' := ?_) ?_ ?_
      rotate_left
      ·show Act.put _ (some 33) _ = _
       simp only [Act.put, List.setIfInBounds_toArray, List.set_cons_zero, List.set_cons_succ, i64_w, i32_w]
       rfl
      refine one_ (i := 6) (N := some 35) #[true, true, true, true, true, true, true, false, false, false] rfl rfl (by kernel_rfl) (by decide) (fun K hK => ?_)
      refine goes_ Try.func48 (by kernel_rfl) rfl #[.pointer (some ⟨g, 0, none⟩), .int .i64 255] (by rfl) rfl rfl (by (try simp only [List.map_toArray, List.map_cons, List.map_nil]); first | done | rfl) ?_
      refine (pick_callq (m := m + 1500 + 100 * (n - 1) + 65) HB.out H.out 3 rfl (HR.out.less (by omega)) 255 (by omega)).mono ?_
      rintro e w35 ⟨r35, c35, rfl, hr35, hrd, h1⟩
      refine ⟨_, rfl, ?_⟩
      have HR1 := Az.mk hrd
      have H1 := Az.mk h1
      have hz35 := eq_true (Int.natCast_nonneg r35)
      clear hrd h1
      clear H HR; have H := H1; have HR := HR1; clear H1 HR1
      refine hK.out _ _ (H.out.sel [0] _ (by decide) rfl) (fun hHeld => ?_)
      clear hK K
      refine norm_ (a' := ?_) ?_ ?_
      rotate_left
      ·show Act.put _ (some 35) _ = _
       simp only [Act.put, List.setIfInBounds_toArray, List.set_cons_zero, List.set_cons_succ, i64_w, i32_w]
       rfl
      refine zqp (i := 7) (N := some 36) (v := ?_) (a' := ?_) #[true, true, true, true, true, true, true, true, false, false] rfl rfl (by kernel_rfl) (fun _ _ _ h => h) (Or.inl ⟨by rfl, ?_⟩) ?_ ?_
      rotate_left
      ·intro w'
       go_simp
       with_reducible rfl
      rotate_left
      ·simp only [Act.put, List.setIfInBounds_toArray, List.set_cons_zero, List.set_cons_succ, i64_w, i32_w]
       rfl
      refine one_ (i := 8) (N := some 37) #[true, true, true, true, true, true, true, true, true, false] rfl rfl (by kernel_rfl) (by decide) (fun K hK => ?_)
      refine goes_ Try.func87 (by kernel_rfl) rfl #[.agg (cD M25 (comeD (laidD D x19))), .int .i64 (r31 : Int), .int .i64 (r33 : Int), .int .i64 (wrap64 (1 + (r35 : Int)))] (by rfl) rfl rfl (by (try simp only [List.map_toArray, List.map_cons, List.map_nil]); first | done | rfl) ?_
      refine (l3Spoil_callq (H.out.set_in 1 rfl) (H.out.ows 1 rfl O.out) (spoil_in HG.out hr31 hr33 hr35)).mono ?_
      rintro e w37 ⟨M37, rfl, ho, hb, hk⟩
      refine ⟨_, rfl, ?_⟩
      have H1 := Az.mk (H.out.wrote 1 rfl hb hk)
      have O1 := Az.mk ho
      have HG1 := Az.mk (good_spoil (a := r31) (b := r33) (c := wrap64 (1 + (r35 : Int))) HG.out (by omega))
      clear ho hb hk
      clear H O HG; have H := H1; have O := O1; have HG := HG1; clear H1 O1 HG1
      refine hK.out _ _ (H.out.sel [0] _ (by decide) rfl) (fun hHeld => ?_)
      clear hK K
      refine norm_ (a' := ?_) ?_ ?_
      rotate_left
      ·show Act.put _ (some 37) _ = _
       simp only [Act.put, List.setIfInBounds_toArray, List.set_cons_zero, List.set_cons_succ, i64_w, i32_w]
       rfl
      refine last_ (i := 9) (N := none) #[true, true, true, true, true, true, true, true, true, true] rfl rfl (by kernel_rfl) (by decide) (fun K hK => ?_)
      refine H.out.last_row 0 rfl (by rfl) (x := .tmp 3) (y := .tmp 37) rfl rfl rfl (cD M37 (spoilD (comeD (laidD D x19)) r31 r33 (wrap64 (1 + (r35 : Int))))) rfl hs28 rfl (cD_one _ _) ?_
      intro ws9 H1
      clear H; have H := H1; clear H1
      refine hK.out _ _ ?_
      clear hK K
      refine norm_ (a' := ?_) ?_ ?_
      rotate_left
      ·rfl
      refine done_ (by kernel_rfl) ?_
      go_wp2
      go_roundg k1
      case measure => omega
      case rel => exact ⟨n - 1, M37, (spoilD (comeD (laidD D x19)) r31 r33 (wrap64 (1 + (r35 : Int)))), _, _, _, by have := HN.out; rw [wrap_ok (by omega)]; congr 1; omega, ⟨by have := HN.out; omega⟩, HG, ⟨HR.out.less (by omega)⟩, O, ⟨H.out.sel [0, 1, 2, 3, 4] _ (by decide) rfl⟩⟩
     ·skip
      have z27a : ((r27 : Int) == 0) = false := beq_eq_false_iff_ne.mpr z27
      have z27b : decide ((r27 : Int) = 0) = false := decide_eq_false z27
      clear z27
      go_wp2
      go_roundg k1
      case measure => omega
      case rel => exact ⟨n - 1, M25, (comeD (laidD D x19)), _, _, _, by have := HN.out; rw [wrap_ok (by omega)]; congr 1; omega, ⟨by have := HN.out; omega⟩, HG, ⟨HR.out.less (by omega)⟩, O, ⟨H.out.sel [0, 1, 2, 3, 4] _ (by decide) rfl⟩⟩
    ·skip
     have z22a : ((r22 : Int) == 0) = false := beq_eq_false_iff_ne.mpr z22
     have z22b : decide ((r22 : Int) = 0) = false := decide_eq_false z22
     clear z22
     go_upto_if 28 with (first | (go_at_call 48; have _tk := tk1; refine (pick_callq (m := m + 1500 + 100 * (n - 1) + 68) HB.out H.out 3 rfl (HR.out.less (by omega)) 5 (by omega)).mono ?_; rintro e w27 ⟨r27, c27, rfl, hr27, hrd, h1⟩; have HR1 := Az.mk hrd; have H1 := Az.mk h1; have hz27 := eq_true (Int.natCast_nonneg r27); clear hrd h1; clear H HR; have H := H1; have HR := HR1; clear H1 HR1; clear tk1 _tk; have tk2 : True := trivial))
     (try simp only [Act.put, List.setIfInBounds_toArray, List.set_cons_zero, List.set_cons_succ])
     by_cases z27 : (r27 : Int) = 0
     ·skip
      have z27a : ((r27 : Int) == 0) = true := beq_iff_eq.mpr z27
      have z27b : decide ((r27 : Int) = 0) = true := decide_eq_true z27
      clear z27
      go_wp2
      refine start_ (n := 10) (S := fun w' => Hq w0.heap.size w w' [.box g3 (cD M20 (laidD D x19)) 28]) (ds := [9]) #[false, false, false, false, false, false, false, false, false, false] (by kernel_rfl) rfl rfl (H.out.drew.sel [0] _ (by decide) rfl) (fun hHeld => ?_)
      have H1 := Az.mk H.out.drew
      clear H; have H := H1; clear H1
      generalize World.drew w27 = wd9 at hHeld H ⊢
      refine zqt (i := 0) (N := some 29) (v := .agg (cD M20 (laidD D x19))) (a' := ?_) #[true, false, false, false, false, false, false, false, false, false] rfl rfl (by kernel_rfl) (fun _ _ _ h => h) (Or.inl ⟨by rfl, fun w' s0 => s0.run_row 0 rfl rfl rfl Try.underlying28 rfl hs28⟩) hHeld ?_ ?_
      rotate_left
      ·simp only [Act.put, List.setIfInBounds_toArray, List.set_cons_zero, List.set_cons_succ, i64_w, i32_w]
       rfl
      refine zqp (i := 1) (N := some 30) (v := ?_) (a' := ?_) #[true, true, false, false, false, false, false, false, false, false] rfl rfl (by kernel_rfl) (fun _ _ _ h => h) (Or.inl ⟨by rfl, ?_⟩) ?_ ?_
      rotate_left
      ·intro w'
       go_simp
       with_reducible rfl
      rotate_left
      ·simp only [Act.put, List.setIfInBounds_toArray, List.set_cons_zero, List.set_cons_succ, i64_w, i32_w]
       rfl
      refine zqp (i := 3) (N := some 32) (v := ?_) (a' := ?_) #[true, true, false, true, false, false, false, false, false, false] rfl rfl (by kernel_rfl) (fun _ _ _ h => h) (Or.inl ⟨by rfl, ?_⟩) ?_ ?_
      rotate_left
      ·intro w'
       go_simp
       with_reducible rfl
      rotate_left
      ·simp only [Act.put, List.setIfInBounds_toArray, List.set_cons_zero, List.set_cons_succ, i64_w, i32_w]
       rfl
      refine zqp (i := 5) (N := some 34) (v := ?_) (a' := ?_) #[true, true, false, true, false, true, false, false, false, false] rfl rfl (by kernel_rfl) (fun _ _ _ h => h) (Or.inl ⟨by rfl, ?_⟩) ?_ ?_
      rotate_left
      ·intro w'
       go_simp
       with_reducible rfl
      rotate_left
      ·simp only [Act.put, List.setIfInBounds_toArray, List.set_cons_zero, List.set_cons_succ, i64_w, i32_w]
       rfl
      refine one_ (i := 2) (N := some 31) #[true, true, true, true, false, true, false, false, false, false] rfl rfl (by kernel_rfl) (by decide) (fun K hK => ?_)
      refine goes_ Try.func48 (by kernel_rfl) rfl #[.pointer (some ⟨g, 0, none⟩), .int .i64 12] (by rfl) rfl rfl (by (try simp only [List.map_toArray, List.map_cons, List.map_nil]); first | done | rfl) ?_
      refine (pick_callq (m := m + 1500 + 100 * (n - 1) + 67) HB.out H.out 3 rfl (HR.out.less (by omega)) 12 (by omega)).mono ?_
      rintro e w31 ⟨r31, c31, rfl, hr31, hrd, h1⟩
      refine ⟨_, rfl, ?_⟩
      have HR1 := Az.mk hrd
      have H1 := Az.mk h1
      have hz31 := eq_true (Int.natCast_nonneg r31)
      clear hrd h1
      clear H HR; have H := H1; have HR := HR1; clear H1 HR1
      refine hK.out _ _ (H.out.sel [0] _ (by decide) rfl) (fun hHeld => ?_)
      clear hK K
      refine norm_ (a' := ?_) ?_ ?_
      rotate_left
      ·show Act.put _ (some 31) _ = _
       simp only [Act.put, List.setIfInBounds_toArray, List.set_cons_zero, List.set_cons_succ, i64_w, i32_w]
       rfl
      refine one_ (i := 4) (N := some 33) #[true, true, true, true, true, true, false, false, false, false] rfl rfl (by kernel_rfl) (by decide) (fun K hK => ?_)
      refine goes_ Try.func48 (by kernel_rfl) rfl #[.pointer (some ⟨g, 0, none⟩), .int .i64 3] (by rfl) rfl rfl (by (try simp only [List.map_toArray, List.map_cons, List.map_nil]); first | done | rfl) ?_
      refine (pick_callq (m := m + 1500 + 100 * (n - 1) + 66) HB.out H.out 3 rfl (HR.out.less (by omega)) 3 (by omega)).mono ?_
      rintro e w33 ⟨r33, c33, rfl, hr33, hrd, h1⟩
      refine ⟨_, rfl, ?_⟩
      have HR1 := Az.mk hrd
      have H1 := Az.mk h1
      have hz33 := eq_true (Int.natCast_nonneg r33)
      clear hrd h1
      clear H HR; have H := H1; have HR := HR1; clear H1 HR1
      refine hK.out _ _ (H.out.sel [0] _ (by decide) rfl) (fun hHeld => ?_)
      clear hK K
      refine norm_ (a' := ?_) ?_ ?_
      rotate_left
      ·show Act.put _ (some 33) _ = _
       simp only [Act.put, List.setIfInBounds_toArray, List.set_cons_zero, List.set_cons_succ, i64_w, i32_w]
       rfl
      refine one_ (i := 6) (N := some 35) #[true, true, true, true, true, true, true, false, false, false] rfl rfl (by kernel_rfl) (by decide) (fun K hK => ?_)
      refine goes_ Try.func48 (by kernel_rfl) rfl #[.pointer (some ⟨g, 0, none⟩), .int .i64 255] (by rfl) rfl rfl (by (try simp only [List.map_toArray, List.map_cons, List.map_nil]); first | done | rfl) ?_
      refine (pick_callq (m := m + 1500 + 100 * (n - 1) + 65) HB.out H.out 3 rfl (HR.out.less (by omega)) 255 (by omega)).mono ?_
      rintro e w35 ⟨r35, c35, rfl, hr35, hrd, h1⟩
      refine ⟨_, rfl, ?_⟩
      have HR1 := Az.mk hrd
      have H1 := Az.mk h1
      have hz35 := eq_true (Int.natCast_nonneg r35)
      clear hrd h1
      clear H HR; have H := H1; have HR := HR1; clear H1 HR1
      refine hK.out _ _ (H.out.sel [0] _ (by decide) rfl) (fun hHeld => ?_)
      clear hK K
      refine norm_ (a' := ?_) ?_ ?_
      rotate_left
      ·show Act.put _ (some 35) _ = _
       simp only [Act.put, List.setIfInBounds_toArray, List.set_cons_zero, List.set_cons_succ, i64_w, i32_w]
       rfl
      refine zqp (i := 7) (N := some 36) (v := ?_) (a' := ?_) #[true, true, true, true, true, true, true, true, false, false] rfl rfl (by kernel_rfl) (fun _ _ _ h => h) (Or.inl ⟨by rfl, ?_⟩) ?_ ?_
      rotate_left
      ·intro w'
       go_simp
       with_reducible rfl
      rotate_left
      ·simp only [Act.put, List.setIfInBounds_toArray, List.set_cons_zero, List.set_cons_succ, i64_w, i32_w]
       rfl
      refine one_ (i := 8) (N := some 37) #[true, true, true, true, true, true, true, true, true, false] rfl rfl (by kernel_rfl) (by decide) (fun K hK => ?_)
      refine goes_ Try.func87 (by kernel_rfl) rfl #[.agg (cD M20 (laidD D x19)), .int .i64 (r31 : Int), .int .i64 (r33 : Int), .int .i64 (wrap64 (1 + (r35 : Int)))] (by rfl) rfl rfl (by (try simp only [List.map_toArray, List.map_cons, List.map_nil]); first | done | rfl) ?_
      refine (l3Spoil_callq (H.out.set_in 1 rfl) (H.out.ows 1 rfl O.out) (spoil_in HG.out hr31 hr33 hr35)).mono ?_
      rintro e w37 ⟨M37, rfl, ho, hb, hk⟩
      refine ⟨_, rfl, ?_⟩
      have H1 := Az.mk (H.out.wrote 1 rfl hb hk)
      have O1 := Az.mk ho
      have HG1 := Az.mk (good_spoil (a := r31) (b := r33) (c := wrap64 (1 + (r35 : Int))) HG.out (by omega))
      clear ho hb hk
      clear H O HG; have H := H1; have O := O1; have HG := HG1; clear H1 O1 HG1
      refine hK.out _ _ (H.out.sel [0] _ (by decide) rfl) (fun hHeld => ?_)
      clear hK K
      refine norm_ (a' := ?_) ?_ ?_
      rotate_left
      ·show Act.put _ (some 37) _ = _
       simp only [Act.put, List.setIfInBounds_toArray, List.set_cons_zero, List.set_cons_succ, i64_w, i32_w]
       rfl
      refine last_ (i := 9) (N := none) #[true, true, true, true, true, true, true, true, true, true] rfl rfl (by kernel_rfl) (by decide) (fun K hK => ?_)
      refine H.out.last_row 0 rfl (by rfl) (x := .tmp 3) (y := .tmp 37) rfl rfl rfl (cD M37 (spoilD (laidD D x19) r31 r33 (wrap64 (1 + (r35 : Int))))) rfl hs28 rfl (cD_one _ _) ?_
      intro ws9 H1
      clear H; have H := H1; clear H1
      refine hK.out _ _ ?_
      clear hK K
      refine norm_ (a' := ?_) ?_ ?_
      rotate_left
      ·rfl
      refine done_ (by kernel_rfl) ?_
      go_wp2
      go_roundg k1
      case measure => omega
      case rel => exact ⟨n - 1, M37, (spoilD (laidD D x19) r31 r33 (wrap64 (1 + (r35 : Int)))), _, _, _, by have := HN.out; rw [wrap_ok (by omega)]; congr 1; omega, ⟨by have := HN.out; omega⟩, HG, ⟨HR.out.less (by omega)⟩, O, ⟨H.out.sel [0, 1, 2, 3, 4] _ (by decide) rfl⟩⟩
     ·skip
      have z27a : ((r27 : Int) == 0) = false := beq_eq_false_iff_ne.mpr z27
      have z27b : decide ((r27 : Int) = 0) = false := decide_eq_false z27
      clear z27
      go_wp2
      go_roundg k1
      case measure => omega
      case rel => exact ⟨n - 1, M20, (laidD D x19), _, _, _, by have := HN.out; rw [wrap_ok (by omega)]; congr 1; omega, ⟨by have := HN.out; omega⟩, HG, ⟨HR.out.less (by omega)⟩, O, ⟨H.out.sel [0, 1, 2, 3, 4] _ (by decide) rfl⟩⟩
   ·have c14 : decide (0 < (n : Int)) = false := decide_eq_false hn
    obtain ⟨A1, c1, A2, c2, A3, c3, A4, c4⟩ := M
    have hsh := HG.out.sh
    unfold Shaped at hsh
    obtain ⟨g1, e1, _, q1, _⟩ := own_addr O.out.o1 (by omega)
    obtain ⟨p2, e2, _, q2, _⟩ := own_addr O.out.o2 (by omega)
    obtain ⟨p3, e3, _, q3, _⟩ := own_addr O.out.o3 (by omega)
    have S1 := Az.mk q1.1
    have S3 := Az.mk q3
    simp only at e1 e2 e3
    subst e1 e2 e3
    clear q1 q2 q3 hsh
    go_upto_if 40 with (first | (go_at_call 48; have _tk := tk0; refine (pick_callq (m := m + 1399) HB.out H.out 3 rfl (HR.out.less (by omega)) 30 (by omega)).mono ?_; rintro e w39 ⟨r39, c39, rfl, hr39, hrd, h1⟩; have HR1 := Az.mk hrd; have H1 := Az.mk h1; have hz39 := eq_true (Int.natCast_nonneg r39); clear hrd h1; clear H HR; have H := H1; have HR := HR1; clear H1 HR1; clear tk0 _tk; have tk1 : True := trivial))
    (try simp only [Act.put, List.setIfInBounds_toArray, List.set_cons_zero, List.set_cons_succ])
    by_cases y0 : (r39 : Int) = 0
    ·skip
     have y0a : ((r39 : Int) == 0) = true := beq_iff_eq.mpr y0
     have y0b : decide ((r39 : Int) = 0) = true := decide_eq_true y0
     clear y0
     go_wp2_with (first | ((with_reducible refine zqg (N := 42) rfl ?_); refine H.out.lit rfl (#[.int .i64 (-1), .int .i64 3, .int .i64 1]) 3 3 ?hr ?_; (case hr => first | (go_simp; done) | (go_simp; rfl)); intro g42 w42 H1; clear H; have H := H1; clear H1; (try simp only [Act.put, List.setIfInBounds_toArray, List.set_cons_zero, List.set_cons_succ])) | (go_at_call 48; have _tk := tk1; refine (pick_callq (m := m + 1398) HB.out H.out 4 rfl (HR.out.less (by omega)) 3 (by omega)).mono ?_; rintro e w44 ⟨r44, c44, rfl, hr44, hrd, h1⟩; have HR1 := Az.mk hrd; have H1 := Az.mk h1; have hz44 := eq_true (Int.natCast_nonneg r44); clear hrd h1; clear H HR; have H := H1; have HR := HR1; clear H1 HR1; clear tk1 _tk; have tk2 : True := trivial) | ((with_reducible refine zqg (N := 46) rfl ?_); refine H.out.ld_cell 0 rfl r44 (v := .int .i64 (lit3 r44)) (lit3_get hr44) rfl rfl rfl Try.underlying3 rfl ?_; (try simp only [Act.put, List.setIfInBounds_toArray, List.set_cons_zero, List.set_cons_succ])) | ((with_reducible refine gate_store (t := 3) (p := 47) rfl ?_); refine H.out.stb 1 rfl 0 (.int .i64 (lit3 r44)) rfl rfl sizeQ3 rfl rfl rfl rfl rfl ?_; intro ws12 H1; clear H; have H := H1; clear H1) | ((with_reducible refine zqg (N := 92) rfl ?_); refine H.out.ld_row 1 rfl rfl rfl rfl Try.underlying28 rfl hs28 ?_; (try simp only [Act.put, List.setIfInBounds_toArray, List.set_cons_zero, List.set_cons_succ])) | ((with_reducible refine gate_store (t := 28) (p := 2) rfl ?_); refine H.out.st_row 3 rfl rfl (x := .tmp 2) (y := .tmp 92) rfl rfl rfl (cD ⟨some ⟨g1, 0, none⟩, c1, some ⟨p2, 0, none⟩, c2, some ⟨p3, 0, none⟩, c3, A4, c4⟩ { D with st := lit3 r44 }) rfl hs28 rfl (cD_one _ _) ?_; intro ws24 H1; clear H; have H := H1; clear H1))
     exact bodyPost_ret (results_cell_row rfl _ _ g2 28 _ (0, 0) _ rfl (H.out.box 3 rfl) Try.underlying28 rfl (by kernel_rfl)) rfl ((draws_of HWG.out H.out 4 5 2 rfl rfl rfl (by decide) (by decide) (HR.out.less (m' := m) (by omega)) (OwS.lies (show OwS _ _ _ ⟨some ⟨g1, 0, none⟩, c1, some ⟨p2, 0, none⟩, c2, some ⟨p3, 0, none⟩, c3, A4, c4⟩ { D with st := lit3 r44 } from ⟨O.out.o1, O.out.o2, O.out.o3, O.out.o4⟩)) ((fits_good HG.out : FitsD D))))
    ·skip
     have y0a : ((r39 : Int) == 0) = false := beq_eq_false_iff_ne.mpr y0
     have y0b : decide ((r39 : Int) = 0) = false := decide_eq_false y0
     clear y0
     by_cases y1 : (r39 : Int) = 1
     ·skip
      have y1a : ((r39 : Int) == 1) = true := beq_iff_eq.mpr y1
      have y1b : decide ((r39 : Int) = 1) = true := decide_eq_true y1
      clear y1
      go_wp2
      refine start_ (n := 6) (S := fun w' => Hq w0.heap.size w w' [.box g3 (cD ⟨some ⟨g1, 0, none⟩, c1, some ⟨p2, 0, none⟩, c2, some ⟨p3, 0, none⟩, c3, A4, c4⟩ D) 28]) (ds := [5]) #[false, false, false, false, false, false] (by kernel_rfl) rfl rfl (H.out.drew.sel [0] _ (by decide) rfl) (fun hHeld => ?_)
      have H1 := Az.mk H.out.drew
      clear H; have H := H1; clear H1
      generalize World.drew w39 = wd14 at hHeld H ⊢
      refine zqp (i := 0) (N := some 50) (v := ?_) (a' := ?_) #[true, false, false, false, false, false] rfl rfl (by kernel_rfl) (fun _ _ _ h => h) (Or.inl ⟨by rfl, ?_⟩) ?_ ?_
      rotate_left
      ·intro w'
       go_simp
       with_reducible rfl
      rotate_left
      ·simp only [Act.put, List.setIfInBounds_toArray, List.set_cons_zero, List.set_cons_succ, i64_w, i32_w]
       rfl
      refine zqt (i := 1) (N := some 51) (v := .slice (some ⟨g1, 0, none⟩) D.l1.length c1) (a' := ?_) #[true, true, false, false, false, false] rfl rfl (by kernel_rfl) (fun _ _ _ h => h) (Or.inl ⟨by rfl, fun w' s0 => s0.run_cell 0 rfl 1 rfl rfl rfl Try.underlying24 rfl⟩) hHeld ?_ ?_
      rotate_left
      ·simp only [Act.put, List.setIfInBounds_toArray, List.set_cons_zero, List.set_cons_succ, i64_w, i32_w]
       rfl
      refine zqp (i := 2) (N := some 52) (v := ?_) (a' := ?_) #[true, true, true, false, false, false] rfl rfl (by kernel_rfl) (fun _ _ _ h => h) (Or.inl ⟨by rfl, ?_⟩) ?_ ?_
      rotate_left
      ·intro w'
       go_simp
       with_reducible rfl
      rotate_left
      ·simp only [Act.put, List.setIfInBounds_toArray, List.set_cons_zero, List.set_cons_succ, i64_w, i32_w]
       rfl
      refine one_ (i := 3) (N := some 53) #[true, true, true, true, false, false] rfl rfl (by kernel_rfl) (by decide) (fun K hK => ?_)
      refine goes_ Try.func48 (by kernel_rfl) rfl #[.pointer (some ⟨g, 0, none⟩), .int .i64 12] (by rfl) rfl rfl (by (try simp only [List.map_toArray, List.map_cons, List.map_nil]); first | done | rfl) ?_
      refine (pick_callq (m := m + 1398) HB.out H.out 3 rfl (HR.out.less (by omega)) 12 (by omega)).mono ?_
      rintro e w53 ⟨r53, c53, rfl, hr53, hrd, h1⟩
      refine ⟨_, rfl, ?_⟩
      have HR1 := Az.mk hrd
      have H1 := Az.mk h1
      have hz53 := eq_true (Int.natCast_nonneg r53)
      clear hrd h1
      clear H HR; have H := H1; have HR := HR1; clear H1 HR1
      refine hK.out _ _ (H.out.sel [0] _ (by decide) rfl) (fun hHeld => ?_)
      clear hK K
      refine norm_ (a' := ?_) ?_ ?_
      rotate_left
      ·show Act.put _ (some 53) _ = _
       simp only [Act.put, List.setIfInBounds_toArray, List.set_cons_zero, List.set_cons_succ, i64_w, i32_w]
       rfl
      have hl53 : (r53 : Int) < (D.l1.length : Int) := by have := HG.out.sh; unfold Shaped at this; omega
      refine zqp (i := 4) (N := some 54) (v := ?_) (a' := ?_) #[true, true, true, true, true, false] rfl rfl (by kernel_rfl) (fun _ _ _ h => h) (Or.inl ⟨by rfl, ?_⟩) ?_ ?_
      rotate_left
      ·intro w'
       go_simp
       with_reducible rfl
      rotate_left
      ·simp only [Act.put, List.setIfInBounds_toArray, List.set_cons_zero, List.set_cons_succ, i64_w, i32_w]
       rfl
      have HC := Az.mk (ows_cell1 (H.out.ows 1 rfl O.out) (i := r53) (by omega))
      refine last_ (i := 5) (N := none) #[true, true, true, true, true, true] rfl rfl (by kernel_rfl) (by decide) (fun K hK => ?_)
      refine last_st (by rfl) rfl (run_sc (v := .string ⟨#[97, 98]⟩) sizeS9 HC.out.1 HC.out.2 rfl rfl rfl rfl) ?_
      have H1 := Az.mk (H.out.set_cell (j := r53) 1 rfl S1.out (.string ⟨#[97, 98]⟩))
      have O1 := Az.mk ((H.out.ows 1 rfl O.out).put1 r53 ⟨#[97, 98]⟩)
      clear H O; have H := H1; have O := O1; clear H1 O1
      refine hK.out _ _ ?_
      clear hK K
      refine norm_ (a' := ?_) ?_ ?_
      rotate_left
      ·rfl
      refine done_ (by kernel_rfl) ?_
      go_wp2_with (first | ((with_reducible refine zqg (N := 92) rfl ?_); refine H.out.ld_row 0 rfl rfl rfl rfl Try.underlying28 rfl hs28 ?_; (try simp only [Act.put, List.setIfInBounds_toArray, List.set_cons_zero, List.set_cons_succ])) | ((with_reducible refine gate_store (t := 28) (p := 2) rfl ?_); refine H.out.st_row 2 rfl rfl (x := .tmp 2) (y := .tmp 92) rfl rfl rfl (cD ⟨some ⟨g1, 0, none⟩, c1, some ⟨p2, 0, none⟩, c2, some ⟨p3, 0, none⟩, c3, A4, c4⟩ D) rfl hs28 rfl (cD_one _ _) ?_; intro ws24 H1; clear H; have H := H1; clear H1))
      exact bodyPost_ret (results_cell_row rfl _ _ g2 28 _ (0, 0) _ rfl (H.out.box 2 rfl) Try.underlying28 rfl (by kernel_rfl)) rfl (ret_as (by simp only [cD, List.length_set]) (draws_of HWG.out H.out 3 4 1 rfl rfl rfl (by decide) (by decide) (HR.out.less (m' := m) (by omega)) (OwS.lies O.out) (fits_set1 (fits_good HG.out))))
     ·skip
      have y1a : ((r39 : Int) == 1) = false := beq_eq_false_iff_ne.mpr y1
      have y1b : decide ((r39 : Int) = 1) = false := decide_eq_false y1
      clear y1
      by_cases y2 : (r39 : Int) = 2
      ·skip
       have y2a : ((r39 : Int) == 2) = true := beq_iff_eq.mpr y2
       have y2b : decide ((r39 : Int) = 2) = true := decide_eq_true y2
       clear y2
       go_wp2
       refine start_ (n := 6) (S := fun w' => Hq w0.heap.size w w' [.box g3 (cD ⟨some ⟨g1, 0, none⟩, c1, some ⟨p2, 0, none⟩, c2, some ⟨p3, 0, none⟩, c3, A4, c4⟩ D) 28]) (ds := [5]) #[false, false, false, false, false, false] (by kernel_rfl) rfl rfl (H.out.drew.sel [0] _ (by decide) rfl) (fun hHeld => ?_)
       have H1 := Az.mk H.out.drew
       clear H; have H := H1; clear H1
       generalize World.drew w39 = wd16 at hHeld H ⊢
       refine zqp (i := 0) (N := some 57) (v := ?_) (a' := ?_) #[true, false, false, false, false, false] rfl rfl (by kernel_rfl) (fun _ _ _ h => h) (Or.inl ⟨by rfl, ?_⟩) ?_ ?_
       rotate_left
       ·intro w'
        go_simp
        with_reducible rfl
       rotate_left
       ·simp only [Act.put, List.setIfInBounds_toArray, List.set_cons_zero, List.set_cons_succ, i64_w, i32_w]
        rfl
       refine zqt (i := 1) (N := some 58) (v := .slice (some ⟨p3, 0, none⟩) D.l3.length c3) (a' := ?_) #[true, true, false, false, false, false] rfl rfl (by kernel_rfl) (fun _ _ _ h => h) (Or.inl ⟨by rfl, fun w' s0 => s0.run_cell 0 rfl 3 rfl rfl rfl Try.underlying25 rfl⟩) hHeld ?_ ?_
       rotate_left
       ·simp only [Act.put, List.setIfInBounds_toArray, List.set_cons_zero, List.set_cons_succ, i64_w, i32_w]
        rfl
       refine zqp (i := 2) (N := some 59) (v := ?_) (a' := ?_) #[true, true, true, false, false, false] rfl rfl (by kernel_rfl) (fun _ _ _ h => h) (Or.inl ⟨by rfl, ?_⟩) ?_ ?_
       rotate_left
       ·intro w'
        go_simp
        with_reducible rfl
       rotate_left
       ·simp only [Act.put, List.setIfInBounds_toArray, List.set_cons_zero, List.set_cons_succ, i64_w, i32_w]
        rfl
       refine one_ (i := 3) (N := some 60) #[true, true, true, true, false, false] rfl rfl (by kernel_rfl) (by decide) (fun K hK => ?_)
       refine goes_ Try.func48 (by kernel_rfl) rfl #[.pointer (some ⟨g, 0, none⟩), .int .i64 12] (by rfl) rfl rfl (by (try simp only [List.map_toArray, List.map_cons, List.map_nil]); first | done | rfl) ?_
       refine (pick_callq (m := m + 1398) HB.out H.out 3 rfl (HR.out.less (by omega)) 12 (by omega)).mono ?_
       rintro e w60 ⟨r60, c60, rfl, hr60, hrd, h1⟩
       refine ⟨_, rfl, ?_⟩
       have HR1 := Az.mk hrd
       have H1 := Az.mk h1
       have hz60 := eq_true (Int.natCast_nonneg r60)
       clear hrd h1
       clear H HR; have H := H1; have HR := HR1; clear H1 HR1
       refine hK.out _ _ (H.out.sel [0] _ (by decide) rfl) (fun hHeld => ?_)
       clear hK K
       refine norm_ (a' := ?_) ?_ ?_
       rotate_left
       ·show Act.put _ (some 60) _ = _
        simp only [Act.put, List.setIfInBounds_toArray, List.set_cons_zero, List.set_cons_succ, i64_w, i32_w]
        rfl
       have hl60 : (r60 : Int) < (D.l3.length : Int) := by have := HG.out.sh; unfold Shaped at this; omega
       refine zqp (i := 4) (N := some 61) (v := ?_) (a' := ?_) #[true, true, true, true, true, false] rfl rfl (by kernel_rfl) (fun _ _ _ h => h) (Or.inl ⟨by rfl, ?_⟩) ?_ ?_
       rotate_left
       ·intro w'
        go_simp
        with_reducible rfl
       rotate_left
       ·simp only [Act.put, List.setIfInBounds_toArray, List.set_cons_zero, List.set_cons_succ, i64_w, i32_w]
        rfl
       have HC := Az.mk (ows_cell3 (H.out.ows 1 rfl O.out) (i := r60) (by omega))
       refine last_ (i := 5) (N := none) #[true, true, true, true, true, true] rfl rfl (by kernel_rfl) (by decide) (fun K hK => ?_)
       refine last_st (by rfl) rfl (run_sc (v := .bool true) sizeS4 HC.out.1 HC.out.2 rfl rfl rfl rfl) ?_
       have H1 := Az.mk (H.out.set_cell (j := r60) 1 rfl S3.out (.bool true))
       have O1 := Az.mk ((H.out.ows 1 rfl O.out).put3 r60 true)
       clear H O; have H := H1; have O := O1; clear H1 O1
       refine hK.out _ _ ?_
       clear hK K
       refine norm_ (a' := ?_) ?_ ?_
       rotate_left
       ·rfl
       refine done_ (by kernel_rfl) ?_
       go_wp2_with (first | ((with_reducible refine zqg (N := 92) rfl ?_); refine H.out.ld_row 0 rfl rfl rfl rfl Try.underlying28 rfl hs28 ?_; (try simp only [Act.put, List.setIfInBounds_toArray, List.set_cons_zero, List.set_cons_succ])) | ((with_reducible refine gate_store (t := 28) (p := 2) rfl ?_); refine H.out.st_row 2 rfl rfl (x := .tmp 2) (y := .tmp 92) rfl rfl rfl (cD ⟨some ⟨g1, 0, none⟩, c1, some ⟨p2, 0, none⟩, c2, some ⟨p3, 0, none⟩, c3, A4, c4⟩ D) rfl hs28 rfl (cD_one _ _) ?_; intro ws24 H1; clear H; have H := H1; clear H1))
       exact bodyPost_ret (results_cell_row rfl _ _ g2 28 _ (0, 0) _ rfl (H.out.box 2 rfl) Try.underlying28 rfl (by kernel_rfl)) rfl (ret_as (by simp only [cD, List.length_set]) (draws_of HWG.out H.out 3 4 1 rfl rfl rfl (by decide) (by decide) (HR.out.less (m' := m) (by omega)) (OwS.lies O.out) (fits_set3 (fits_good HG.out))))
      ·skip
       have y2a : ((r39 : Int) == 2) = false := beq_eq_false_iff_ne.mpr y2
       have y2b : decide ((r39 : Int) = 2) = false := decide_eq_false y2
       clear y2
       by_cases y3 : (r39 : Int) = 3
       ·skip
        have y3a : ((r39 : Int) == 3) = true := beq_iff_eq.mpr y3
        have y3b : decide ((r39 : Int) = 3) = true := decide_eq_true y3
        clear y3
        go_wp2_with (first | ((with_reducible refine zqg (N := 65) rfl ?_); refine H.out.ld_cell 0 rfl 4 (v := .slice A4 D.l4.length c4) rfl rfl rfl rfl Try.underlying26 rfl ?_; (try simp only [Act.put, List.setIfInBounds_toArray, List.set_cons_zero, List.set_cons_succ])) | ((with_reducible refine gate_builtin (b := .append) (xs := #[.tmp 65, .tmp 67]) rfl ?_); at_builtin; refine H.out.app 1 rfl O.out (by have := HG.out.sh; unfold Shaped at this; omega) ⟨false, 12, ⟨#[97, 98, 99]⟩⟩ rfl (.tmp 65) (.tmp 67) rfl rfl (by first | (go_simp; done) | (go_simp; rfl)) ?_; intro A68 c68 w68 q68 HQ68 H1 O1; clear H O; have H := H1; have O := O1; clear H1 O1; (try simp only [Act.put, List.setIfInBounds_toArray, List.set_cons_zero, List.set_cons_succ])) | ((with_reducible refine gate_store (t := 26) (p := 69) rfl ?_); refine H.out.stb 0 rfl 4 (.slice A68 q68.length c68) rfl rfl sizeQ26 rfl rfl rfl rfl rfl ?_; intro ws18 H1; clear H; have H := H1; clear H1) | ((with_reducible refine zqg (N := 92) rfl ?_); refine H.out.ld_row 0 rfl rfl rfl rfl Try.underlying28 rfl hs28 ?_; (try simp only [Act.put, List.setIfInBounds_toArray, List.set_cons_zero, List.set_cons_succ])) | ((with_reducible refine gate_store (t := 28) (p := 2) rfl ?_); refine H.out.st_row 2 rfl rfl (x := .tmp 2) (y := .tmp 92) rfl rfl rfl (cD ⟨some ⟨g1, 0, none⟩, c1, some ⟨p2, 0, none⟩, c2, some ⟨p3, 0, none⟩, c3, A68, c68⟩ { D with l4 := q68 }) rfl hs28 rfl (cD_one _ _) ?_; intro ws24 H1; clear H; have H := H1; clear H1))
        exact bodyPost_ret (results_cell_row rfl _ _ g2 28 _ (0, 0) _ rfl (H.out.box 2 rfl) Try.underlying28 rfl (by kernel_rfl)) rfl ((draws_of HWG.out H.out 3 4 1 rfl rfl rfl (by decide) (by decide) (HR.out.less (m' := m) (by omega)) (OwS.lies O.out) (fits_l4 (fits_good HG.out) (by have := HG.out.sh; unfold Shaped at this; rw [HQ68.out, List.length_append, List.length_singleton]; omega))))
       ·skip
        have y3a : ((r39 : Int) == 3) = false := beq_eq_false_iff_ne.mpr y3
        have y3b : decide ((r39 : Int) = 3) = false := decide_eq_false y3
        clear y3
        by_cases y4 : (r39 : Int) = 4
        ·skip
         have y4a : ((r39 : Int) == 4) = true := beq_iff_eq.mpr y4
         have y4b : decide ((r39 : Int) = 4) = true := decide_eq_true y4
         clear y4
         have h4 := Az.mk (show D.l4.length ≤ 40 from HG.out.sh.2.2.2.2)
         go_wp2
         simp only [y0a]
         go_loopg [] (42 - D.l4.length) (fun kq w' => ∃ (A4' : Option Addr) (c4' : Nat) (q : List S54) (S : Nat → Prop) (wo : World) (c : Array Value), Az (q.length + kq = 42 ∧ q.length ≤ 41) ∧ Az (Rdr w0 b (m + 31 * kq) c) ∧ Az (OwS wo w0.heap.size S ⟨some ⟨g1, 0, none⟩, c1, some ⟨p2, 0, none⟩, c2, some ⟨p3, 0, none⟩, c3, A4', c4'⟩ { D with l4 := q }) ∧ Az (Hq w0.heap.size w w' [.box g3 (cD ⟨some ⟨g1, 0, none⟩, c1, some ⟨p2, 0, none⟩, c2, some ⟨p3, 0, none⟩, c3, A4', c4'⟩ { D with l4 := q }) 28, .set S wo, .box g2 (#[.int .i64 0, .slice none 0 0, .slice none 0 0, .slice none 0 0, .slice none 0 0]) 28, .box g c 104, .set (fun k => k ≠ g ∧ w0.heap.size ≤ k ∧ k < w.heap.size) w]))
         case atStart => exact ⟨A4, c4, D.l4, _, _, _, ⟨by have := h4.out; omega⟩, ⟨HR.out.less (by omega)⟩, O, ⟨H.out.sel [0, 1, 2, 3, 4] _ (by decide) rfl⟩⟩
         case round =>
          clear H HR O
          obtain ⟨A4', c4', q, S, wo, c, HN, HR, O, H⟩ := hrel
          cases gk with
          | zero => exact absurd HN.out.1 (by have := HN.out.2; omega)
          | succ k2 =>
           have tk0 : True := trivial
           go_wp2
           refine start_ (n := 7) (S := fun w' => Hq w0.heap.size w w' [.box g3 (cD ⟨some ⟨g1, 0, none⟩, c1, some ⟨p2, 0, none⟩, c2, some ⟨p3, 0, none⟩, c3, A4', c4'⟩ { D with l4 := q }) 28]) (ds := []) #[false, false, false, false, false, false, false] (by kernel_rfl) rfl rfl (H.out.drew.sel [0] _ (by decide) rfl) (fun hHeld => ?_)
           have H1 := Az.mk H.out.drew
           clear H; have H := H1; clear H1
           generalize World.drew wr = wd20 at hHeld H ⊢
           refine zqp (i := 0) (N := some 72) (v := ?_) (a' := ?_) #[true, false, false, false, false, false, false] rfl rfl (by kernel_rfl) (fun _ _ _ h => h) (Or.inl ⟨by rfl, ?_⟩) ?_ ?_
           rotate_left
           ·intro w'
            go_simp
            with_reducible rfl
           rotate_left
           ·simp only [Act.put, List.setIfInBounds_toArray, List.set_cons_zero, List.set_cons_succ, i64_w, i32_w]
            rfl
           refine zqt (i := 1) (N := some 73) (v := .slice A4' q.length c4') (a' := ?_) #[true, true, false, false, false, false, false] rfl rfl (by kernel_rfl) (fun _ _ _ h => h) (Or.inl ⟨by rfl, fun w' s0 => s0.run_cell 0 rfl 4 rfl rfl rfl Try.underlying26 rfl⟩) hHeld ?_ ?_
           rotate_left
           ·simp only [Act.put, List.setIfInBounds_toArray, List.set_cons_zero, List.set_cons_succ, i64_w, i32_w]
            rfl
           refine zqp (i := 2) (N := some 74) (v := ?_) (a' := ?_) #[true, true, true, false, false, false, false] rfl rfl (by kernel_rfl) (fun _ _ _ h => h) (Or.inl ⟨by rfl, ?_⟩) ?_ ?_
           rotate_left
           ·intro w'
            go_simp
            with_reducible rfl
           rotate_left
           ·simp only [Act.put, List.setIfInBounds_toArray, List.set_cons_zero, List.set_cons_succ, i64_w, i32_w]
            rfl
           refine zqp (i := 3) (N := some 75) (v := ?_) (a' := ?_) #[true, true, true, true, false, false, false] rfl rfl (by kernel_rfl) (fun _ _ _ h => h) (Or.inl ⟨by rfl, ?_⟩) ?_ ?_
           rotate_left
           ·intro w'
            go_simp
            with_reducible rfl
           rotate_left
           ·simp only [Act.put, List.setIfInBounds_toArray, List.set_cons_zero, List.set_cons_succ, i64_w, i32_w]
            rfl
           refine one_ (i := 4) (N := some 76) #[true, true, true, true, true, false, false] rfl rfl (by kernel_rfl) (by decide) (fun K hK => ?_)
           refine goes_ Try.func48 (by kernel_rfl) rfl #[.pointer (some ⟨g, 0, none⟩), .int .i64 2] (by rfl) rfl rfl (by (try simp only [List.map_toArray, List.map_cons, List.map_nil]); first | done | rfl) ?_
           refine (pick_callq (m := m + 31 * k2 + 30) HB.out H.out 3 rfl (HR.out.less (by omega)) 2 (by omega)).mono ?_
           rintro e w76 ⟨r76, c76, rfl, hr76, hrd, h1⟩
           refine ⟨_, rfl, ?_⟩
           have HR1 := Az.mk hrd
           have H1 := Az.mk h1
           have hz76 := eq_true (Int.natCast_nonneg r76)
           clear hrd h1
           clear H HR; have H := H1; have HR := HR1; clear H1 HR1
           refine hK.out _ _ (H.out.sel [0] _ (by decide) rfl) (fun hHeld => ?_)
           clear hK K
           refine norm_ (a' := ?_) ?_ ?_
           rotate_left
           ·show Act.put _ (some 76) _ = _
            simp only [Act.put, List.setIfInBounds_toArray, List.set_cons_zero, List.set_cons_succ, i64_w, i32_w]
            rfl
           refine zqp (i := 5) (N := some 77) (v := ?_) (a' := ?_) #[true, true, true, true, true, true, false] rfl rfl (by kernel_rfl) (fun _ _ _ h => h) (Or.inl ⟨by rfl, ?_⟩) ?_ ?_
           rotate_left
           ·intro w'
            go_simp
            with_reducible rfl
           rotate_left
           ·simp only [Act.put, List.setIfInBounds_toArray, List.set_cons_zero, List.set_cons_succ, i64_w, i32_w]
            rfl
           refine zqp (i := 6) (N := some 78) (v := ?_) (a' := ?_) #[true, true, true, true, true, true, true] rfl rfl (by kernel_rfl) (fun _ _ _ h => h) (Or.inl ⟨by rfl, ?_⟩) ?_ ?_
           rotate_left
           ·intro w'
            go_simp
            with_reducible rfl
           rotate_left
           ·simp only [Act.put, List.setIfInBounds_toArray, List.set_cons_zero, List.set_cons_succ, i64_w, i32_w]
            rfl
           refine done_ (by kernel_rfl) ?_
           have ew : wrap64 (40 + (r76 : Int)) = 40 + (r76 : Int) := wrap_ok (by omega)
           rw [ew]
           clear ew
           by_cases hl : (q.length : Int) < 40 + (r76 : Int)
           ·have hq : q.length ≤ 40 := by omega
            have HQ := Az.mk hq
            have hla : decide ((q.length : Int) < 40 + (r76 : Int)) = true := decide_eq_true hl
            clear hl hq
            simp only [hla]
            go_wp2
            refine start_ (n := 8) (S := fun w' => Hq w0.heap.size w w' [.box g3 (cD ⟨some ⟨g1, 0, none⟩, c1, some ⟨p2, 0, none⟩, c2, some ⟨p3, 0, none⟩, c3, A4', c4'⟩ { D with l4 := q }) 28]) (ds := [7]) #[false, false, false, false, false, false, false, false] (by kernel_rfl) rfl rfl (H.out.drew.sel [0] _ (by decide) rfl) (fun hHeld => ?_)
            have H1 := Az.mk H.out.drew
            clear H; have H := H1; clear H1
            generalize World.drew w76 = wd21 at hHeld H ⊢
            refine zqp (i := 0) (N := some 79) (v := ?_) (a' := ?_) #[true, false, false, false, false, false, false, false] rfl rfl (by kernel_rfl) (fun _ _ _ h => h) (Or.inl ⟨by rfl, ?_⟩) ?_ ?_
            rotate_left
            ·intro w'
             go_simp
             with_reducible rfl
            rotate_left
            ·simp only [Act.put, List.setIfInBounds_toArray, List.set_cons_zero, List.set_cons_succ, i64_w, i32_w]
             rfl
            refine zqt (i := 1) (N := some 80) (v := .slice A4' q.length c4') (a' := ?_) #[true, true, false, false, false, false, false, false] rfl rfl (by kernel_rfl) (fun _ _ _ h => h) (Or.inl ⟨by rfl, fun w' s0 => s0.run_cell 0 rfl 4 rfl rfl rfl Try.underlying26 rfl⟩) hHeld ?_ ?_
            rotate_left
            ·simp only [Act.put, List.setIfInBounds_toArray, List.set_cons_zero, List.set_cons_succ, i64_w, i32_w]
             rfl
            refine zqp (i := 2) (N := some 81) (v := ?_) (a' := ?_) #[true, true, true, false, false, false, false, false] rfl rfl (by kernel_rfl) (fun _ _ _ h => h) (Or.inl ⟨by rfl, ?_⟩) ?_ ?_
            rotate_left
            ·intro w'
             go_simp
             with_reducible rfl
            rotate_left
            ·simp only [Act.put, List.setIfInBounds_toArray, List.set_cons_zero, List.set_cons_succ, i64_w, i32_w]
             rfl
            refine one_ (i := 3) (N := some 82) #[true, true, true, true, false, false, false, false] rfl rfl (by kernel_rfl) (by decide) (fun K hK => ?_)
            refine goes_ Try.func81 (by kernel_rfl) rfl #[.pointer (some ⟨g, 0, none⟩)] (by rfl) rfl rfl (by (try simp only [List.map_toArray, List.map_cons, List.map_nil]); first | done | rfl) ?_
            refine (put_callq (m := m + 31 * k2 + 0) HB.out H.out 3 rfl (HR.out.less (by omega))).mono ?_
            rintro e w82 ⟨x82, c82, rfl, hx, hrd, h1⟩
            refine ⟨_, rfl, ?_⟩
            have HR1 := Az.mk hrd
            have H1 := Az.mk h1
            have HX82 := Az.mk hx
            clear hrd h1 hx
            clear H HR; have H := H1; have HR := HR1; clear H1 HR1
            refine hK.out _ _ (H.out.sel [0] _ (by decide) rfl) (fun hHeld => ?_)
            clear hK K
            refine norm_ (a' := ?_) ?_ ?_
            rotate_left
            ·show Act.put _ (some 82) _ = _
             simp only [Act.put, List.setIfInBounds_toArray, List.set_cons_zero, List.set_cons_succ, i64_w, i32_w]
             rfl
            refine one_ (i := 4) (N := some 83) #[true, true, true, true, true, false, false, false] rfl rfl (by kernel_rfl) (by decide) (fun K hK => ?_)
            refine event_step (v := .slice (some ⟨w82.heap.size, 0, none⟩) 1 1) (w1 := w82.alloc (.cells #[.bool x82.f0, .int .i64 x82.f1, .string x82.f2] 54)) (by rfl) (by first | (go_simp; done) | (go_simp; rfl)) ?_
            refine hK.out _ _ ((H.out.step (zq2 (Below.refl _ _) _)).sel [0] _ (by decide) rfl) (fun hHeld => ?_)
            clear hK K
            refine norm_ (a' := ?_) ?_ ?_
            rotate_left
            ·show Act.put _ (some 83) _ = _
             simp only [Act.put, List.setIfInBounds_toArray, List.set_cons_zero, List.set_cons_succ, i64_w, i32_w]
             rfl
            refine one_ (i := 5) (N := some 84) #[true, true, true, true, true, true, false, false] rfl rfl (by kernel_rfl) (by decide) (fun K hK => ?_)
            refine H.out.app_ 1 rfl O.out (by have := HQ.out; show q.length ≤ _; omega) x82 (by rfl) (.tmp 80) (.tmp 83) rfl rfl rfl ?_
            intro A84 c84 w84 q84 HQ84 H1 O1
            clear H O; have H := H1; have O := O1; clear H1 O1
            refine hK.out _ _ (H.out.sel [0] _ (by decide) rfl) (fun hHeld => ?_)
            clear hK K
            refine norm_ (a' := ?_) ?_ ?_
            rotate_left
            ·show Act.put _ (some 84) _ = _
             simp only [Act.put, List.setIfInBounds_toArray, List.set_cons_zero, List.set_cons_succ, i64_w, i32_w]
             rfl
            refine zqp (i := 6) (N := some 85) (v := ?_) (a' := ?_) #[true, true, true, true, true, true, true, false] rfl rfl (by kernel_rfl) (fun _ _ _ h => h) (Or.inl ⟨by rfl, ?_⟩) ?_ ?_
            rotate_left
            ·intro w'
             go_simp
             with_reducible rfl
            rotate_left
            ·simp only [Act.put, List.setIfInBounds_toArray, List.set_cons_zero, List.set_cons_succ, i64_w, i32_w]
             rfl
            refine last_ (i := 7) (N := none) #[true, true, true, true, true, true, true, true] rfl rfl (by kernel_rfl) (by decide) (fun K hK => ?_)
            refine H.out.last_cell 0 rfl 4 (.slice A84 q84.length c84) rfl (by rfl) sizeQ26 rfl rfl rfl rfl rfl ?_
            intro ws21 H1
            clear H; have H := H1; clear H1
            refine hK.out _ _ ?_
            clear hK K
            refine norm_ (a' := ?_) ?_ ?_
            rotate_left
            ·rfl
            refine done_ (by kernel_rfl) ?_
            go_wp2
            go_roundg k2
            case measure => omega
            case rel => exact ⟨A84, c84, q84, _, _, _, ⟨by have h1 := HN.out; have h2 := HQ.out; rw [HQ84.out, List.length_append, List.length_singleton]; show q.length + 1 + k2 = 42 ∧ q.length + 1 ≤ 41; omega⟩, ⟨HR.out.less (by omega)⟩, O, ⟨H.out.sel [0, 1, 2, 3, 4] _ (by decide) rfl⟩⟩
           ·have hla : decide ((q.length : Int) < 40 + (r76 : Int)) = false := decide_eq_false hl
            clear hl
            simp only [hla]
            go_upto_region 24 with fail
            go_wp2_with (first | ((with_reducible refine zqg (N := 92) rfl ?_); refine H.out.ld_row 0 rfl rfl rfl rfl Try.underlying28 rfl hs28 ?_; (try simp only [Act.put, List.setIfInBounds_toArray, List.set_cons_zero, List.set_cons_succ])) | ((with_reducible refine gate_store (t := 28) (p := 2) rfl ?_); refine H.out.st_row 2 rfl rfl (x := .tmp 2) (y := .tmp 92) rfl rfl rfl (cD ⟨some ⟨g1, 0, none⟩, c1, some ⟨p2, 0, none⟩, c2, some ⟨p3, 0, none⟩, c3, A4', c4'⟩ { D with l4 := q }) rfl hs28 rfl (cD_one _ _) ?_; intro ws24 H1; clear H; have H := H1; clear H1))
            exact bodyPost_ret (results_cell_row rfl _ _ g2 28 _ (0, 0) _ rfl (H.out.box 2 rfl) Try.underlying28 rfl (by kernel_rfl)) rfl ((draws_of HWG.out H.out 3 4 1 rfl rfl rfl (by decide) (by decide) (HR.out.less (m' := m) (by omega)) (OwS.lies O.out) (fits_l4 (fits_good HG.out) (by have := HN.out; omega))))
        ·skip
         have y4a : ((r39 : Int) == 4) = false := beq_eq_false_iff_ne.mpr y4
         have y4b : decide ((r39 : Int) = 4) = false := decide_eq_false y4
         clear y4
         by_cases y5 : (r39 : Int) = 5
         ·skip
          have y5a : ((r39 : Int) == 5) = true := beq_iff_eq.mpr y5
          have y5b : decide ((r39 : Int) = 5) = true := decide_eq_true y5
          clear y5
          have h2 := Az.mk HG.out.sh.2.2.1
          have hc2 := Az.mk (OwS.cap2 O.out h2.out)
          go_wp2_with (first | ((with_reducible refine zqg (N := 89) rfl ?_); refine H.out.ld_cell 0 rfl 2 (v := .slice (some ⟨p2, 0, none⟩) D.l2.length c2) rfl rfl rfl rfl Try.underlying24 rfl ?_; (try simp only [Act.put, List.setIfInBounds_toArray, List.set_cons_zero, List.set_cons_succ])) | ((with_reducible refine zqg (N := 90) rfl ?_); refine drop_ev (c := c2) (l := D.l2) rfl rfl rfl h2.out hc2.out ?_; intro q90 HQ90; (try simp only [Act.put, List.setIfInBounds_toArray, List.set_cons_zero, List.set_cons_succ])) | ((with_reducible refine gate_store (t := 24) (p := 91) rfl ?_); refine H.out.stb 0 rfl 2 (.slice (some ⟨p2, 1, none⟩) q90.length (c2 - 1)) rfl rfl sizeQ24 rfl rfl rfl rfl rfl ?_; intro ws23 H1; clear H; have H := H1; clear H1) | ((with_reducible refine zqg (N := 92) rfl ?_); refine H.out.ld_row 0 rfl rfl rfl rfl Try.underlying28 rfl hs28 ?_; (try simp only [Act.put, List.setIfInBounds_toArray, List.set_cons_zero, List.set_cons_succ])) | ((with_reducible refine gate_store (t := 28) (p := 2) rfl ?_); refine H.out.st_row 2 rfl rfl (x := .tmp 2) (y := .tmp 92) rfl rfl rfl (cD ⟨some ⟨g1, 0, none⟩, c1, some ⟨p2, 1, none⟩, c2 - 1, some ⟨p3, 0, none⟩, c3, A4, c4⟩ { D with l2 := q90 }) rfl hs28 rfl (cD_one _ _) ?_; intro ws24 H1; clear H; have H := H1; clear H1))
          exact bodyPost_ret (results_cell_row rfl _ _ g2 28 _ (0, 0) _ rfl (H.out.box 2 rfl) Try.underlying28 rfl (by kernel_rfl)) rfl ((draws_of HWG.out H.out 3 4 1 rfl rfl rfl (by decide) (by decide) (HR.out.less (m' := m) (by omega)) ((by rw [HQ90.out]; exact OwS.lies_drop O.out h2.out)) ((by rw [HQ90.out]; exact fits_drop (fits_good HG.out)))))
         ·skip
          have y5a : ((r39 : Int) == 5) = false := beq_eq_false_iff_ne.mpr y5
          have y5b : decide ((r39 : Int) = 5) = false := decide_eq_false y5
          clear y5
          go_wp2_with (first | ((with_reducible refine zqg (N := 92) rfl ?_); refine H.out.ld_row 0 rfl rfl rfl rfl Try.underlying28 rfl hs28 ?_; (try simp only [Act.put, List.setIfInBounds_toArray, List.set_cons_zero, List.set_cons_succ])) | ((with_reducible refine gate_store (t := 28) (p := 2) rfl ?_); refine H.out.st_row 2 rfl rfl (x := .tmp 2) (y := .tmp 92) rfl rfl rfl (cD ⟨some ⟨g1, 0, none⟩, c1, some ⟨p2, 0, none⟩, c2, some ⟨p3, 0, none⟩, c3, A4, c4⟩ D) rfl hs28 rfl (cD_one _ _) ?_; intro ws24 H1; clear H; have H := H1; clear H1))
          exact bodyPost_ret (results_cell_row rfl _ _ g2 28 _ (0, 0) _ rfl (H.out.box 2 rfl) Try.underlying28 rfl (by kernel_rfl)) rfl ((draws_of HWG.out H.out 3 4 1 rfl rfl rfl (by decide) (by decide) (HR.out.less (m' := m) (by omega)) (OwS.lies O.out) (fits_good HG.out)))
end Go.Proofs.Ytkgpnloghmbmlaa.Hq
namespace Go.Proofs.Ytkgpnloghmbmlaa.Hq
open Go.RowKit Go.Proofs.Ytkgpnloghmbmlaa.Print Go.Proofs.YtkgpnloghmbmlaaW.PrintWords Go.Proofs.YtkgpnloghmbmlaaW.PrintLast Go.Proofs.YtkgpnloghmbmlaaW.PrintMore Go.Proofs.Ytkgpnloghmbmlaa.Pure Go.Proofs.Ytkgpnloghmbmlaa.Hd
set_option linter.unusedVariables false
set_option linter.unusedSimpArgs false
def Boxes : List Part → Prop
 | [] => True
 | .box _ _ t :: L => t ≠ 104 ∧ Boxes L
 | .set _ _ :: _ => False
theorem Boxes.all : ∀ {L : List Part}, Boxes L → ∀ p ∈ L, ∃ g' cs' t', p = .box g' cs' t' ∧ t' ≠ 104
 | .box g cs t :: L, h, p, hp => by
  rcases List.mem_cons.1 hp with rfl | hp
  ·exact ⟨g, cs, t, rfl, h.1⟩
  ·exact Boxes.all h.2 p hp
theorem Hq.opened {base : Nat} {ws w w' : World} {L : List Part} (H : Hq base ws w L) (hb : Below w.heap.size w w') {g : Nat} {cs : Array Value} (hg : base ≤ g) (hbox : w'.heap[g]? = some (.cells cs 104 (0, 0))) (ht : ∀ p ∈ L, ∃ g' cs' t', p = .box g' cs' t' ∧ t' ≠ 104) : Hq base ws w' (.box g cs 104 :: L) := by
 have H' := H.step hb
 refine ⟨H'.bel, H'.ge, fun q hq => ?_, List.pairwise_cons.2 ⟨fun q hq k h1 h2 => ?_, H'.dis⟩⟩
 ·rcases List.mem_cons.1 hq with rfl | hq
  ·exact ⟨fun k hk => by
    obtain rfl : k = g := hk
    exact ⟨hg, blk_lt hbox⟩, hbox⟩
  ·exact H'.all q hq
 ·obtain ⟨g', cs', t', rfl, hne⟩ := ht q hq
  have h3 := (H'.all _ hq).2
  obtain rfl : k = g := h1
  obtain rfl : k = g' := h2
  have h4 : w'.heap[k]? = some (.cells cs' t' (0, 0)) := h3
  rw [hbox] at h4
  injection h4 with h4
  injection h4 with _ h4
  exact hne h4.symm
theorem Hq.drawn {base : Nat} {ws w w' : World} {L : List Part} (H : Hq base ws w L) (i : Nat) {g : Nat} {cs cs' : Array Value} (e : L[i]? = some (.box g cs 104)) (hbox : w'.heap[g]? = some (.cells cs' 104 (0, 0))) (hb : Below base w w') (hk : ∀ k, k < w.heap.size → k ≠ g → w'.heap[k]? = w.heap[k]?) : Hq base ws w' (.set (fun k => w.heap.size ≤ k ∧ k < w'.heap.size) w' :: L.set i (.box g cs' 104)) := by
 have H1 := H.put_box i e hbox hb hk
 refine ⟨H1.bel, H1.ge, fun q hq => ?_, List.pairwise_cons.2 ⟨fun q hq k h1 h2 => ?_, H1.dis⟩⟩
 ·rcases List.mem_cons.1 hq with rfl | hq
  ·exact ⟨fun k hk => ⟨Nat.le_trans H.ge hk.1, hk.2⟩, fun _ _ => rfl⟩
  ·exact H1.all q hq
 ·have h3 : k < w.heap.size := by
   rcases List.mem_or_eq_of_mem_set hq with hq | rfl
   ·exact ((H.all q hq).1 k h2).2
   ·obtain rfl : k = g := h2
    exact blk_lt (H.box i e)
  have := h1.1
  omega
section
variable {w0 w : World} {L : List Part}
theorem open_callq (H : Hq w0.heap.size w0 w L) {A : Option Addr} {c : Nat} {l : List Int} (hC : Kd.C (Kd.int .u8) w0 A l.length l) (hc : l.length ≤ c) (hw : ∀ x ∈ l, (Lit.int .u8 x).wf = true) (ht : Boxes L) :
  Calls Try.prog 47 #[.slice A l.length c] w fun e w' => ∃ (g : Nat) (cs : Array Value) (b : List Int), e = .returned (.pointer (some ⟨g, 0, none⟩)) ∧ Rdr w0 b 400000 cs ∧ Hq w0.heap.size w0 w' (.box g cs 104 :: L) := by
 obtain ⟨b, hb, hcode⟩ := open_ev l hw
 refine (spec_l6Open.calls A c l b 0 w0 w H.bel hC hc hb).mono fun e w' hh => ?_
 obtain ⟨g, he, ⟨A', c', h1, h2, h3⟩, _, hb2⟩ := hh
 exact ⟨g, _, b, he, ⟨⟨A', c', 0, rfl, h3, by omega, by omega⟩, hcode⟩, H.opened hb2 h2 h1 ht.all⟩
theorem disk_callq {b : List Int} {g m : Nat} {cs : Array Value} (H : Hq w0.heap.size w0 w L) (i : Nat) (e : L[i]? = some (.box g cs 104)) (hr : Rdr w0 b (m + 3000) cs) :
  Calls Try.prog 75 #[.pointer (some ⟨g, 0, none⟩)] w fun e w' => ∃ (M : Mm) (D : Dd) (cs' : Array Value), e = .returned (.agg (cD M D)) ∧ FitsD D ∧ LiesS w' (fun k => w.heap.size ≤ k ∧ k < w'.heap.size) M D ∧ Rdr w0 b m cs' ∧ Hq w0.heap.size w0 w' (.set (fun k => w.heap.size ≤ k ∧ k < w'.heap.size) w' :: L.set i (.box g cs' 104)) := by
 refine (l71Disk_calls H.bel (H.box i e) (H.box_ge i e) hr).mono fun e' w' hh => ?_
 obtain ⟨M, D, cs', he, hf, hl, hr', hbox, hb, hk⟩ := hh
 exact ⟨M, D, cs', he, hf, fun w'' h => hl w'' fun k h1 h2 => h k ⟨h1, h2⟩, hr', H.drawn i e hbox hb hk⟩
end
def GivesS (w : World) (e : Ending) (w' : World) : Prop := ∃ (M : Mm) (D : Dd) (a b c : Int), e = .returned (.tuple #[.agg (cD M D), .int .i64 a, .int .i64 b, .int .i64 c]) ∧ FitsD D ∧ Rd w' M D ∧ Below w.heap.size w w'
set_option maxHeartbeats 8000000 in
set_option maxRecDepth 100000 in
theorem drawSpoil_call (w : World) {A : Option Addr} {c : Nat} {l : List Int} (hC : Kd.C (Kd.int .u8) w A l.length l) (hc : l.length ≤ c) (hw : ∀ x ∈ l, (Lit.int .u8 x).wf = true) : Calls Try.prog 41 #[.slice A l.length c] w (GivesS w) := by
 have hs28 := sizeE28
 have hs54 := sizeE54
 have HC := Az.mk hC
 have HB := Az.mk (Below.refl w.heap.size w)
 have H := Az.mk (Hq.start w)
 have tk0 : True := trivial
 clear hC
 go_enter Try.func41, Try.ntmps41
 go_wp2_with (first | ((with_reducible refine zqg (N := 2) rfl ?_); refine H.out.bx rfl (#[.int .i64 0, .slice none 0 0, .slice none 0 0, .slice none 0 0, .slice none 0 0]) 28 ?hr ?_; (case hr => first | (go_simp; done) | (go_simp; rfl)); intro g2 w2 H1; clear H; have H := H1; clear H1; (try simp only [Act.put, List.setIfInBounds_toArray, List.set_cons_zero, List.set_cons_succ])) | (go_at_call 47; refine (open_callq H.out HC.out hc hw (by simp [Boxes])).mono ?_; rintro e w9 ⟨g, cg, b, rfl, hrd, h1⟩; have HR := Az.mk hrd; have H1 := Az.mk h1; clear hrd h1; clear H; have H := H1; clear H1) | (go_at_call 75; refine (disk_callq (m := 0 + 397000) H.out 0 rfl (HR.out.less (by omega))).mono ?_; rintro e w11 ⟨M11, D11, c11, rfl, hf, hl, hrd, h1⟩; have HF := Az.mk hf; have HL := Az.mk hl; have HR1 := Az.mk hrd; have H1 := Az.mk h1; clear hf hl hrd h1; clear H HR; have H := H1; have HR := HR1; clear H1 HR1) | ((with_reducible refine zqg (N := 7) rfl ?_); refine H.out.bx rfl (#[.int .i64 0, .slice none 0 0, .slice none 0 0, .slice none 0 0, .slice none 0 0]) 28 ?hr ?_; (case hr => first | (go_simp; done) | (go_simp; rfl)); intro g7 w7 H1; clear H; have H := H1; clear H1; (try simp only [Act.put, List.setIfInBounds_toArray, List.set_cons_zero, List.set_cons_succ])) | ((with_reducible refine gate_store (t := 28) (p := 7) rfl ?_); refine H.out.st_row 0 rfl rfl (x := .tmp 7) (y := .tmp 11) rfl rfl rfl (cD M11 D11) rfl hs28 rfl (cD_one _ _) ?_; intro ws1 H1; clear H; have H := H1; clear H1))
 refine start_ (n := 25) (S := fun w' => Hq w.heap.size w w' [.box g7 (cD M11 D11) 28]) (ds := []) #[false, false, false, false, false, false, false, false, false, false, false, false, false, false, false, false, false, false, false, false, false, false, false, false, false] (by kernel_rfl) rfl rfl (H.out.drew.sel [0] _ (by decide) rfl) (fun hHeld => ?_)
 have H1 := Az.mk H.out.drew
 clear H; have H := H1; clear H1
 generalize World.drew _ = wd3 at hHeld H ⊢
 refine zqt (i := 0) (N := some 12) (v := .agg (cD M11 D11)) (a' := ?_) #[true, false, false, false, false, false, false, false, false, false, false, false, false, false, false, false, false, false, false, false, false, false, false, false, false] rfl rfl (by kernel_rfl) (fun _ _ _ h => h) (Or.inl ⟨by rfl, fun w' s0 => s0.run_row 0 rfl rfl rfl Try.underlying28 rfl hs28⟩) hHeld ?_ ?_
 rotate_left
 ·simp only [Act.put, List.setIfInBounds_toArray, List.set_cons_zero, List.set_cons_succ, i64_w, i32_w]
  rfl
 refine zqp (i := 1) (N := some 13) (v := ?_) (a' := ?_) #[true, true, false, false, false, false, false, false, false, false, false, false, false, false, false, false, false, false, false, false, false, false, false, false, false] rfl rfl (by kernel_rfl) (fun _ _ _ h => h) (Or.inl ⟨by rfl, ?_⟩) ?_ ?_
 rotate_left
 ·intro w'
  go_simp
  with_reducible rfl
 rotate_left
 ·simp only [Act.put, List.setIfInBounds_toArray, List.set_cons_zero, List.set_cons_succ, i64_w, i32_w]
  rfl
 refine zqp (i := 3) (N := some 15) (v := ?_) (a' := ?_) #[true, true, false, true, false, false, false, false, false, false, false, false, false, false, false, false, false, false, false, false, false, false, false, false, false] rfl rfl (by kernel_rfl) (fun _ _ _ h => h) (Or.inl ⟨by rfl, ?_⟩) ?_ ?_
 rotate_left
 ·intro w'
  go_simp
  with_reducible rfl
 rotate_left
 ·simp only [Act.put, List.setIfInBounds_toArray, List.set_cons_zero, List.set_cons_succ, i64_w, i32_w]
  rfl
 refine zqp (i := 7) (N := some 19) (v := ?_) (a' := ?_) #[true, true, false, true, false, false, false, true, false, false, false, false, false, false, false, false, false, false, false, false, false, false, false, false, false] rfl rfl (by kernel_rfl) (fun _ _ _ h => h) (Or.inl ⟨by rfl, ?_⟩) ?_ ?_
 rotate_left
 ·intro w'
  go_simp
  with_reducible rfl
 rotate_left
 ·simp only [Act.put, List.setIfInBounds_toArray, List.set_cons_zero, List.set_cons_succ, i64_w, i32_w]
  rfl
 refine zqp (i := 9) (N := some 21) (v := ?_) (a' := ?_) #[true, true, false, true, false, false, false, true, false, true, false, false, false, false, false, false, false, false, false, false, false, false, false, false, false] rfl rfl (by kernel_rfl) (fun _ _ _ h => h) (Or.inl ⟨by rfl, ?_⟩) ?_ ?_
 rotate_left
 ·intro w'
  go_simp
  with_reducible rfl
 rotate_left
 ·simp only [Act.put, List.setIfInBounds_toArray, List.set_cons_zero, List.set_cons_succ, i64_w, i32_w]
  rfl
 refine zqp (i := 13) (N := some 25) (v := ?_) (a' := ?_) #[true, true, false, true, false, false, false, true, false, true, false, false, false, true, false, false, false, false, false, false, false, false, false, false, false] rfl rfl (by kernel_rfl) (fun _ _ _ h => h) (Or.inl ⟨by rfl, ?_⟩) ?_ ?_
 rotate_left
 ·intro w'
  go_simp
  with_reducible rfl
 rotate_left
 ·simp only [Act.put, List.setIfInBounds_toArray, List.set_cons_zero, List.set_cons_succ, i64_w, i32_w]
  rfl
 refine zqp (i := 16) (N := some 28) (v := ?_) (a' := ?_) #[true, true, false, true, false, false, false, true, false, true, false, false, false, true, false, false, true, false, false, false, false, false, false, false, false] rfl rfl (by kernel_rfl) (fun _ _ _ h => h) (Or.inl ⟨by rfl, ?_⟩) ?_ ?_
 rotate_left
 ·intro w'
  go_simp
  with_reducible rfl
 rotate_left
 ·simp only [Act.put, List.setIfInBounds_toArray, List.set_cons_zero, List.set_cons_succ, i64_w, i32_w]
  rfl
 refine one_ (i := 2) (N := some 14) #[true, true, true, true, false, false, false, true, false, true, false, false, false, true, false, false, true, false, false, false, false, false, false, false, false] rfl rfl (by kernel_rfl) (by decide) (fun K hK => ?_)
 refine goes_ Try.func48 (by kernel_rfl) rfl #[.pointer (some ⟨g, 0, none⟩), .int .i64 12] (by rfl) rfl rfl (by (try simp only [List.map_toArray, List.map_cons, List.map_nil]); first | done | rfl) ?_
 refine (pick_callq (m := 0 + 396999) HB.out H.out 2 rfl (HR.out.less (by omega)) 12 (by omega)).mono ?_
 rintro e w14 ⟨r14, c14, rfl, hr14, hrd, h1⟩
 refine ⟨_, rfl, ?_⟩
 have HR1 := Az.mk hrd
 have H1 := Az.mk h1
 have hz14 := eq_true (Int.natCast_nonneg r14)
 clear hrd h1
 clear H HR; have H := H1; have HR := HR1; clear H1 HR1
 refine hK.out _ _ (H.out.sel [0] _ (by decide) rfl) (fun hHeld => ?_)
 clear hK K
 refine norm_ (a' := ?_) ?_ ?_
 rotate_left
 ·show Act.put _ (some 14) _ = _
  simp only [Act.put, List.setIfInBounds_toArray, List.set_cons_zero, List.set_cons_succ, i64_w, i32_w]
  rfl
 refine one_ (i := 4) (N := some 16) #[true, true, true, true, true, false, false, true, false, true, false, false, false, true, false, false, true, false, false, false, false, false, false, false, false] rfl rfl (by kernel_rfl) (by decide) (fun K hK => ?_)
 refine goes_ Try.func48 (by kernel_rfl) rfl #[.pointer (some ⟨g, 0, none⟩), .int .i64 24] (by rfl) rfl rfl (by (try simp only [List.map_toArray, List.map_cons, List.map_nil]); first | done | rfl) ?_
 refine (pick_callq (m := 0 + 396998) HB.out H.out 2 rfl (HR.out.less (by omega)) 24 (by omega)).mono ?_
 rintro e w16 ⟨r16, c16, rfl, hr16, hrd, h1⟩
 refine ⟨_, rfl, ?_⟩
 have HR1 := Az.mk hrd
 have H1 := Az.mk h1
 have hz16 := eq_true (Int.natCast_nonneg r16)
 clear hrd h1
 clear H HR; have H := H1; have HR := HR1; clear H1 HR1
 refine hK.out _ _ (H.out.sel [0] _ (by decide) rfl) (fun hHeld => ?_)
 clear hK K
 refine norm_ (a' := ?_) ?_ ?_
 rotate_left
 ·show Act.put _ (some 16) _ = _
  simp only [Act.put, List.setIfInBounds_toArray, List.set_cons_zero, List.set_cons_succ, i64_w, i32_w]
  rfl
 refine zqp (i := 5) (N := some 17) (v := ?_) (a' := ?_) #[true, true, true, true, true, true, false, true, false, true, false, false, false, true, false, false, true, false, false, false, false, false, false, false, false] rfl rfl (by kernel_rfl) (fun _ _ _ h => h) (Or.inl ⟨by rfl, ?_⟩) ?_ ?_
 rotate_left
 ·intro w'
  go_simp
  with_reducible rfl
 rotate_left
 ·simp only [Act.put, List.setIfInBounds_toArray, List.set_cons_zero, List.set_cons_succ, i64_w, i32_w]
  rfl
 refine zqp (i := 6) (N := some 18) (v := ?_) (a' := ?_) #[true, true, true, true, true, true, true, true, false, true, false, false, false, true, false, false, true, false, false, false, false, false, false, false, false] rfl rfl (by kernel_rfl) (fun _ _ _ h => h) (Or.inl ⟨by rfl, ?_⟩) ?_ ?_
 rotate_left
 ·intro w'
  go_simp
  with_reducible rfl
 rotate_left
 ·simp only [Act.put, List.setIfInBounds_toArray, List.set_cons_zero, List.set_cons_succ, i64_w, i32_w]
  rfl
 refine one_ (i := 8) (N := some 20) #[true, true, true, true, true, true, true, true, true, true, false, false, false, true, false, false, true, false, false, false, false, false, false, false, false] rfl rfl (by kernel_rfl) (by decide) (fun K hK => ?_)
 refine goes_ Try.func48 (by kernel_rfl) rfl #[.pointer (some ⟨g, 0, none⟩), .int .i64 3] (by rfl) rfl rfl (by (try simp only [List.map_toArray, List.map_cons, List.map_nil]); first | done | rfl) ?_
 refine (pick_callq (m := 0 + 396997) HB.out H.out 2 rfl (HR.out.less (by omega)) 3 (by omega)).mono ?_
 rintro e w20 ⟨r20, c20, rfl, hr20, hrd, h1⟩
 refine ⟨_, rfl, ?_⟩
 have HR1 := Az.mk hrd
 have H1 := Az.mk h1
 have hz20 := eq_true (Int.natCast_nonneg r20)
 clear hrd h1
 clear H HR; have H := H1; have HR := HR1; clear H1 HR1
 refine hK.out _ _ (H.out.sel [0] _ (by decide) rfl) (fun hHeld => ?_)
 clear hK K
 refine norm_ (a' := ?_) ?_ ?_
 rotate_left
 ·show Act.put _ (some 20) _ = _
  simp only [Act.put, List.setIfInBounds_toArray, List.set_cons_zero, List.set_cons_succ, i64_w, i32_w]
  rfl
 refine one_ (i := 10) (N := some 22) #[true, true, true, true, true, true, true, true, true, true, true, false, false, true, false, false, true, false, false, false, false, false, false, false, false] rfl rfl (by kernel_rfl) (by decide) (fun K hK => ?_)
 refine goes_ Try.func48 (by kernel_rfl) rfl #[.pointer (some ⟨g, 0, none⟩), .int .i64 24] (by rfl) rfl rfl (by (try simp only [List.map_toArray, List.map_cons, List.map_nil]); first | done | rfl) ?_
 refine (pick_callq (m := 0 + 396996) HB.out H.out 2 rfl (HR.out.less (by omega)) 24 (by omega)).mono ?_
 rintro e w22 ⟨r22, c22, rfl, hr22, hrd, h1⟩
 refine ⟨_, rfl, ?_⟩
 have HR1 := Az.mk hrd
 have H1 := Az.mk h1
 have hz22 := eq_true (Int.natCast_nonneg r22)
 clear hrd h1
 clear H HR; have H := H1; have HR := HR1; clear H1 HR1
 refine hK.out _ _ (H.out.sel [0] _ (by decide) rfl) (fun hHeld => ?_)
 clear hK K
 refine norm_ (a' := ?_) ?_ ?_
 rotate_left
 ·show Act.put _ (some 22) _ = _
  simp only [Act.put, List.setIfInBounds_toArray, List.set_cons_zero, List.set_cons_succ, i64_w, i32_w]
  rfl
 refine zqp (i := 11) (N := some 23) (v := ?_) (a' := ?_) #[true, true, true, true, true, true, true, true, true, true, true, true, false, true, false, false, true, false, false, false, false, false, false, false, false] rfl rfl (by kernel_rfl) (fun _ _ _ h => h) (Or.inl ⟨by rfl, ?_⟩) ?_ ?_
 rotate_left
 ·intro w'
  go_simp
  with_reducible rfl
 rotate_left
 ·simp only [Act.put, List.setIfInBounds_toArray, List.set_cons_zero, List.set_cons_succ, i64_w, i32_w]
  rfl
 refine zqp (i := 12) (N := some 24) (v := ?_) (a' := ?_) #[true, true, true, true, true, true, true, true, true, true, true, true, true, true, false, false, true, false, false, false, false, false, false, false, false] rfl rfl (by kernel_rfl) (fun _ _ _ h => h) (Or.inl ⟨by rfl, ?_⟩) ?_ ?_
 rotate_left
 ·intro w'
  go_simp
  with_reducible rfl
 rotate_left
 ·simp only [Act.put, List.setIfInBounds_toArray, List.set_cons_zero, List.set_cons_succ, i64_w, i32_w]
  rfl
 refine one_ (i := 14) (N := some 26) #[true, true, true, true, true, true, true, true, true, true, true, true, true, true, true, false, true, false, false, false, false, false, false, false, false] rfl rfl (by kernel_rfl) (by decide) (fun K hK => ?_)
 refine goes_ Try.func48 (by kernel_rfl) rfl #[.pointer (some ⟨g, 0, none⟩), .int .i64 255] (by rfl) rfl rfl (by (try simp only [List.map_toArray, List.map_cons, List.map_nil]); first | done | rfl) ?_
 refine (pick_callq (m := 0 + 396995) HB.out H.out 2 rfl (HR.out.less (by omega)) 255 (by omega)).mono ?_
 rintro e w26 ⟨r26, c26, rfl, hr26, hrd, h1⟩
 refine ⟨_, rfl, ?_⟩
 have HR1 := Az.mk hrd
 have H1 := Az.mk h1
 have hz26 := eq_true (Int.natCast_nonneg r26)
 clear hrd h1
 clear H HR; have H := H1; have HR := HR1; clear H1 HR1
 refine hK.out _ _ (H.out.sel [0] _ (by decide) rfl) (fun hHeld => ?_)
 clear hK K
 refine norm_ (a' := ?_) ?_ ?_
 rotate_left
 ·show Act.put _ (some 26) _ = _
  simp only [Act.put, List.setIfInBounds_toArray, List.set_cons_zero, List.set_cons_succ, i64_w, i32_w]
  rfl
 refine zqp (i := 15) (N := some 27) (v := ?_) (a' := ?_) #[true, true, true, true, true, true, true, true, true, true, true, true, true, true, true, true, true, false, false, false, false, false, false, false, false] rfl rfl (by kernel_rfl) (fun _ _ _ h => h) (Or.inl ⟨by rfl, ?_⟩) ?_ ?_
 rotate_left
 ·intro w'
  go_simp
  with_reducible rfl
 rotate_left
 ·simp only [Act.put, List.setIfInBounds_toArray, List.set_cons_zero, List.set_cons_succ, i64_w, i32_w]
  rfl
 refine one_ (i := 17) (N := some 29) #[true, true, true, true, true, true, true, true, true, true, true, true, true, true, true, true, true, true, false, false, false, false, false, false, false] rfl rfl (by kernel_rfl) (by decide) (fun K hK => ?_)
 refine goes_ Try.func48 (by kernel_rfl) rfl #[.pointer (some ⟨g, 0, none⟩), .int .i64 24] (by rfl) rfl rfl (by (try simp only [List.map_toArray, List.map_cons, List.map_nil]); first | done | rfl) ?_
 refine (pick_callq (m := 0 + 396994) HB.out H.out 2 rfl (HR.out.less (by omega)) 24 (by omega)).mono ?_
 rintro e w29 ⟨r29, c29, rfl, hr29, hrd, h1⟩
 refine ⟨_, rfl, ?_⟩
 have HR1 := Az.mk hrd
 have H1 := Az.mk h1
 have hz29 := eq_true (Int.natCast_nonneg r29)
 clear hrd h1
 clear H HR; have H := H1; have HR := HR1; clear H1 HR1
 refine hK.out _ _ (H.out.sel [0] _ (by decide) rfl) (fun hHeld => ?_)
 clear hK K
 refine norm_ (a' := ?_) ?_ ?_
 rotate_left
 ·show Act.put _ (some 29) _ = _
  simp only [Act.put, List.setIfInBounds_toArray, List.set_cons_zero, List.set_cons_succ, i64_w, i32_w]
  rfl
 refine zqp (i := 18) (N := some 30) (v := ?_) (a' := ?_) #[true, true, true, true, true, true, true, true, true, true, true, true, true, true, true, true, true, true, true, false, false, false, false, false, false] rfl rfl (by kernel_rfl) (fun _ _ _ h => h) (Or.inl ⟨by rfl, ?_⟩) ?_ ?_
 rotate_left
 ·intro w'
  go_simp
  with_reducible rfl
 rotate_left
 ·simp only [Act.put, List.setIfInBounds_toArray, List.set_cons_zero, List.set_cons_succ, i64_w, i32_w]
  rfl
 refine zqp (i := 19) (N := some 31) (v := ?_) (a' := ?_) #[true, true, true, true, true, true, true, true, true, true, true, true, true, true, true, true, true, true, true, true, false, false, false, false, false] rfl rfl (by kernel_rfl) (fun _ _ _ h => h) (Or.inl ⟨by rfl, ?_⟩) ?_ ?_
 rotate_left
 ·intro w'
  go_simp
  with_reducible rfl
 rotate_left
 ·simp only [Act.put, List.setIfInBounds_toArray, List.set_cons_zero, List.set_cons_succ, i64_w, i32_w]
  rfl
 refine zqp (i := 20) (N := some 32) (v := ?_) (a' := ?_) #[true, true, true, true, true, true, true, true, true, true, true, true, true, true, true, true, true, true, true, true, true, false, false, false, false] rfl rfl (by kernel_rfl) (fun _ _ _ h => h) (Or.inl ⟨by rfl, ?_⟩) ?_ ?_
 rotate_left
 ·intro w'
  go_simp
  with_reducible rfl
 rotate_left
 ·simp only [Act.put, List.setIfInBounds_toArray, List.set_cons_zero, List.set_cons_succ, i64_w, i32_w]
  rfl
 refine one_ (i := 21) (N := none) #[true, true, true, true, true, true, true, true, true, true, true, true, true, true, true, true, true, true, true, true, true, true, false, false, false] rfl rfl (by kernel_rfl) (by decide) (fun K hK => ?_)
 refine H.out.last_row 3 rfl (by rfl) (x := .tmp 2) (y := .tmp 12) rfl rfl rfl (cD M11 D11) rfl hs28 rfl (cD_one _ _) ?_
 intro ws3 H1
 clear H; have H := H1; clear H1
 refine hK.out _ _ (H.out.sel [0] _ (by decide) rfl) (fun hHeld => ?_)
 clear hK K
 refine norm_ (a' := ?_) ?_ ?_
 rotate_left
 ·rfl
 refine zqp (i := 22) (N := some 3) (v := ?_) (a' := ?_) #[true, true, true, true, true, true, true, true, true, true, true, true, true, true, true, true, true, true, true, true, true, true, true, false, false] rfl rfl (by kernel_rfl) (fun _ _ _ h => h) (Or.inl ⟨by rfl, ?_⟩) ?_ ?_
 rotate_left
 ·intro w'
  go_simp
  with_reducible rfl
 rotate_left
 ·simp only [Act.put, List.setIfInBounds_toArray, List.set_cons_zero, List.set_cons_succ, i64_w, i32_w]
  rfl
 refine zqp (i := 23) (N := some 4) (v := ?_) (a' := ?_) #[true, true, true, true, true, true, true, true, true, true, true, true, true, true, true, true, true, true, true, true, true, true, true, true, false] rfl rfl (by kernel_rfl) (fun _ _ _ h => h) (Or.inl ⟨by rfl, ?_⟩) ?_ ?_
 rotate_left
 ·intro w'
  go_simp
  with_reducible rfl
 rotate_left
 ·simp only [Act.put, List.setIfInBounds_toArray, List.set_cons_zero, List.set_cons_succ, i64_w, i32_w]
  rfl
 refine zqp (i := 24) (N := some 5) (v := ?_) (a' := ?_) #[true, true, true, true, true, true, true, true, true, true, true, true, true, true, true, true, true, true, true, true, true, true, true, true, true] rfl rfl (by kernel_rfl) (fun _ _ _ h => h) (Or.inl ⟨by rfl, ?_⟩) ?_ ?_
 rotate_left
 ·intro w'
  go_simp
  with_reducible rfl
 rotate_left
 ·simp only [Act.put, List.setIfInBounds_toArray, List.set_cons_zero, List.set_cons_succ, i64_w, i32_w]
  rfl
 refine done_ (by kernel_rfl) ?_
 go_wp2
 exact bodyPost_ret (results_list (rs := [.cell 2 28, .tmp 3, .tmp 4, .tmp 5]) rfl (by simp) (.cell g2 28 (cD M11 D11) (0, 0) _ rfl (H.out.box 3 rfl) Try.underlying28 rfl (by kernel_rfl) (.tmp (.tmp (.tmp .nil))))) rfl ⟨M11, D11, _, _, _, rfl, HF.out, HL.out _ (fun k hk => H.out.same 1 rfl k hk), H.out.bel⟩
end Go.Proofs.Ytkgpnloghmbmlaa.Hq
namespace Go.Proofs.Ytkgpnloghmbmlaa.Hq
open Go.RowKit Go.Proofs.Ytkgpnloghmbmlaa.Print Go.Proofs.YtkgpnloghmbmlaaW.PrintWords Go.Proofs.YtkgpnloghmbmlaaW.PrintLast Go.Proofs.YtkgpnloghmbmlaaW.PrintMore Go.Proofs.Ytkgpnloghmbmlaa.Pure Go.Proofs.Ytkgpnloghmbmlaa.Hd
set_option linter.unusedVariables false
theorem lies_of {w : World} {lo hi : Nat} {M : Mm} {D : Dd} (h : Own w lo hi M D) : LiesS w (fun k => lo ≤ k ∧ k < hi) M D := fun w' hk => (h.move fun k h1 h2 => hk k ⟨h1, h2⟩).rd
theorem gives_as {P : Program} {f : FuncId} {a : Array Value} {w : World} {D D' : Dd} (e : D = D') (h : Calls P f a w (Gives D w)) : Calls P f a w (Gives D' w) := e ▸ h
theorem lpaDisk_call {w : World} {M M' : Mm} {D : Dd} (hf : FitsD D) (h : Rd w M D) (h' : Rd w M' D) : Calls Try.prog 18 #[.agg (cD M D), .agg (cD M' D)] w fun e w' => e = .returned (.bool true) ∧ Below w.heap.size w w' := by
  obtain ⟨K, hK⟩ := lpaDisk_ev D.st D.l1 D.l2 D.l3 D.l4 hf
  exact laws_lpaDisk.calls (hr0_1 := h.r1) (hc0_1 := h.h1) (hr0_2 := h.r2) (hc0_2 := h.h2) (hr0_3 := h.r3) (hc0_3 := h.h3) (hr0_4 := h.r4) (hc0_4 := h.h4) (hr1_1 := h'.r1) (hc1_1 := h'.h1) (hr1_2 := h'.r2) (hc1_2 := h'.h2) (hr1_3 := h'.r3) (hc1_3 := h'.h3) (hr1_4 := h'.r4) (hc1_4 := h'.h4) (h := hK K (Nat.le_refl _))
theorem ok_call {w : World} {M : Mm} {D : Dd} (h : Rd w M D) (hg : GoodD D) : Calls Try.prog 21 #[.agg (cD M D)] w fun e w' => e = .returned (.bool true) ∧ Below w.heap.size w w' :=
  impl_DiskOk.calls (hr0_1 := h.r1) (hc0_1 := h.h1) (hr0_2 := h.r2) (hc0_2 := h.h2) (hr0_3 := h.r3) (hc0_3 := h.h3) (hr0_4 := h.r4) (hc0_4 := h.h4) (h := by
    have hg' : Print.Good D.st D.l1 D.l2 D.l3 D.l4 := hg
    unfold impl_DiskOk.f goodB
    rw [decide_eq_true hg'])
theorem flush_good {D : Dd} (h : GoodD D) : flushD D = comeD D := if_pos h
theorem put_good {D : Dd} {p : S54} (h : GoodD D) (hp : putB p = true) : putD D p = laidD D p := if_pos ⟨h, hp⟩
theorem cell1 {M : Mm} {D : Dd} (h : GoodD D) : (cD M D)[1]? = some (.slice M.A1 12 M.c1) := by rw [← h.sh.2.1]; rfl
theorem cell3 {M : Mm} {D : Dd} (h : GoodD D) : (cD M D)[3]? = some (.slice M.A3 12 M.c3) := by rw [← h.sh.2.2.2.1]; rfl
end Go.Proofs.Ytkgpnloghmbmlaa.Hq
namespace Go.Proofs.Ytkgpnloghmbmlaa.Hq
open Go.RowKit Go.Proofs.Ytkgpnloghmbmlaa.Print Go.Proofs.YtkgpnloghmbmlaaW.PrintWords Go.Proofs.YtkgpnloghmbmlaaW.PrintLast Go.Proofs.YtkgpnloghmbmlaaW.PrintMore Go.Proofs.Ytkgpnloghmbmlaa.Pure Go.Proofs.Ytkgpnloghmbmlaa.Hd
set_option linter.unusedVariables false
theorem come_laid {D : Dd} {p : S54} (h1 : ¬ D.st = 1) : comeD (laidD D p) = ⟨D.st, comeSl p (comeD D).l1, comeRg p (comeD D).l2, comeSp p (comeD D).l3, []⟩ := by
  unfold laidD
  rw [if_neg h1]
  by_cases h2 : D.l4.length = 40
  · rw [if_pos h2]
    rfl
  · rw [if_neg h2]
    unfold comeD comeAll
    simp only [List.foldl_append]
    rfl
abbrev tx : ByteArray := ⟨#[116, 101, 120, 116]⟩
end Go.Proofs.Ytkgpnloghmbmlaa.Hq
namespace Go.Proofs.Ytkgpnloghmbmlaa.Print
open Go.RowKit Go.Proofs.YtkgpnloghmbmlaaW.PrintWords
def laws_lpaChanged.f (a0 : ByteArray) (a1 : Int) (a2 : Int) : Option (ByteArray) :=
  if 0 ≤ a1 ∧ a1 < (a0.size : Int) ∧ a0.size ≤ 1099511627776 then some (strOfNums ((bytesOf a0).set a1.toNat (bits .xor .u8 (bt a0 a1) a2))) else none
theorem below_bytes (w : World) (e : TypeId) (s : ByteArray) : Below w.heap.size w (Lib.bytesWorld w e s) :=
  ⟨rfl, rfl, rfl, by rw [Lib.bytesWorld_size]; omega, fun j hj => Lib.bytesWorld_at_old w e s j hj⟩
set_option maxRecDepth 100000 in
set_option maxHeartbeats 2000000 in
theorem laws_lpaChanged.calls (a0 : ByteArray) (a1 : Int) (a2 : Int) (r : ByteArray) (w : World) (h : laws_lpaChanged.f a0 a1 a2 = some r) :
    Calls Try.prog 44 #[.string a0, .int .i64 a1, .int .u8 a2] w fun e w' => e = .returned (.string r) ∧ Below w.heap.size w w' := by
  unfold laws_lpaChanged.f at h
  split at h
  · rename_i hs
    obtain ⟨h0, h1, h2⟩ := hs
    obtain ⟨k, rfl⟩ := Int.eq_ofNat_of_zero_le h0
    have hk : k < a0.size := by omega
    have hr : strOfNums ((bytesOf a0).set k (bits .xor .u8 (bt a0 (k : Int)) a2)) = r := by simpa using h
    have Hr := Lib.hid hr
    clear h hr h0 h1
    have hcv0 := Lib.run_convert_string_bytes (P := Try.prog) w 9 22 5 a0 Try.underlying9 Try.underlying22 Try.underlying5
    have hcells := fun j (hj : j < a0.size) => Lib.bytesWorld_cell w 5 a0 j hj
    have hblk := Lib.bytesWorld_at_new w 5 a0
    have hbel : Below w.heap.size w (Lib.bytesWorld w 5 a0) := below_bytes w 5 a0
    have hsz2 : a0.size ≤ (Lib.bytesCells w 5 a0).size := by simp [Lib.bytesCells]
    generalize Lib.bytesWorld w 5 a0 = W1 at hcv0 hcells hblk hbel
    generalize Lib.bytesCells w 5 a0 = cs at hblk hsz2
    generalize grownCap w a0.size 0 5 = c at hcv0
    have hfr : ∀ j, j < a0.size → W1.frozen? ⟨w.heap.size, j, none⟩ = false := by
      intro j hj
      simp [World.frozen?, hblk]
      omega
    have hc0 : ∀ j, j < a0.size → W1.cell? ⟨w.heap.size, j, none⟩ = some (.int .u8 (bt a0 (j : Int))) := by
      intro j hj
      rw [hcells j hj]
      simp [bt, hj, List.getD]
      rfl
    have hck := hc0 k hk
    have hfk := hfr k hk
    have hl : (bytesOf a0).length = a0.size := by simp [bytesOf]
    have hconv := run_convert_bytes_arg (P := Try.prog) (W1.setCell ⟨w.heap.size, k, none⟩ (.int .u8 (bits .xor .u8 (bt a0 (k : Int)) a2))) 22 5 Try.underlying22 Try.underlying5 w.heap.size 0 a0.size c ((bytesOf a0).set k (bits .xor .u8 (bt a0 (k : Int)) a2)) (by simp [hl])
      (fun i hi => by
        rw [Nat.zero_add]
        by_cases hik : i = k
        · subst hik
          rw [World.cell?_setCell_same' _ _ _ (by rw [hck]; rfl)]
          simp [List.getD, hl, hi]
        · rw [World.cell?_setCell_other _ _ _ _ (by simp; try omega), hc0 i hi]
          simp only [List.getD, List.getElem?_set_ne (Ne.symm hik)]
          simp [bytesOf, bt, hi]
          rfl) 9 Try.underlying9
    rw [Hr.out] at hconv
    have Hc := Lib.hid hcells
    clear hcells hc0 hfr hblk hl
    have Hb := Lib.hid hbel
    clear hbel
    go_enter Try.func44, Try.ntmps44
    go_wp2
    go_ret
    exact ⟨rfl, Hb.out.setCell (p := ⟨w.heap.size, k, none⟩) (Nat.le_refl _) _⟩
  · cases h
end Go.Proofs.Ytkgpnloghmbmlaa.Print
namespace Go.Proofs.Ytkgpnloghmbmlaa.Hq
open Go.RowKit Go.Proofs.Ytkgpnloghmbmlaa.Print Go.Proofs.YtkgpnloghmbmlaaW.PrintWords Go.Proofs.YtkgpnloghmbmlaaW.PrintLast Go.Proofs.YtkgpnloghmbmlaaW.PrintMore Go.Proofs.Ytkgpnloghmbmlaa.Pure Go.Proofs.Ytkgpnloghmbmlaa.Hd
set_option linter.unusedVariables false
theorem spoil_good {D : Dd} {a b : Nat} {c : Int} (h : GoodD D) (hs : SpoilOk a b c) : spoilS D a b c = spoilD D a b c := (if_pos ⟨h, hs⟩).trans (by simp)
theorem spoil_bad {D : Dd} {a b c : Int} (h : ¬ (GoodD D ∧ SpoilOk a b c)) : spoilS D a b c = noD := if_neg h
def hitD (D : Dd) (a b : Nat) (c : Int) : Dd := { D with l1 := D.l1.set a (turned (D.l1.getD a ByteArray.empty) b c), l3 := D.l3.set a true }
theorem spoil_kept {D : Dd} {a b : Nat} {c : Int} (h : (D.l1.getD a ByteArray.empty).size = 0 ∨ D.l3.getD a false = true) : spoilD D a b c = D := if_pos h
theorem spoil_hit {D : Dd} {a b : Nat} {c : Int} (h : ¬ ((D.l1.getD a ByteArray.empty).size = 0 ∨ D.l3.getD a false = true)) : spoilD D a b c = hitD D a b c := if_neg h
theorem good_hit {D : Dd} {a b : Nat} {c : Int} (hg : GoodD D) (ha : a < 12) (h : ¬ ((D.l1.getD a ByteArray.empty).size = 0 ∨ D.l3.getD a false = true)) : GoodD (hitD D a b c) := spoil_hit (b := b) (c := c) h ▸ good_spoil hg ha
theorem hit_at {D : Dd} {a b : Nat} {c : Int} (hg : GoodD D) (ha : a < 12) : (hitD D a b c).l1.getD a ByteArray.empty = turned (D.l1.getD a ByteArray.empty) b c ∧ (hitD D a b c).l3.getD a false = true := by
  have h1 := hg.sh.2.1
  have h3 := hg.sh.2.2.2.1
  exact ⟨by show (D.l1.set a _).getD a _ = _; rw [getD_set _ _ _ _ _ (by omega), if_pos rfl], by show (D.l3.set a true).getD a false = true; rw [getD_set _ _ _ _ _ (by omega), if_pos rfl]⟩
theorem spoil_again {D : Dd} {a b b' : Nat} {c c' : Int} (hg : GoodD D) (ha : a < 12) : spoilD (hitD D a b c) a b' c' = hitD D a b c := spoil_kept (.inr (hit_at hg ha).2)
theorem hit_live {D : Dd} {a : Nat} (hg : GoodD D) (ha : a < 12) (h : ¬ (D.l1.getD a ByteArray.empty).size = 0) : ¬ D.st = 1 := fun h1 => by
  have hr := (hg.go h1).1
  rw [List.all_eq_true] at hr
  have hl : a < D.l1.length := by rw [hg.sh.2.1]; exact ha
  have h2 := hr (D.l1.getD a ByteArray.empty) (by simp [List.getD, hl])
  exact h (by simpa using h2)
def abc : ByteArray := ⟨#[97, 98, 99]⟩
def slotP (a : Nat) : S54 := ⟨false, (a : Int), ⟨#[97, 98, 99]⟩⟩
theorem slotP_ok {a : Nat} (h : a < 12) : putB (slotP a) = true := by
  unfold putB
  rw [if_neg (show ¬ (slotP a).f0 = true from by simp [slotP])]
  exact decide_eq_true ⟨by show (0 : Int) ≤ (a : Int); omega, by show (a : Int) < 12; omega, by show abc.size = 3; decide⟩
theorem slot_mends {D : Dd} {a : Nat} (hg : GoodD D) (h1 : ¬ D.st = 1) (ha : a < 12) : (comeD (laidD D (slotP a))).l3.getD a false = false := by
  rw [come_laid h1]
  have hl : (comeD D).l3.length = 12 := (good_come hg).sh.2.2.2.1
  show (comeSp (slotP a) (comeD D).l3).getD a false = false
  have e : comeSp (slotP a) (comeD D).l3 = (comeD D).l3.set a false := by simp [comeSp, slotP]
  rw [e, getD_set _ _ _ _ _ (by omega), if_pos rfl]
theorem changed_call {w : World} {s : ByteArray} {b : Nat} {c : Int} (hb : b < s.size) (hs : s.size = 3) : Calls Try.prog 44 #[.string s, .int .i64 (b : Int), .int .u8 (c % 256)] w fun e w' => e = .returned (.string (turned s b c)) ∧ Below w.heap.size w w' := by
  refine laws_lpaChanged.calls s (b : Int) (c % 256) (turned s b c) w ?_
  unfold laws_lpaChanged.f
  rw [if_pos ⟨by omega, by omega, by omega⟩, Int.toNat_natCast]
  unfold turned
  have e : bt s (b : Int) = (bytesOf s)[b]?.getD 0 := by
    simp [bt, bytesOf, hb]
    rfl
  rw [e]
theorem slot_cell {w : World} {M : Mm} {D : Dd} (h : Rd w M D) {ad : Addr} (e : M.A1 = some ad) {i : Nat} (hi : i < D.l1.length) {s : ByteArray} (hs : D.l1.getD i ByteArray.empty = s) : w.cell? (ad.add i) = some (.string s) := by
  obtain ⟨ad', c, e1, _, hK, hc⟩ := Kd.C_get h.r1 ByteArray.empty (i : Int) (by omega) (by omega)
  rw [e] at e1
  injection e1 with e1
  subst e1
  rw [Int.toNat_natCast, hs] at hK
  have hK' : c = [.string s] := hK
  subst hK'
  have h1 := hc 0 (.string s) rfl
  rw [Int.toNat_natCast] at h1
  have e2 : i * Kd.string.sz + 0 = i := by show i * 1 + 0 = i; omega
  rw [e2] at h1
  exact h1
theorem flag_cell {w : World} {M : Mm} {D : Dd} (h : Rd w M D) {ad : Addr} (e : M.A3 = some ad) {i : Nat} (hi : i < D.l3.length) {s : Bool} (hs : D.l3.getD i false = s) : w.cell? (ad.add i) = some (.bool s) := by
  obtain ⟨ad', c, e1, _, hK, hc⟩ := Kd.C_get h.r3 false (i : Int) (by omega) (by omega)
  rw [e] at e1
  injection e1 with e1
  subst e1
  rw [Int.toNat_natCast, hs] at hK
  have hK' : c = [.bool s] := hK
  subst hK'
  have h1 := hc 0 (.bool s) rfl
  rw [Int.toNat_natCast] at h1
  have e2 : i * Kd.bool.sz + 0 = i := by show i * 1 + 0 = i; omega
  rw [e2] at h1
  exact h1
theorem at1 {w : World} {M : Mm} {D : Dd} (h : Rd w M D) (hn : 0 < D.l1.length) : ∃ ad, M.A1 = some ad := by
  obtain ⟨ad, _, e, _⟩ := Kd.C_get h.r1 ByteArray.empty 0 (by omega) (by omega)
  exact ⟨ad, e⟩
theorem at3 {w : World} {M : Mm} {D : Dd} (h : Rd w M D) (hn : 0 < D.l3.length) : ∃ ad, M.A3 = some ad := by
  obtain ⟨ad, _, e, _⟩ := Kd.C_get h.r3 false 0 (by omega) (by omega)
  exact ⟨ad, e⟩
theorem cell1a {M : Mm} {D : Dd} {A : Option Addr} (e : M.A1 = A) (h : D.l1.length = 12) : (cD M D)[1]? = some (.slice A 12 M.c1) := by
  have e1 : (cD M D)[1]? = some (.slice M.A1 D.l1.length M.c1) := rfl
  rw [e1, h, e]
theorem cell3a {M : Mm} {D : Dd} {A : Option Addr} (e : M.A3 = A) (h : D.l3.length = 12) : (cD M D)[3]? = some (.slice A 12 M.c3) := by
  have e1 : (cD M D)[3]? = some (.slice M.A3 D.l3.length M.c3) := rfl
  rw [e1, h, e]
end Go.Proofs.Ytkgpnloghmbmlaa.Hq
