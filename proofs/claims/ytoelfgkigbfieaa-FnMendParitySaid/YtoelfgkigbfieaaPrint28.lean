-- Printed by a program of this session (after the kit's printer) out of the translation; Lean checks it.
import Derived.Test.YtoelfgkigbfieaaPrint0
import Derived.Test.YtoelfgkigbfieaaPrint1
import Derived.Test.YtoelfgkigbfieaaPrint2
import Derived.Test.YtoelfgkigbfieaaPrint3
import Derived.Test.YtoelfgkigbfieaaPrint6
import Derived.Test.YtoelfgkigbfieaaPrint20
import Derived.Test.YtoelfgkigbfieaaPrint23
namespace Go.Proofs.Ytoelfgkigbfieaa.Print
open Go.RowKit Go.Proofs.YtoelfgkigbfieaaW.PrintWords Go.Proofs.YtoelfgkigbfieaaW.PrintLast Go.Proofs.YtoelfgkigbfieaaW.PrintMore
attribute [local go_sem] max2_int min2_int max_two min_two max_three min_three max_four min_four   -- for this text's walks alone
set_option linter.unusedVariables false
set_option linter.unusedSimpArgs false

/-! ### spec_DrawMendOf: function 33 -/
def spec_DrawMendOf.j0 : Nat → List ByteArray → ByteArray → Int → List Int → Int → Option (List ByteArray × ByteArray × Int)
  | 0, _, _, _, _, _ => none
  | k + 1, x6, x7, x8, x386000, x386001 => (spec_l6In.f x8 0 (wrap64 ((x6.length : Int) - 1))).bind fun t399 => (if t399 = true then ((spec_l6Rd_pick.f k x386000 x386001 2).bind fun bt400 => (if bt400.1 = 0 then ((spec_l71Text.f k x386000 bt400.2 3).bind fun bt402 => (if 0 ≤ x8 then (if x8 < (x6.length : Int) then (some ((x6.set (x8 : Int).toNat bt402.1), x7, x8)) else (none)) else (none))) else (some (x6, x7, x8)))) else (some (x6, x7, x8)))
def spec_DrawMendOf.f (k : Nat) (l0 : List Int) : Option (List ByteArray × ByteArray × Int) := (spec_l6Open.f l0).bind fun bt383 => ((spec_l71Cols.f k bt383.1 bt383.2).bind fun bt386 => ((spec_ParityOf.f k bt386.1).bind fun t390 => ((spec_l6Rd_pick.f k bt383.1 bt386.2 (wrap64 ((bt386.1.length : Int) + 1))).bind fun bt391 => ((spec_l6Rd_pick.f k bt383.1 bt391.2 12).bind fun bt393 => ((spec_l6Rd_pick.f k bt383.1 bt393.2 3).bind fun bt395 => (if bt395.1 = 0 then ((spec_l71Text.f k bt383.1 bt395.2 3).bind fun bt397 => (spec_DrawMendOf.j0 k bt386.1 bt397.1 (wrap64 (bt391.1 - (wrap64 (Int.tdiv bt393.1 11)))) bt383.1 bt397.2)) else (spec_DrawMendOf.j0 k bt386.1 t390 (wrap64 (bt391.1 - (wrap64 (Int.tdiv bt393.1 11)))) bt383.1 bt395.2)))))))
theorem spec_DrawMendOf.mono_l : ∀ k, (∀ y0 y1 y2 y3 y4, LeO (spec_DrawMendOf.j0 k y0 y1 y2 y3 y4) (spec_DrawMendOf.j0 (k + 1) y0 y1 y2 y3 y4))
  | 0 => fun _ _ _ _ _ r h => by simp [spec_DrawMendOf.j0] at h
  | k + 1 => by
    have ih0 := spec_DrawMendOf.mono_l k
    · intro y0 y1 y2 y3 y4
      unfold spec_DrawMendOf.j0
      repeat' first
      | (with_reducible exact ih0 _ _ _ _ _)
      | (with_reducible exact spec_ParityOf.mono _ _)
      | (with_reducible exact spec_l6Rd_pick.mono _ _ _ _)
      | (with_reducible exact spec_l71Cols.mono _ _ _)
      | (with_reducible exact spec_l71Text.mono _ _ _ _)
      | (with_reducible exact LeO.refl _)
      | (with_reducible exact LeO.none _)
      | (with_reducible refine LeO.ite ?_ ?_)
      | (with_reducible refine LeO.bind ?_ (fun _ => ?_))
      | exact ih0 _ _ _ _ _
      | exact spec_ParityOf.mono _ _
      | exact spec_l6Rd_pick.mono _ _ _ _
      | exact spec_l71Cols.mono _ _ _
      | exact spec_l71Text.mono _ _ _ _
      | exact LeO.none _
      | refine LeO.ite ?_ ?_
      | refine LeO.bind ?_ (fun _ => ?_)
theorem spec_DrawMendOf.mono : ∀ a0 k, LeO (spec_DrawMendOf.f k a0) (spec_DrawMendOf.f (k + 1) a0) := by
  intro a0 k
  have ih0 := spec_DrawMendOf.mono_l k
  unfold spec_DrawMendOf.f
  repeat' first
      | (with_reducible exact ih0 _ _ _ _ _)
      | (with_reducible exact spec_ParityOf.mono _ _)
      | (with_reducible exact spec_l6Rd_pick.mono _ _ _ _)
      | (with_reducible exact spec_l71Cols.mono _ _ _)
      | (with_reducible exact spec_l71Text.mono _ _ _ _)
      | (with_reducible exact LeO.refl _)
      | (with_reducible exact LeO.none _)
      | (with_reducible refine LeO.ite ?_ ?_)
      | (with_reducible refine LeO.bind ?_ (fun _ => ?_))
      | exact ih0 _ _ _ _ _
      | exact spec_ParityOf.mono _ _
      | exact spec_l6Rd_pick.mono _ _ _ _
      | exact spec_l71Cols.mono _ _ _
      | exact spec_l71Text.mono _ _ _ _
      | exact LeO.none _
      | refine LeO.ite ?_ ?_
      | refine LeO.bind ?_ (fun _ => ?_)
set_option maxHeartbeats 8000000 in
set_option maxRecDepth 100000 in
theorem spec_DrawMendOf.calls (k : Nat) (A0 : Option Addr) (c0 : Nat) (l0 : List Int) (r1 : List ByteArray) (r2 : ByteArray) (r3 : Int) (w : World) (hr0 : Kd.C (Kd.int .u8) w A0 l0.length l0) (hc0 : l0.length ≤ c0) (h : spec_DrawMendOf.f k l0 = some (r1, r2, r3)) :
    Calls Try.prog 33 #[.slice A0 l0.length c0] w fun e w' => ∃ v0_ : Value, e = .returned (.tuple #[v0_, .string r2, .int .i64 r3]) ∧ Kd.R Kd.string 9 w' w.heap.size (fun _ => True) v0_ r1 ∧ Below w.heap.size w w' := by
  have HR0 := Aside0.mk hr0
  have HC0 := Aside0.mk hc0
  clear hr0 hc0
  have HB := Aside0.mk (Below.refl w.heap.size w)
  have H : ((spec_l6Open.f l0).bind fun bt383 => ((spec_l71Cols.f k bt383.1 bt383.2).bind fun bt386 => ((spec_ParityOf.f k bt386.1).bind fun t390 => ((spec_l6Rd_pick.f k bt383.1 bt386.2 (wrap64 ((bt386.1.length : Int) + 1))).bind fun bt391 => ((spec_l6Rd_pick.f k bt383.1 bt391.2 12).bind fun bt393 => ((spec_l6Rd_pick.f k bt383.1 bt393.2 3).bind fun bt395 => (if bt395.1 = 0 then ((spec_l71Text.f k bt383.1 bt395.2 3).bind fun bt397 => (spec_DrawMendOf.j0 k bt386.1 bt397.1 (wrap64 (bt391.1 - (wrap64 (Int.tdiv bt393.1 11)))) bt383.1 bt397.2)) else (spec_DrawMendOf.j0 k bt386.1 t390 (wrap64 (bt391.1 - (wrap64 (Int.tdiv bt393.1 11)))) bt383.1 bt395.2)))))))) = some (r1, r2, r3) := h
  clear h
  replace H := Option.bind_eq_some_iff.mp H
  obtain ⟨⟨t383, t384⟩, A20, H⟩ := H
  replace H : ((spec_l71Cols.f k t383 t384).bind fun bt386 => ((spec_ParityOf.f k bt386.1).bind fun t390 => ((spec_l6Rd_pick.f k t383 bt386.2 (wrap64 ((bt386.1.length : Int) + 1))).bind fun bt391 => ((spec_l6Rd_pick.f k t383 bt391.2 12).bind fun bt393 => ((spec_l6Rd_pick.f k t383 bt393.2 3).bind fun bt395 => (if bt395.1 = 0 then ((spec_l71Text.f k t383 bt395.2 3).bind fun bt397 => (spec_DrawMendOf.j0 k bt386.1 bt397.1 (wrap64 (bt391.1 - (wrap64 (Int.tdiv bt393.1 11)))) t383 bt397.2)) else (spec_DrawMendOf.j0 k bt386.1 t390 (wrap64 (bt391.1 - (wrap64 (Int.tdiv bt393.1 11)))) t383 bt395.2))))))) = some (r1, r2, r3) := H
  have A2 := Aside0.mk A20
  clear A20
  replace H := Option.bind_eq_some_iff.mp H
  obtain ⟨⟨t386, t389⟩, A30, H⟩ := H
  replace H : ((spec_ParityOf.f k t386).bind fun t390 => ((spec_l6Rd_pick.f k t383 t389 (wrap64 ((t386.length : Int) + 1))).bind fun bt391 => ((spec_l6Rd_pick.f k t383 bt391.2 12).bind fun bt393 => ((spec_l6Rd_pick.f k t383 bt393.2 3).bind fun bt395 => (if bt395.1 = 0 then ((spec_l71Text.f k t383 bt395.2 3).bind fun bt397 => (spec_DrawMendOf.j0 k t386 bt397.1 (wrap64 (bt391.1 - (wrap64 (Int.tdiv bt393.1 11)))) t383 bt397.2)) else (spec_DrawMendOf.j0 k t386 t390 (wrap64 (bt391.1 - (wrap64 (Int.tdiv bt393.1 11)))) t383 bt395.2)))))) = some (r1, r2, r3) := H
  have A3 := Aside0.mk A30
  clear A30
  replace H := Option.bind_eq_some_iff.mp H
  obtain ⟨t390, A40, H⟩ := H
  replace H : ((spec_l6Rd_pick.f k t383 t389 (wrap64 ((t386.length : Int) + 1))).bind fun bt391 => ((spec_l6Rd_pick.f k t383 bt391.2 12).bind fun bt393 => ((spec_l6Rd_pick.f k t383 bt393.2 3).bind fun bt395 => (if bt395.1 = 0 then ((spec_l71Text.f k t383 bt395.2 3).bind fun bt397 => (spec_DrawMendOf.j0 k t386 bt397.1 (wrap64 (bt391.1 - (wrap64 (Int.tdiv bt393.1 11)))) t383 bt397.2)) else (spec_DrawMendOf.j0 k t386 t390 (wrap64 (bt391.1 - (wrap64 (Int.tdiv bt393.1 11)))) t383 bt395.2))))) = some (r1, r2, r3) := H
  have A4 := Aside0.mk A40
  clear A40
  replace H := Option.bind_eq_some_iff.mp H
  obtain ⟨⟨t391, t392⟩, A50, H⟩ := H
  replace H : ((spec_l6Rd_pick.f k t383 t392 12).bind fun bt393 => ((spec_l6Rd_pick.f k t383 bt393.2 3).bind fun bt395 => (if bt395.1 = 0 then ((spec_l71Text.f k t383 bt395.2 3).bind fun bt397 => (spec_DrawMendOf.j0 k t386 bt397.1 (wrap64 (t391 - (wrap64 (Int.tdiv bt393.1 11)))) t383 bt397.2)) else (spec_DrawMendOf.j0 k t386 t390 (wrap64 (t391 - (wrap64 (Int.tdiv bt393.1 11)))) t383 bt395.2)))) = some (r1, r2, r3) := H
  have A5 := Aside0.mk A50
  clear A50
  replace H := Option.bind_eq_some_iff.mp H
  obtain ⟨⟨t393, t394⟩, A60, H⟩ := H
  replace H : ((spec_l6Rd_pick.f k t383 t394 3).bind fun bt395 => (if bt395.1 = 0 then ((spec_l71Text.f k t383 bt395.2 3).bind fun bt397 => (spec_DrawMendOf.j0 k t386 bt397.1 (wrap64 (t391 - (wrap64 (Int.tdiv t393 11)))) t383 bt397.2)) else (spec_DrawMendOf.j0 k t386 t390 (wrap64 (t391 - (wrap64 (Int.tdiv t393 11)))) t383 bt395.2))) = some (r1, r2, r3) := H
  have A6 := Aside0.mk A60
  clear A60
  replace H := Option.bind_eq_some_iff.mp H
  obtain ⟨⟨t395, t396⟩, A70, H⟩ := H
  replace H : (if t395 = 0 then ((spec_l71Text.f k t383 t396 3).bind fun bt397 => (spec_DrawMendOf.j0 k t386 bt397.1 (wrap64 (t391 - (wrap64 (Int.tdiv t393 11)))) t383 bt397.2)) else (spec_DrawMendOf.j0 k t386 t390 (wrap64 (t391 - (wrap64 (Int.tdiv t393 11)))) t383 t396)) = some (r1, r2, r3) := H
  have A7 := Aside0.mk A70
  clear A70
  have HC8 := Aside0.mk H
  clear H
  go_enter Try.func33, Try.ntmps33
  go_upto_if 26 with (first | ((with_reducible refine gate_callee (f := 41) rfl ?_); refine goesL_ (some 10) rfl rfl Try.func41 (by kernel_rfl) rfl #[.slice A0 l0.length c0] rfl (by (try simp only [List.map_toArray, List.map_cons, List.map_nil]); first | done | rfl | (simp only [List.length_drop, List.length_take]; rfl)) ?_; (with_reducible refine (spec_l6Open.calls _ _ l0 t383 t384 w _ ?side1 ?side2 ?side3 A2.out).mono ?_); (case side1 => repeat (first | (with_reducible first | exact HB.out | apply below_alloc | apply pw_below_drewN | apply below_drew1) | exact HB.out)); (case side2 => exact HR0.out); (case side3 => exact HC0.out); rintro e w9 ⟨g385, rfl, hi, hb, hb2⟩; refine ⟨_, rfl, ?_⟩; have n0_ := Aside0.mk (hb); have n1_ := Aside0.mk (hi); clear HB; have HB := n0_; have HI385 := n1_; clear n0_ n1_; (try clear hb); (try clear hb2); (try clear hk); (try clear hi)) | ((with_reducible refine gate_callee (f := 48) rfl ?_); refine goesL_ (some 12) rfl rfl Try.func48 (by kernel_rfl) rfl #[.pointer (some ⟨g385, 0, none⟩)] rfl (by (try simp only [List.map_toArray, List.map_cons, List.map_nil]); first | done | rfl | (simp only [List.length_drop, List.length_take]; rfl)) ?_; (with_reducible refine (spec_l71Cols.calls k g385 t383 t384 t386 t389 w _ ?side1 ?side2 A3.out).mono ?_); (case side1 => repeat (first | (with_reducible first | exact HI385.out | apply IsS65.alloc | apply IsS65.drewN | apply IsS65.drew | apply IsS65.set_1) | exact HI385.out)); (case side2 => repeat (first | (with_reducible first | exact HB.out | apply below_alloc | apply pw_below_drewN | apply below_drew1 | refine below_set ?_ (IsS65.ge HI385.out)) | exact HB.out)); rintro e w10 ⟨v387, rfl, ho0, hi, hb, hk⟩; refine ⟨_, rfl, ?_⟩; have n0_ := Aside0.mk (Kd.R_lower ho0 (below_size (by repeat (first | (with_reducible first | exact HB.out | apply below_alloc | apply pw_below_drewN | apply below_drew1 | refine below_set ?_ (IsS65.ge HI385.out)) | exact HB.out)))); have n1_ := Aside0.mk (hb); have n2_ := Aside0.mk (hi); clear HB; clear HI385; have HO388 := n0_; have HB := n1_; have HI385 := n2_; clear n0_ n1_ n2_; (try clear hb); (try clear hb2); (try clear hk); (try clear hi); (try clear ho0); obtain ⟨Ao11, co11, eo11⟩ := Kd.R_slice HO388.out; subst eo11) | ((with_reducible refine gate_callee (f := 30) rfl ?_); refine goesL_ (some 14) rfl rfl Try.func30 (by kernel_rfl) rfl #[.slice Ao11 t386.length co11] rfl (by (try simp only [List.map_toArray, List.map_cons, List.map_nil]); first | done | rfl | (simp only [List.length_drop, List.length_take]; rfl)) ?_; (with_reducible refine (spec_ParityOf.calls k _ _ t386 t390 _ ?side1 ?side2 A4.out).mono ?_); (case side1 => repeat (first | exact (Kd.R_reads' HO388.out).2.2 | (with_reducible refine Kd.C_alloc ?_ _) | (with_reducible refine Kd.C_drewN ?_ _) | (with_reducible refine Kd.C_drew ?_))); (case side2 => exact (Kd.R_reads' HO388.out).2.1); rintro e w12 ⟨rfl, hb⟩; refine ⟨_, rfl, ?_⟩; have n0_ := Aside0.mk (Kd.R_below (by (with_reducible repeat (first | apply Kd.R_alloc | apply Kd.R_drewN | apply Kd.R_drew)); exact HO388.out) hb); have n1_ := Aside0.mk (IsS65.below (by repeat (first | (with_reducible first | exact HI385.out | apply IsS65.alloc | apply IsS65.drewN | apply IsS65.drew | apply IsS65.set_1) | exact HI385.out)) hb); have n2_ := Aside0.mk (below_step (by repeat (first | (with_reducible first | exact HB.out | apply below_alloc | apply pw_below_drewN | apply below_drew1 | refine below_set ?_ (IsS65.ge HI385.out)) | exact HB.out)) hb); clear HO388; clear HI385; clear HB; have HO388 := n0_; have HI385 := n1_; have HB := n2_; clear n0_ n1_ n2_; (try clear hb); (try clear hb2); (try clear hk); (try clear hi)) | ((with_reducible refine gate_callee (f := 49) rfl ?_); refine goesL_ (some 19) rfl rfl Try.func49 (by kernel_rfl) rfl #[.pointer (some ⟨g385, 0, none⟩), .int .i64 (wrap64 ((t386.length : Int) + 1))] rfl (by (try simp only [List.map_toArray, List.map_cons, List.map_nil]); first | done | rfl | (simp only [List.length_drop, List.length_take]; rfl)) ?_; (with_reducible refine (spec_l6Rd_pick.calls k g385 t383 t389 (wrap64 ((t386.length : Int) + 1)) t391 t392 w _ ?side1 ?side2 A5.out).mono ?_); (case side1 => repeat (first | (with_reducible first | exact HI385.out | apply IsS65.alloc | apply IsS65.drewN | apply IsS65.drew | apply IsS65.set_1) | exact HI385.out)); (case side2 => repeat (first | (with_reducible first | exact HB.out | apply below_alloc | apply pw_below_drewN | apply below_drew1 | refine below_set ?_ (IsS65.ge HI385.out)) | exact HB.out)); rintro e w13 ⟨rfl, hi, hb, hk⟩; refine ⟨_, rfl, ?_⟩; have n0_ := Aside0.mk (Kd.R_mono (Kd.R_keep (IsS65.apart (show IsS65 w _ g385 t383 t389 from by repeat (first | (with_reducible first | exact HI385.out | apply IsS65.alloc | apply IsS65.drewN | apply IsS65.drew | apply IsS65.set_1) | exact HI385.out)) (by (with_reducible repeat (first | apply Kd.R_alloc | apply Kd.R_drewN | apply Kd.R_drew)); exact HO388.out) (by decide)) hk (fun _ h => h.2)) (fun _ h => h.1)); have n1_ := Aside0.mk (hb); have n2_ := Aside0.mk (hi); clear HO388; clear HB; clear HI385; have HO388 := n0_; have HB := n1_; have HI385 := n2_; clear n0_ n1_ n2_; (try clear hb); (try clear hb2); (try clear hk); (try clear hi)) | ((with_reducible refine gate_callee (f := 49) rfl ?_); refine goesL_ (some 21) rfl rfl Try.func49 (by kernel_rfl) rfl #[.pointer (some ⟨g385, 0, none⟩), .int .i64 12] rfl (by (try simp only [List.map_toArray, List.map_cons, List.map_nil]); first | done | rfl | (simp only [List.length_drop, List.length_take]; rfl)) ?_; (with_reducible refine (spec_l6Rd_pick.calls k g385 t383 t392 12 t393 t394 w _ ?side1 ?side2 A6.out).mono ?_); (case side1 => repeat (first | (with_reducible first | exact HI385.out | apply IsS65.alloc | apply IsS65.drewN | apply IsS65.drew | apply IsS65.set_1) | exact HI385.out)); (case side2 => repeat (first | (with_reducible first | exact HB.out | apply below_alloc | apply pw_below_drewN | apply below_drew1 | refine below_set ?_ (IsS65.ge HI385.out)) | exact HB.out)); rintro e w14 ⟨rfl, hi, hb, hk⟩; refine ⟨_, rfl, ?_⟩; have n0_ := Aside0.mk (Kd.R_mono (Kd.R_keep (IsS65.apart (show IsS65 w _ g385 t383 t392 from by repeat (first | (with_reducible first | exact HI385.out | apply IsS65.alloc | apply IsS65.drewN | apply IsS65.drew | apply IsS65.set_1) | exact HI385.out)) (by (with_reducible repeat (first | apply Kd.R_alloc | apply Kd.R_drewN | apply Kd.R_drew)); exact HO388.out) (by decide)) hk (fun _ h => h.2)) (fun _ h => h.1)); have n1_ := Aside0.mk (hb); have n2_ := Aside0.mk (hi); clear HO388; clear HB; clear HI385; have HO388 := n0_; have HB := n1_; have HI385 := n2_; clear n0_ n1_ n2_; (try clear hb); (try clear hb2); (try clear hk); (try clear hi)) | ((with_reducible refine gate_callee (f := 49) rfl ?_); refine goesL_ (some 25) rfl rfl Try.func49 (by kernel_rfl) rfl #[.pointer (some ⟨g385, 0, none⟩), .int .i64 3] rfl (by (try simp only [List.map_toArray, List.map_cons, List.map_nil]); first | done | rfl | (simp only [List.length_drop, List.length_take]; rfl)) ?_; (with_reducible refine (spec_l6Rd_pick.calls k g385 t383 t394 3 t395 t396 w _ ?side1 ?side2 A7.out).mono ?_); (case side1 => repeat (first | (with_reducible first | exact HI385.out | apply IsS65.alloc | apply IsS65.drewN | apply IsS65.drew | apply IsS65.set_1) | exact HI385.out)); (case side2 => repeat (first | (with_reducible first | exact HB.out | apply below_alloc | apply pw_below_drewN | apply below_drew1 | refine below_set ?_ (IsS65.ge HI385.out)) | exact HB.out)); rintro e w15 ⟨rfl, hi, hb, hk⟩; refine ⟨_, rfl, ?_⟩; have n0_ := Aside0.mk (Kd.R_mono (Kd.R_keep (IsS65.apart (show IsS65 w _ g385 t383 t394 from by repeat (first | (with_reducible first | exact HI385.out | apply IsS65.alloc | apply IsS65.drewN | apply IsS65.drew | apply IsS65.set_1) | exact HI385.out)) (by (with_reducible repeat (first | apply Kd.R_alloc | apply Kd.R_drewN | apply Kd.R_drew)); exact HO388.out) (by decide)) hk (fun _ h => h.2)) (fun _ h => h.1)); have n1_ := Aside0.mk (hb); have n2_ := Aside0.mk (hi); clear HO388; clear HB; clear HI385; have HO388 := n0_; have HB := n1_; have HI385 := n2_; clear n0_ n1_ n2_; (try clear hb); (try clear hb2); (try clear hk); (try clear hi)))
  (try simp only [Act.put, List.setIfInBounds_toArray, List.set_cons_zero, List.set_cons_succ])
  go_cut [7] (fun v7 wc => ∃ (kq : Nat) (x7_7 : ByteArray) (x386001_7 : Int), v7 = .string x7_7 ∧ Aside0 (spec_DrawMendOf.j0 kq t386 x7_7 (wrap64 (t391 - (wrap64 (Int.tdiv t393 11)))) t383 x386001_7 = some (r1, r2, r3)) ∧ Aside0 (kq ≤ k) ∧ Aside0 (Kd.R Kd.string 9 wc w.heap.size (fun _ => True) (.slice Ao11 t386.length co11) t386) ∧ Aside0 (IsS65 w wc g385 t383 x386001_7) ∧ Aside0 (Below w.heap.size w wc))
  case first =>
    have H := HC8.out
    clear HC8
    by_cases c16 : t395 = 0
    · rw [if_pos c16] at H
      have c16b0 : (t395 == 0) = true := beq_iff_eq.mpr c16
      have c16b1 : (t395 != 0) = false := bne_eq_false_iff_eq.mpr c16
      clear c16
      (first | rw [c16b0] | (simp only [i64_w, i32_w]; rw [c16b0]) | skip)
      replace H := Option.bind_eq_some_iff.mp H
      obtain ⟨⟨t397, t398⟩, A170, H⟩ := H
      replace H : (spec_DrawMendOf.j0 k t386 t397 (wrap64 (t391 - (wrap64 (Int.tdiv t393 11)))) t383 t398) = some (r1, r2, r3) := H
      have A17 := Aside0.mk A170
      clear A170
      have H' := Aside0.mk H
      clear H
      go_wp2_with (first | ((with_reducible refine gate_callee (f := 42) rfl ?_); refine goesL_ (some 28) rfl rfl Try.func42 (by kernel_rfl) rfl #[.pointer (some ⟨g385, 0, none⟩), .int .i64 3] rfl (by (try simp only [List.map_toArray, List.map_cons, List.map_nil]); first | done | rfl | (simp only [List.length_drop, List.length_take]; rfl)) ?_; (with_reducible refine (spec_l71Text.calls k g385 t383 t396 3 t397 t398 w _ ?side1 ?side2 A17.out).mono ?_); (case side1 => repeat (first | (with_reducible first | exact HI385.out | apply IsS65.alloc | apply IsS65.drewN | apply IsS65.drew | apply IsS65.set_1) | exact HI385.out)); (case side2 => repeat (first | (with_reducible first | exact HB.out | apply below_alloc | apply pw_below_drewN | apply below_drew1 | refine below_set ?_ (IsS65.ge HI385.out)) | exact HB.out)); rintro e w18 ⟨rfl, hi, hb, hk⟩; refine ⟨_, rfl, ?_⟩; have n0_ := Aside0.mk (Kd.R_mono (Kd.R_keep (IsS65.apart (show IsS65 w _ g385 t383 t396 from by repeat (first | (with_reducible first | exact HI385.out | apply IsS65.alloc | apply IsS65.drewN | apply IsS65.drew | apply IsS65.set_1) | exact HI385.out)) (by (with_reducible repeat (first | apply Kd.R_alloc | apply Kd.R_drewN | apply Kd.R_drew)); exact HO388.out) (by decide)) hk (fun _ h => h.2)) (fun _ h => h.1)); have n1_ := Aside0.mk (hb); have n2_ := Aside0.mk (hi); clear HO388; clear HB; clear HI385; have HO388 := n0_; have HB := n1_; have HI385 := n2_; clear n0_ n1_ n2_; (try clear hb); (try clear hb2); (try clear hk); (try clear hi)))
      go_meet
      case rel => exact ⟨_, (t397), (t398), (by first | rfl | (simp; done) | (simp [*]; done)), H', ⟨by first | omega | exact Nat.le_refl _⟩, ⟨by (with_reducible repeat (first | apply Kd.R_alloc | apply Kd.R_drewN | apply Kd.R_drew)); exact HO388.out⟩, ⟨by repeat (first | (with_reducible first | exact HI385.out | apply IsS65.alloc | apply IsS65.drewN | apply IsS65.drew | apply IsS65.set_1) | exact HI385.out)⟩, ⟨by repeat (first | (with_reducible first | exact HB.out | apply below_alloc | apply pw_below_drewN | apply below_drew1 | refine below_set ?_ (IsS65.ge HI385.out)) | exact HB.out)⟩⟩
    · rw [if_neg c16] at H
      have c16b0 : (t395 == 0) = false := beq_eq_false_iff_ne.mpr c16
      have c16b1 : (t395 != 0) = true := bne_iff_ne.mpr c16
      (first | rw [c16b0] | (simp only [i64_w, i32_w]; rw [c16b0]) | skip)
      have H' := Aside0.mk H
      clear H
      go_wp2
      go_meet
      case rel => exact ⟨_, (t390), (t396), (by first | rfl | (simp; done) | (simp [*]; done)), H', ⟨by first | omega | exact Nat.le_refl _⟩, ⟨by (with_reducible repeat (first | apply Kd.R_alloc | apply Kd.R_drewN | apply Kd.R_drew)); exact HO388.out⟩, ⟨by repeat (first | (with_reducible first | exact HI385.out | apply IsS65.alloc | apply IsS65.drewN | apply IsS65.drew | apply IsS65.set_1) | exact HI385.out)⟩, ⟨by repeat (first | (with_reducible first | exact HB.out | apply below_alloc | apply pw_below_drewN | apply below_drew1 | refine below_set ?_ (IsS65.ge HI385.out)) | exact HB.out)⟩⟩
  case rest =>
    clear HC8
    try clear c1
    try clear p2
    try clear c3
    try clear c4
    try clear p6
    try clear c16
    try clear c16b0
    try clear c16b1
    obtain ⟨kq, x7_7, x386001_7, rfl, HA, HJ7, HO_6, HI385, HB⟩ := hcut
    cases kq with
    | zero => exact absurd HA.out (by simp [spec_DrawMendOf.j0])
    | succ kj7 =>
      have H := HA.out
      clear HA
      simp only [spec_DrawMendOf.j0] at H
      replace H := Option.bind_eq_some_iff.mp H
      obtain ⟨t399, A190, H⟩ := H
      replace H : (if t399 = true then ((spec_l6Rd_pick.f kj7 t383 x386001_7 2).bind fun bt400 => (if bt400.1 = 0 then ((spec_l71Text.f kj7 t383 bt400.2 3).bind fun bt402 => (if 0 ≤ (wrap64 (t391 - (wrap64 (Int.tdiv t393 11)))) then (if (wrap64 (t391 - (wrap64 (Int.tdiv t393 11)))) < (t386.length : Int) then (some ((t386.set ((wrap64 (t391 - (wrap64 (Int.tdiv t393 11)))) : Int).toNat bt402.1), x7_7, (wrap64 (t391 - (wrap64 (Int.tdiv t393 11)))))) else (none)) else (none))) else (some (t386, x7_7, (wrap64 (t391 - (wrap64 (Int.tdiv t393 11)))))))) else (some (t386, x7_7, (wrap64 (t391 - (wrap64 (Int.tdiv t393 11))))))) = some (r1, r2, r3) := H
      have A19 := Aside0.mk A190
      clear A190
      by_cases c20 : t399 = true
      · subst c20
        have H1 : ((spec_l6Rd_pick.f kj7 t383 x386001_7 2).bind fun bt400 => (if bt400.1 = 0 then ((spec_l71Text.f kj7 t383 bt400.2 3).bind fun bt402 => (if 0 ≤ (wrap64 (t391 - (wrap64 (Int.tdiv t393 11)))) then (if (wrap64 (t391 - (wrap64 (Int.tdiv t393 11)))) < (t386.length : Int) then (some ((t386.set ((wrap64 (t391 - (wrap64 (Int.tdiv t393 11)))) : Int).toNat bt402.1), x7_7, (wrap64 (t391 - (wrap64 (Int.tdiv t393 11)))))) else (none)) else (none))) else (some (t386, x7_7, (wrap64 (t391 - (wrap64 (Int.tdiv t393 11)))))))) = some (r1, r2, r3) := by rw [if_pos rfl] at H; exact H
        clear H
        have H := H1
        clear H1
        replace H := Option.bind_eq_some_iff.mp H
        obtain ⟨⟨t400, t401⟩, A210, H⟩ := H
        replace H : (if t400 = 0 then ((spec_l71Text.f kj7 t383 t401 3).bind fun bt402 => (if 0 ≤ (wrap64 (t391 - (wrap64 (Int.tdiv t393 11)))) then (if (wrap64 (t391 - (wrap64 (Int.tdiv t393 11)))) < (t386.length : Int) then (some ((t386.set ((wrap64 (t391 - (wrap64 (Int.tdiv t393 11)))) : Int).toNat bt402.1), x7_7, (wrap64 (t391 - (wrap64 (Int.tdiv t393 11)))))) else (none)) else (none))) else (some (t386, x7_7, (wrap64 (t391 - (wrap64 (Int.tdiv t393 11))))))) = some (r1, r2, r3) := H
        have A21 := Aside0.mk A210
        clear A210
        by_cases c22 : t400 = 0
        · rw [if_pos c22] at H
          have c22b0 : (t400 == 0) = true := beq_iff_eq.mpr c22
          have c22b1 : (t400 != 0) = false := bne_eq_false_iff_eq.mpr c22
          clear c22
          replace H := Option.bind_eq_some_iff.mp H
          obtain ⟨⟨t402, t403⟩, A230, H⟩ := H
          replace H : (if 0 ≤ (wrap64 (t391 - (wrap64 (Int.tdiv t393 11)))) then (if (wrap64 (t391 - (wrap64 (Int.tdiv t393 11)))) < (t386.length : Int) then (some ((t386.set ((wrap64 (t391 - (wrap64 (Int.tdiv t393 11)))) : Int).toNat t402), x7_7, (wrap64 (t391 - (wrap64 (Int.tdiv t393 11)))))) else (none)) else (none)) = some (r1, r2, r3) := H
          have A23 := Aside0.mk A230
          clear A230
          obtain ⟨ji24, hji24⟩ : ∃ j_ : Int, (wrap64 (t391 - (wrap64 (Int.tdiv t393 11)))) = j_ := ⟨_, rfl⟩
          replace H : (if 0 ≤ (ji24) then (if (ji24) < (t386.length : Int) then (some ((t386.set ((ji24) : Int).toNat t402), x7_7, (ji24))) else (none)) else (none)) = some (r1, r2, r3) := by first | (rw [hji24] at H; exact H) | (simp only [hji24] at H ⊢; exact H)
          (try rw [hji24] at A19)
          (try rw [hji24] at A21)
          (try rw [hji24] at A23)
          have hji24w : (IntKind.i64.wrap (t391 - (wrap64 (Int.tdiv t393 11)))) = ji24 := (i64_w _).trans hji24
          by_cases c25 : 0 ≤ (ji24)
          · rw [if_pos c25] at H
            have c25b0 : decide (0 ≤ (ji24)) = true := decide_eq_true c25
            clear c25
            by_cases c26 : (ji24) < (t386.length : Int)
            · rw [if_pos c26] at H
              have c26b0 : decide ((ji24) < (t386.length : Int)) = true := decide_eq_true c26
              clear c26
              obtain ⟨y404, hy404⟩ : ∃ y_ : List ByteArray, y_ = (t386.set ((ji24) : Int).toNat t402) := ⟨_, rfl⟩
              replace H : (some (y404, x7_7, (ji24))) = some (r1, r2, r3) := by first | (rw [hy404]; with_reducible exact H) | (have H2_ := (Option.bind_some _ _).symm.trans H; rw [hy404]; with_reducible exact H2_) | (have H2_ := (Option.bind_some _ _).symm.trans H; with_reducible exact H2_) | with_reducible exact H | (rw [hy404]; exact H) | exact H
              have Ny404 := Aside0.mk hy404
              clear hy404
              simp only [Option.some.injEq, Prod.mk.injEq] at H
              obtain ⟨rfl, rfl, rfl⟩ := H
              go_wp2_with (first | ((with_reducible refine gate_callee (f := 43) rfl ?_); refine goesL_ (some 33) rfl rfl Try.func43 (by kernel_rfl) rfl #[.int .i64 (ji24), .int .i64 0, .int .i64 (wrap64 ((t386.length : Int) - 1))] rfl (by (try simp only [List.map_toArray, List.map_cons, List.map_nil]); first | done | (simp only [hji24]; rfl) | rfl | (simp only [List.length_drop, List.length_take]; rfl)) ?_; (with_reducible refine (spec_l6In.calls (ji24) 0 (wrap64 ((t386.length : Int) - 1)) true _ A19.out).mono ?_); rintro e w' ⟨rfl, ⟨nd, rfl⟩⟩; refine ⟨_, rfl, ?_⟩; (try (rw [drewN_self wc]; generalize hq_ : World.drewN wc _ = wc; have n0_ : Aside0 (Kd.R Kd.string 9 wc w.heap.size (fun _ => True) (.slice Ao11 t386.length co11) t386) := ⟨by rw [← hq_]; exact (by (with_reducible repeat (first | apply Kd.R_alloc | apply Kd.R_drewN | apply Kd.R_drew)); exact HO_6.out)⟩; have n1_ : Aside0 (IsS65 w wc g385 t383 x386001_7) := ⟨by rw [← hq_]; exact (by repeat (first | (with_reducible first | exact HI385.out | apply IsS65.alloc | apply IsS65.drewN | apply IsS65.drew | apply IsS65.set_1) | exact HI385.out))⟩; have n2_ : Aside0 (Below w.heap.size w wc) := ⟨by rw [← hq_]; exact (by repeat (first | (with_reducible first | exact HB.out | apply below_alloc | apply pw_below_drewN | apply below_drew1 | refine below_set ?_ (IsS65.ge HI385.out)) | exact HB.out))⟩; clear HO_6 HI385 HB hq_; have HO_6 := n0_; have HI385 := n1_; have HB := n2_; clear n0_ n1_ n2_))) | (go_at_call 49; (with_reducible refine (spec_l6Rd_pick.calls kj7 g385 t383 x386001_7 2 t400 t401 w _ ?side1 ?side2 A21.out).mono ?_); (case side1 => repeat (first | (with_reducible first | exact HI385.out | apply IsS65.alloc | apply IsS65.drewN | apply IsS65.drew | apply IsS65.set_1) | exact HI385.out)); (case side2 => repeat (first | (with_reducible first | exact HB.out | apply below_alloc | apply pw_below_drewN | apply below_drew1 | refine below_set ?_ (IsS65.ge HI385.out)) | exact HB.out)); rintro e w28 ⟨rfl, hi, hb, hk⟩; have n0_ := Aside0.mk (Kd.R_mono (Kd.R_keep (IsS65.apart (show IsS65 w _ g385 t383 x386001_7 from by repeat (first | (with_reducible first | exact HI385.out | apply IsS65.alloc | apply IsS65.drewN | apply IsS65.drew | apply IsS65.set_1) | exact HI385.out)) (by (with_reducible repeat (first | apply Kd.R_alloc | apply Kd.R_drewN | apply Kd.R_drew)); exact HO_6.out) (by decide)) hk (fun _ h => h.2)) (fun _ h => h.1)); have n1_ := Aside0.mk (hb); have n2_ := Aside0.mk (hi); clear HO_6; clear HB; clear HI385; have HO_6 := n0_; have HB := n1_; have HI385 := n2_; clear n0_ n1_ n2_; (try clear hb); (try clear hb2); (try clear hk); (try clear hi)) | ((with_reducible refine gate_callee (f := 42) rfl ?_); refine goesL_ (some 42) rfl rfl Try.func42 (by kernel_rfl) rfl #[.pointer (some ⟨g385, 0, none⟩), .int .i64 3] rfl (by (try simp only [List.map_toArray, List.map_cons, List.map_nil]); first | done | rfl | (simp only [List.length_drop, List.length_take]; rfl)) ?_; (with_reducible refine (spec_l71Text.calls kj7 g385 t383 t401 3 t402 t403 w _ ?side1 ?side2 A23.out).mono ?_); (case side1 => repeat (first | (with_reducible first | exact HI385.out | apply IsS65.alloc | apply IsS65.drewN | apply IsS65.drew | apply IsS65.set_1) | exact HI385.out)); (case side2 => repeat (first | (with_reducible first | exact HB.out | apply below_alloc | apply pw_below_drewN | apply below_drew1 | refine below_set ?_ (IsS65.ge HI385.out)) | exact HB.out)); rintro e w29 ⟨rfl, hi, hb, hk⟩; refine ⟨_, rfl, ?_⟩; have n0_ := Aside0.mk (Kd.R_mono (Kd.R_keep (IsS65.apart (show IsS65 w _ g385 t383 t401 from by repeat (first | (with_reducible first | exact HI385.out | apply IsS65.alloc | apply IsS65.drewN | apply IsS65.drew | apply IsS65.set_1) | exact HI385.out)) (by (with_reducible repeat (first | apply Kd.R_alloc | apply Kd.R_drewN | apply Kd.R_drew)); exact HO_6.out) (by decide)) hk (fun _ h => h.2)) (fun _ h => h.1)); have n1_ := Aside0.mk (hb); have n2_ := Aside0.mk (hi); clear HO_6; clear HB; clear HI385; have HO_6 := n0_; have HB := n1_; have HI385 := n2_; clear n0_ n1_ n2_; (try clear hb); (try clear hb2); (try clear hk); (try clear hi); have p27 : 0 ≤ ((ji24) : Int) := of_decide_eq_true (by first | (with_reducible assumption) | assumption); have q27 : ((ji24) : Int) < ((t386.length : Int) : Int) := of_decide_eq_true (by first | (with_reducible assumption) | assumption); obtain ⟨go27, co27, eo27, gb27, gl27, cl27, HG27⟩ := Kd.R_form HO_6.out (by omega); (first | cases eo27 | (injection eo27 with ea_ en_ ec_; (first | subst ea_ | (injection ea_ with ea_; subst ea_)); subst ec_; clear en_)); have GB27 := Aside0.mk gb27; have GG27 := Aside0.mk HG27; clear gb27 gl27 HG27; obtain ⟨hx27_0, hf27_0⟩ := Kd.R_celln (⟨#[]⟩ : ByteArray) HO_6.out ((ji24) : Int) p27 q27; replace p27 := eq_true p27; replace q27 := eq_true q27; obtain ⟨hy30_, hz30_⟩ := Kd.R_celln (⟨#[]⟩ : ByteArray) HO_6.out ((ji24) : Int) (of_decide_eq_true (by first | (with_reducible assumption) | assumption)) (of_decide_eq_true (by first | (with_reducible assumption) | assumption)); have HP30 := Kd.R_putg HO_6.out ((ji24) : Int) t402) | ((with_reducible refine gate_store (t := 9) (p := 43) rfl ?_); refine store_event (t := 9) (p := 43) (v := ?vo_w31) (w1 := (w29.setCell ⟨go27, ((ji24) : Int).toNat, none⟩ (.string t402))) ?hg ?ho ?hn ?hr ?_; (case ho => rfl); (case hg => rfl); (case hn => rfl); (case hr => first | (go_simp; done) | (go_simp; rfl)); intro w31 hw; have hg : w29.grownBy w31 (some go27) := (by rw [hw]; exact HP30.2); have hp_ : Kd.R Kd.string 9 w31 w.heap.size (fun _ => True) (.slice (some ⟨go27, 0, none⟩) t386.length co11) y404 := (by rw [hw, Ny404.out]; exact HP30.1); clear HP30; have n0_ := Aside0.mk (hp_); have n1_ := Aside0.mk (IsS65.grown (by repeat (first | (with_reducible first | exact HI385.out | apply IsS65.alloc | apply IsS65.drewN | apply IsS65.drew | apply IsS65.set_1) | exact HI385.out)) hg (IsS65.own_ne HI385.out HO_6.out (by decide))); have n2_ := Aside0.mk ((by rw [hw]; exact below_set (HB.out) GB27.out : Below w.heap.size w w31)); clear HO_6; clear HI385; clear HB; have HO_6 := n0_; have HI385 := n1_; have HB := n2_; clear n0_ n1_ n2_; clear hg hw hp_))
              go_ret3
              exact ⟨_, by first | rfl | (simp [errW_none, errW_some] <;> rfl) | (simp only [← hji24]; first | rfl | (simp [errW_none, errW_some] <;> rfl)) | (simp [*, errW_none, errW_some] <;> rfl), by (with_reducible repeat (first | apply Kd.R_alloc | apply Kd.R_drewN | apply Kd.R_drew)); exact HO_6.out, by repeat (first | (with_reducible first | exact HB.out | apply below_alloc | apply pw_below_drewN | apply below_drew1 | refine below_set ?_ (IsS65.ge HI385.out)) | exact HB.out)⟩
            · rw [if_neg c26] at H
              exact absurd H (by simp)
          · rw [if_neg c25] at H
            exact absurd H (by simp)
        · rw [if_neg c22] at H
          have c22b0 : (t400 == 0) = false := beq_eq_false_iff_ne.mpr c22
          have c22b1 : (t400 != 0) = true := bne_iff_ne.mpr c22
          simp only [Option.some.injEq, Prod.mk.injEq] at H
          obtain ⟨rfl, rfl, rfl⟩ := H
          go_wp2_with (first | ((with_reducible refine gate_callee (f := 43) rfl ?_); refine goesL_ (some 33) rfl rfl Try.func43 (by kernel_rfl) rfl #[.int .i64 (wrap64 (t391 - (wrap64 (Int.tdiv t393 11)))), .int .i64 0, .int .i64 (wrap64 ((t386.length : Int) - 1))] rfl (by (try simp only [List.map_toArray, List.map_cons, List.map_nil]); first | done | rfl | (simp only [List.length_drop, List.length_take]; rfl)) ?_; (with_reducible refine (spec_l6In.calls (wrap64 (t391 - (wrap64 (Int.tdiv t393 11)))) 0 (wrap64 ((t386.length : Int) - 1)) true _ A19.out).mono ?_); rintro e w' ⟨rfl, ⟨nd, rfl⟩⟩; refine ⟨_, rfl, ?_⟩) | (go_at_call 49; (with_reducible refine (spec_l6Rd_pick.calls kj7 g385 t383 x386001_7 2 t400 t401 w _ ?side1 ?side2 A21.out).mono ?_); (case side1 => repeat (first | (with_reducible first | exact HI385.out | apply IsS65.alloc | apply IsS65.drewN | apply IsS65.drew | apply IsS65.set_1) | exact HI385.out)); (case side2 => repeat (first | (with_reducible first | exact HB.out | apply below_alloc | apply pw_below_drewN | apply below_drew1 | refine below_set ?_ (IsS65.ge HI385.out)) | exact HB.out)); rintro e w32 ⟨rfl, hi, hb, hk⟩; have n0_ := Aside0.mk (Kd.R_mono (Kd.R_keep (IsS65.apart (show IsS65 w _ g385 t383 x386001_7 from by repeat (first | (with_reducible first | exact HI385.out | apply IsS65.alloc | apply IsS65.drewN | apply IsS65.drew | apply IsS65.set_1) | exact HI385.out)) (by (with_reducible repeat (first | apply Kd.R_alloc | apply Kd.R_drewN | apply Kd.R_drew)); exact HO_6.out) (by decide)) hk (fun _ h => h.2)) (fun _ h => h.1)); have n1_ := Aside0.mk (hb); have n2_ := Aside0.mk (hi); clear HO_6; clear HB; clear HI385; have HO_6 := n0_; have HB := n1_; have HI385 := n2_; clear n0_ n1_ n2_; (try clear hb); (try clear hb2); (try clear hk); (try clear hi)))
          go_ret3
          exact ⟨_, by first | rfl | (simp [errW_none, errW_some] <;> rfl) | (simp [*, errW_none, errW_some] <;> rfl), by (with_reducible repeat (first | apply Kd.R_alloc | apply Kd.R_drewN | apply Kd.R_drew)); exact HO_6.out, by repeat (first | (with_reducible first | exact HB.out | apply below_alloc | apply pw_below_drewN | apply below_drew1 | refine below_set ?_ (IsS65.ge HI385.out)) | exact HB.out)⟩
      · replace c20 := Bool.eq_false_iff.mpr c20
        subst c20
        have H1 : (some (t386, x7_7, (wrap64 (t391 - (wrap64 (Int.tdiv t393 11)))))) = some (r1, r2, r3) := by rw [if_neg (show ¬ (false = true) by decide)] at H; exact H
        clear H
        have H := H1
        clear H1
        simp only [Option.some.injEq, Prod.mk.injEq] at H
        obtain ⟨rfl, rfl, rfl⟩ := H
        go_wp2_with (first | ((with_reducible refine gate_callee (f := 43) rfl ?_); refine goesL_ (some 33) rfl rfl Try.func43 (by kernel_rfl) rfl #[.int .i64 (wrap64 (t391 - (wrap64 (Int.tdiv t393 11)))), .int .i64 0, .int .i64 (wrap64 ((t386.length : Int) - 1))] rfl (by (try simp only [List.map_toArray, List.map_cons, List.map_nil]); first | done | rfl | (simp only [List.length_drop, List.length_take]; rfl)) ?_; (with_reducible refine (spec_l6In.calls (wrap64 (t391 - (wrap64 (Int.tdiv t393 11)))) 0 (wrap64 ((t386.length : Int) - 1)) false _ A19.out).mono ?_); rintro e w' ⟨rfl, ⟨nd, rfl⟩⟩; refine ⟨_, rfl, ?_⟩))
        go_ret3
        exact ⟨_, by first | rfl | (simp [errW_none, errW_some] <;> rfl) | (simp [*, errW_none, errW_some] <;> rfl), by (with_reducible repeat (first | apply Kd.R_alloc | apply Kd.R_drewN | apply Kd.R_drew)); exact HO_6.out, by repeat (first | (with_reducible first | exact HB.out | apply below_alloc | apply pw_below_drewN | apply below_drew1 | refine below_set ?_ (IsS65.ge HI385.out)) | exact HB.out)⟩

end Go.Proofs.Ytoelfgkigbfieaa.Print
