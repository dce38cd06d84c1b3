/- Proved, with what follows on it: the row of the law FnRootLess. Conditions: the row's alone. Texts of this session and words that the kit's print laid for this seat, merged and cut by shrink.py, a program of this session. -/
import Derived.Deep.Draws
import Derived.Deep.LoopGhost
import Derived.Deep.MidRow
import Derived.DeepKeys4
import Derived.Great.BuildSlice
import Derived.Ground.SlgcProg
import Derived.Ground.SlsfProg
import Derived.Lib.SliceRun
import Derived.Lib.SlicesCompact
import Derived.Lib.Small
import Derived.Lib.Walk
import Derived.Maps.OwnSet
import Derived.Shelf.RegionOpenPlain
import Derived.Shelf.SlSortCmp.NoneTotal
import Derived.Shelf.SlicesG.Cmp
import Derived.Sort.Grow
import Derived.Test.YtkoimmeghdbodaaZFnRootLessC
set_option linter.unusedVariables false
set_option linter.unusedSimpArgs false
namespace Go.Proofs.Ytkoimmeghdbodaa.Print
open Go.RowKit Go.Proofs.YtkoimmeghdbodaaW.PrintWords Go.Proofs.YtkoimmeghdbodaaW.PrintLast Go.Proofs.YtkoimmeghdbodaaW.PrintMore Go.Proofs.Ytkoimmeghdbodaa.Pure
def Blk (w : World) (g : Nat) (cs : Array Value) (t : Nat) : Prop := w.heap[g]? = some (.cells cs t (0, 0))
theorem Blk.lt {w : World} {g : Nat} {cs : Array Value} {t : Nat} (h : Blk w g cs t) : g < w.heap.size := (Array.getElem?_eq_some_iff.1 h).1
theorem Blk.below {w w' : World} {g : Nat} {cs : Array Value} {t : Nat} (h : Blk w g cs t) (hb : Below w.heap.size w w') : Blk w' g cs t := (hb.block g h.lt).trans h
theorem Blk.cell {w : World} {g : Nat} {cs : Array Value} {t : Nat} (h : Blk w g cs t) (j : Nat) : w.cell? ⟨g, j, none⟩ = cs[j]? := by
  unfold Blk at h
  simp [World.cell?, h]
theorem Blk.alloc {w : World} {g : Nat} {cs : Array Value} {t : Nat} (h : Blk w g cs t) (o : Obj) : Blk (w.alloc o) g cs t := h.below ((Below.refl _ w).alloc (Nat.le_refl _) o)
theorem Blk.made (w : World) (cs : Array Value) (t : Nat) : Blk (w.alloc (.cells cs t)) w.heap.size cs t := World.alloc_heap_new w _
theorem C_take {w : World} {A : Option Addr} {l : List S65} (h : Kd.C k65 w A l.length l) (i : Nat) (hi : i ≤ l.length) : Kd.C k65 w A (l.take i).length (l.take i) := by
  have hl : (l.take i).length = i := by rw [List.length_take]; omega
  refine ⟨rfl, by have := h.2.1; omega, fun hp => ?_⟩
  obtain ⟨ad, e, hc⟩ := h.2.2 (by omega)
  refine ⟨ad, e, fun j p hj => hc j p ?_⟩
  have hji : j < i := by
    have := (List.getElem?_eq_some_iff.1 hj).1
    omega
  rw [List.getElem?_take_of_lt hji] at hj
  exact hj
def volAt (n : Int) (vs : List S65) (i : Nat) : Bool :=
  (volB (vs.getD i z65).f0 && decide ((vs.getD i z65).f1.length = 3)) && (!((vs.take i).any (fun x : S65 => x.f0.toList == (vs.getD i z65).f0.toList)) && !((vs.getD i z65).f1.any (fun x : S29 => !ptrC n x)))
def volsB (n : Int) (vs : List S65) : Bool := (List.range vs.length).all (volAt n vs) && decide (vs.length ≤ 4)
theorem volsB_no {n : Int} {vs : List S65} {i : Nat} (hi : i < vs.length) (h : volAt n vs i = false) : volsB n vs = false := by
  unfold volsB
  rw [Bool.and_eq_false_iff]
  left
  rw [List.all_eq_false]
  exact ⟨i, List.mem_range.2 hi, by rw [h]; simp⟩
theorem volsB_yes {n : Int} {vs : List S65} (h : ∀ j, j < vs.length → volAt n vs j = true) : volsB n vs = decide (vs.length ≤ 4) := by
  unfold volsB
  rw [List.all_eq_true.2 fun j hj => h j (List.mem_range.1 hj), Bool.true_and]
set_option maxHeartbeats 8000000 in
set_option maxRecDepth 100000 in
theorem volsOk_calls (n : Int) (A0 : Option Addr) (c0 : Nat) (l0 : List S65) (w : World) (hr0 : Kd.C k65 w A0 l0.length l0) (hc0 : l0.length ≤ c0) (hsz : ∀ x ∈ l0, ∀ y ∈ x.f1, y.f2.length ≤ 1048576) :
    Calls Try.prog 78 #[.int .i64 n, .slice A0 l0.length c0] w fun e w' => e = .returned (.bool (volsB n l0)) ∧ Below w.heap.size w w' := by
  have hu65 := Try.underlying65
  have HR0 := Az.mk hr0
  have HC0 := Az.mk hc0
  have HM := Az.mk (Kd.C_max hr0)
  have HSZ := Az.mk hsz
  clear hr0 hc0 hsz
  go_enter Try.func78, Try.ntmps78
  go_wp2
  repeat (go_quiet (fail); try go_wp2)
  go_loopg [9] l0.length (fun kq v9 wr => ∃ (i : Nat), v9 = .int .i64 (i : Int) ∧ Az (i + kq = l0.length) ∧ Az (∀ j, j < i → volAt n l0 j = true) ∧ Az (Below w.heap.size w wr) ∧ Az (Blk wr w.heap.size #[.int .i64 n] 3))
  case atStart => exact ⟨0, rfl, ⟨Nat.zero_add _⟩, ⟨fun j hj => by omega⟩, ⟨by repeat (first | exact Below.refl _ _ | apply zq2 | apply zq1 | apply zqd)⟩, ⟨Blk.made _ _ _⟩⟩
  case round =>
    obtain ⟨i, rfl, HI, HF, HB, HN⟩ := hrel
    by_cases c1 : i < l0.length
    · have c1b0 : decide ((i : Int) < (l0.length : Int)) = true := decide_eq_true (by omega)
      have p1 : (0 : Int) ≤ (i : Int) := by omega
      have q1 : (i : Int) < (l0.length : Int) := by omega
      have hm := HM.out
      have hw1 : wrap64 ((i : Int) + 1) = ((i + 1 : Nat) : Int) := by unfold wrap64; omega
      have HW := Az.mk hw1
      have hsl : (i : Int) ≤ (c0 : Int) := by have := HC0.out; omega
      clear hm hw1
      obtain ⟨ad, A1, c1_, e1, hx_0, hx_1, hl1, hi1⟩ := at_T65 HR0.out (i : Int) p1 q1
      cases e1
      simp only [Int.toNat_natCast, rd_T65] at hx_0 hx_1 hl1 hi1
      replace hx_0 := (HB.out.cell (World.block_lt_of_cell? w _ hx_0)).trans hx_0
      replace hx_1 := (HB.out.cell (World.block_lt_of_cell? w _ hx_1)).trans hx_1
      replace hi1 := Kd.C_below hi1 HB.out
      have hct := C_take HR0.out i (by omega)
      have hlt : (l0.take i).length = i := by rw [List.length_take]; omega
      have hat : volAt n l0 i = ((volB (l0.getD i z65).f0 && decide ((l0.getD i z65).f1.length = 3)) && (!((l0.take i).any (fun x : S65 => x.f0.toList == (l0.getD i z65).f0.toList)) && !((l0.getD i z65).f1.any (fun x : S29 => !ptrC n x)))) := rfl
      have hsx := HSZ.out (l0.getD i z65) (by rw [List.getD, List.getElem?_eq_getElem c1]; exact List.getElem_mem c1)
      obtain ⟨x, hE⟩ : ∃ x, x = l0.getD i z65 := ⟨_, rfl⟩
      rw [← hE] at hx_0 hx_1 hl1 hi1 hat hsx
      clear hE
      have HCV := Az.mk (fun (W : World) (hb : Below wr.heap.size wr W) (g : Nat) (hg : W.cell? ⟨g, 0, none⟩ = some (.string x.f0)) => containsVol (some ad) c0 (l0.take i) g x.f0 W hg (Kd.C_below (Kd.C_below hct HB.out) hb) (by have := HC0.out; omega))
      have HCP := Az.mk (fun (W : World) (hb : Below wr.heap.size wr W) (g : Nat) (hg : W.cell? ⟨g, 0, none⟩ = some (.int .i64 n)) => containsPtr A1 c1_ x.f1 g n W hg hsx (Kd.C_below hi1 hb) hl1)
      have HV := Az.mk (fun (W : World) => impl_isVolName.calls x.f0 (volB x.f0) W rfl)
      rw [hlt] at HCV
      obtain ⟨vb, hvb⟩ : ∃ vb, vb = volB x.f0 := ⟨_, rfl⟩
      obtain ⟨b1, hb1⟩ : ∃ b1, b1 = (l0.take i).any (fun y : S65 => y.f0.toList == x.f0.toList) := ⟨_, rfl⟩
      obtain ⟨b2, hb2⟩ : ∃ b2, b2 = x.f1.any (fun y : S29 => !ptrC n y) := ⟨_, rfl⟩
      rw [← hvb] at HV hat
      rw [← hb1] at HCV hat
      rw [← hb2] at HCP hat
      have HAT := Az.mk hat
      have HBR := Az.mk (Below.refl wr.heap.size wr)
      clear hat hvb hb1 hb2 hct hlt hsx hl1 hi1
      cases vb
      · have hno := volsB_no (n := n) c1 (by rw [HAT.out]; rfl)
        have HNO := Az.mk hno
        clear hno
        go_wp2_with (first | (go_at_call 101; refine (HV.out _).mono ?_; rintro e w9 ⟨rfl, hb9⟩; have B6 := Az.mk ((Blk.made wr #[.string x.f0, .slice A1 x.f1.length c1_] 65).below hb9); have q0 := (B6.out.cell 0).trans rfl; have q1_ := (B6.out.cell 1).trans rfl; have HN1 := Az.mk ((HN.out.alloc (Obj.cells #[.string x.f0, .slice A1 x.f1.length c1_] 65)).below hb9); clear HN; have HN := HN1; clear HN1; have n0_ := Az.mk (below_step (by repeat (first | (with_reducible first | exact HBR.out | apply zq2 | apply zq1 | apply zqd) | exact HBR.out)) hb9); clear HBR; have HBR := n0_; clear n0_; clear hb9) | go_in)
        go_ret
        exact ⟨by rw [HNO.out]; rfl, (below_step HB.out (by repeat (first | (with_reducible first | exact HBR.out | apply zq2 | apply zq1 | apply zqd) | exact HBR.out)))⟩
      · by_cases c2 : x.f1.length = 3
        · have c2b : ((x.f1.length : Int) != 3) = false := bne_eq_false_iff_eq.2 (by omega)
          have HC2 := Az.mk c2
          clear c2
          cases b1
          · cases b2
            · have hF1 : Az (∀ j, j < i + 1 → volAt n l0 j = true) := ⟨fun j hj => by
                by_cases e : j = i
                · rw [e, HAT.out, decide_eq_true HC2.out]; rfl
                · exact HF.out j (by omega)⟩
              go_wp2_with (first | (go_at_call 101; refine (HV.out _).mono ?_; rintro e w9 ⟨rfl, hb9⟩; have B6 := Az.mk ((Blk.made wr #[.string x.f0, .slice A1 x.f1.length c1_] 65).below hb9); have q0 := (B6.out.cell 0).trans rfl; have q1_ := (B6.out.cell 1).trans rfl; have HN1 := Az.mk ((HN.out.alloc (Obj.cells #[.string x.f0, .slice A1 x.f1.length c1_] 65)).below hb9); clear HN; have HN := HN1; clear HN1; have n0_ := Az.mk (below_step (by repeat (first | (with_reducible first | exact HBR.out | apply zq2 | apply zq1 | apply zqd) | exact HBR.out)) hb9); clear HBR; have HBR := n0_; clear n0_; clear hb9) | (go_at_call 102; refine (HCV.out _ (by repeat (first | (with_reducible first | exact HBR.out | apply zq2 | apply zq1 | apply zqd) | exact HBR.out)) wr.heap.size q0).mono ?_; rintro e w10 ⟨rfl, hb9⟩; have B6b := Az.mk (B6.out.below hb9); clear B6 q0 q1_; have B6 := B6b; clear B6b; have q0 := (B6.out.cell 0).trans rfl; have q1_ := (B6.out.cell 1).trans rfl; have HN1 := Az.mk (HN.out.below hb9); clear HN; have HN := HN1; clear HN1; have n0_ := Az.mk (below_step (by repeat (first | (with_reducible first | exact HBR.out | apply zq2 | apply zq1 | apply zqd) | exact HBR.out)) hb9); clear HBR; have HBR := n0_; clear n0_; clear hb9) | (go_at_call 104; refine (HCP.out _ (by repeat (first | (with_reducible first | exact HBR.out | apply zq2 | apply zq1 | apply zqd) | exact HBR.out)) w.heap.size (HN.out.cell 0)).mono ?_; rintro e w11 ⟨rfl, hb9⟩; have HN1 := Az.mk (HN.out.below hb9); clear HN; have HN := HN1; clear HN1; have n0_ := Az.mk (below_step (by repeat (first | (with_reducible first | exact HBR.out | apply zq2 | apply zq1 | apply zqd) | exact HBR.out)) hb9); clear HBR; have HBR := n0_; clear n0_; clear hb9) | go_in)
              go_roundg (gk - 1)
              case measure => have := HI.out; omega
              case rel => exact ⟨i + 1, by rw [← HW.out], ⟨by have := HI.out; omega⟩, hF1, ⟨(below_step HB.out (by repeat (first | (with_reducible first | exact HBR.out | apply zq2 | apply zq1 | apply zqd) | exact HBR.out)))⟩, ⟨HN.out⟩⟩
            · have hno := volsB_no (n := n) c1 (by rw [HAT.out]; simp)
              have HNO := Az.mk hno
              clear hno
              go_wp2_with (first | (go_at_call 101; refine (HV.out _).mono ?_; rintro e w9 ⟨rfl, hb9⟩; have B6 := Az.mk ((Blk.made wr #[.string x.f0, .slice A1 x.f1.length c1_] 65).below hb9); have q0 := (B6.out.cell 0).trans rfl; have q1_ := (B6.out.cell 1).trans rfl; have HN1 := Az.mk ((HN.out.alloc (Obj.cells #[.string x.f0, .slice A1 x.f1.length c1_] 65)).below hb9); clear HN; have HN := HN1; clear HN1; have n0_ := Az.mk (below_step (by repeat (first | (with_reducible first | exact HBR.out | apply zq2 | apply zq1 | apply zqd) | exact HBR.out)) hb9); clear HBR; have HBR := n0_; clear n0_; clear hb9) | (go_at_call 102; refine (HCV.out _ (by repeat (first | (with_reducible first | exact HBR.out | apply zq2 | apply zq1 | apply zqd) | exact HBR.out)) wr.heap.size q0).mono ?_; rintro e w10 ⟨rfl, hb9⟩; have B6b := Az.mk (B6.out.below hb9); clear B6 q0 q1_; have B6 := B6b; clear B6b; have q0 := (B6.out.cell 0).trans rfl; have q1_ := (B6.out.cell 1).trans rfl; have HN1 := Az.mk (HN.out.below hb9); clear HN; have HN := HN1; clear HN1; have n0_ := Az.mk (below_step (by repeat (first | (with_reducible first | exact HBR.out | apply zq2 | apply zq1 | apply zqd) | exact HBR.out)) hb9); clear HBR; have HBR := n0_; clear n0_; clear hb9) | (go_at_call 104; refine (HCP.out _ (by repeat (first | (with_reducible first | exact HBR.out | apply zq2 | apply zq1 | apply zqd) | exact HBR.out)) w.heap.size (HN.out.cell 0)).mono ?_; rintro e w11 ⟨rfl, hb9⟩; have HN1 := Az.mk (HN.out.below hb9); clear HN; have HN := HN1; clear HN1; have n0_ := Az.mk (below_step (by repeat (first | (with_reducible first | exact HBR.out | apply zq2 | apply zq1 | apply zqd) | exact HBR.out)) hb9); clear HBR; have HBR := n0_; clear n0_; clear hb9) | go_in)
              go_ret
              exact ⟨by rw [HNO.out]; rfl, (below_step HB.out (by repeat (first | (with_reducible first | exact HBR.out | apply zq2 | apply zq1 | apply zqd) | exact HBR.out)))⟩
          · have hno := volsB_no (n := n) c1 (by rw [HAT.out]; simp)
            have HNO := Az.mk hno
            clear hno
            go_wp2_with (first | (go_at_call 101; refine (HV.out _).mono ?_; rintro e w9 ⟨rfl, hb9⟩; have B6 := Az.mk ((Blk.made wr #[.string x.f0, .slice A1 x.f1.length c1_] 65).below hb9); have q0 := (B6.out.cell 0).trans rfl; have q1_ := (B6.out.cell 1).trans rfl; have HN1 := Az.mk ((HN.out.alloc (Obj.cells #[.string x.f0, .slice A1 x.f1.length c1_] 65)).below hb9); clear HN; have HN := HN1; clear HN1; have n0_ := Az.mk (below_step (by repeat (first | (with_reducible first | exact HBR.out | apply zq2 | apply zq1 | apply zqd) | exact HBR.out)) hb9); clear HBR; have HBR := n0_; clear n0_; clear hb9) | (go_at_call 102; refine (HCV.out _ (by repeat (first | (with_reducible first | exact HBR.out | apply zq2 | apply zq1 | apply zqd) | exact HBR.out)) wr.heap.size q0).mono ?_; rintro e w10 ⟨rfl, hb9⟩; have B6b := Az.mk (B6.out.below hb9); clear B6 q0 q1_; have B6 := B6b; clear B6b; have q0 := (B6.out.cell 0).trans rfl; have q1_ := (B6.out.cell 1).trans rfl; have HN1 := Az.mk (HN.out.below hb9); clear HN; have HN := HN1; clear HN1; have n0_ := Az.mk (below_step (by repeat (first | (with_reducible first | exact HBR.out | apply zq2 | apply zq1 | apply zqd) | exact HBR.out)) hb9); clear HBR; have HBR := n0_; clear n0_; clear hb9) | go_in)
            go_ret
            exact ⟨by rw [HNO.out]; rfl, (below_step HB.out (by repeat (first | (with_reducible first | exact HBR.out | apply zq2 | apply zq1 | apply zqd) | exact HBR.out)))⟩
        · have c2b : ((x.f1.length : Int) != 3) = true := bne_iff_ne.2 (by omega)
          have hno := volsB_no (n := n) c1 (by rw [HAT.out, decide_eq_false c2]; rfl)
          have HNO := Az.mk hno
          clear hno
          go_wp2_with (first | (go_at_call 101; refine (HV.out _).mono ?_; rintro e w9 ⟨rfl, hb9⟩; have B6 := Az.mk ((Blk.made wr #[.string x.f0, .slice A1 x.f1.length c1_] 65).below hb9); have q0 := (B6.out.cell 0).trans rfl; have q1_ := (B6.out.cell 1).trans rfl; have HN1 := Az.mk ((HN.out.alloc (Obj.cells #[.string x.f0, .slice A1 x.f1.length c1_] 65)).below hb9); clear HN; have HN := HN1; clear HN1; have n0_ := Az.mk (below_step (by repeat (first | (with_reducible first | exact HBR.out | apply zq2 | apply zq1 | apply zqd) | exact HBR.out)) hb9); clear HBR; have HBR := n0_; clear n0_; clear hb9) | go_in)
          go_ret
          exact ⟨by rw [HNO.out]; rfl, (below_step HB.out (by repeat (first | (with_reducible first | exact HBR.out | apply zq2 | apply zq1 | apply zqd) | exact HBR.out)))⟩
    · have c1b0 : decide ((i : Int) < (l0.length : Int)) = false := decide_eq_false (by omega)
      have hy := volsB_yes (n := n) (vs := l0) (fun j hj => HF.out j (by omega))
      have HY := Az.mk hy
      clear hy
      go_wp2
      go_ret
      have hz : decide ((l0.length : Int) ≤ 4) = decide (l0.length ≤ 4) := decide_eq_decide.2 (by omega)
      exact ⟨by show Ending.returned (.bool (decide ((l0.length : Int) ≤ 4))) = _; rw [HY.out, hz], HB.out⟩
end Go.Proofs.Ytkoimmeghdbodaa.Print
namespace Go.Proofs.Ytkoimmeghdbodaa.Print
open Go.RowKit Go.Proofs.YtkoimmeghdbodaaW.PrintWords Go.Proofs.YtkoimmeghdbodaaW.PrintLast Go.Proofs.YtkoimmeghdbodaaW.PrintMore
attribute [local go_sem] max2_int min2_int max_two min_two max_three min_three max_four min_four
end Go.Proofs.Ytkoimmeghdbodaa.Print
namespace Go.Proofs.Ytkoimmeghdbodaa.Print
open Go.RowKit Go.Proofs.YtkoimmeghdbodaaW.PrintWords Go.Proofs.YtkoimmeghdbodaaW.PrintLast Go.Proofs.YtkoimmeghdbodaaW.PrintMore
attribute [local go_sem] max2_int min2_int max_two min_two max_three min_three max_four min_four
end Go.Proofs.Ytkoimmeghdbodaa.Print
namespace Go.Proofs.Ytkoimmeghdbodaa.Print
open Go.RowKit Go.Proofs.YtkoimmeghdbodaaW.PrintWords Go.Proofs.YtkoimmeghdbodaaW.PrintLast Go.Proofs.YtkoimmeghdbodaaW.PrintMore
attribute [local go_sem] max2_int min2_int max_two min_two max_three min_three max_four min_four
end Go.Proofs.Ytkoimmeghdbodaa.Print
namespace Go.Proofs.Ytkoimmeghdbodaa.Print
open Go.RowKit Go.Proofs.YtkoimmeghdbodaaW.PrintWords Go.Proofs.YtkoimmeghdbodaaW.PrintLast Go.Proofs.YtkoimmeghdbodaaW.PrintMore
attribute [local go_sem] max2_int min2_int max_two min_two max_three min_three max_four min_four
end Go.Proofs.Ytkoimmeghdbodaa.Print
namespace Go.Proofs.Ytkoimmeghdbodaa.Print
open Go.RowKit Go.Proofs.YtkoimmeghdbodaaW.PrintWords Go.Proofs.YtkoimmeghdbodaaW.PrintLast Go.Proofs.YtkoimmeghdbodaaW.PrintMore
attribute [local go_sem] max2_int min2_int max_two min_two max_three min_three max_four min_four
end Go.Proofs.Ytkoimmeghdbodaa.Print
namespace Go.Proofs.Ytkoimmeghdbodaa.Print
open Go.RowKit Go.Proofs.YtkoimmeghdbodaaW.PrintWords Go.Proofs.YtkoimmeghdbodaaW.PrintLast Go.Proofs.YtkoimmeghdbodaaW.PrintMore
attribute [local go_sem] max2_int min2_int max_two min_two max_three min_three max_four min_four
end Go.Proofs.Ytkoimmeghdbodaa.Print
namespace Go.Proofs.Ytkoimmeghdbodaa.Print
open Go.RowKit Go.Proofs.YtkoimmeghdbodaaW.PrintWords Go.Proofs.YtkoimmeghdbodaaW.PrintLast Go.Proofs.YtkoimmeghdbodaaW.PrintMore
attribute [local go_sem] max2_int min2_int max_two min_two max_three min_three max_four min_four
def impl_Root_ptrs.l0 : Nat → List (S29) → List (S65) → Int → Int → Option ((List (S29)))
 | 0, _, _, _, _ => none
 | k + 1, x3, x7, x8, x9 => if x9 < x8 then (if 0 ≤ x9 then (if x9 < (x7.length : Int) then (if x3.length + ((rd_T65 x7 x9).f1).length < 3518437208883 then (impl_Root_ptrs.l0 k (x3 ++ ((rd_T65 x7 x9).f1)) x7 x8 (wrap64 (x9 + 1))) else (none)) else (none)) else (none)) else (some x3)
def impl_Root_ptrs.f (k : Nat) (a0_0 : Int) (l0_1 : List (S65)) : Option ((List (S29))) := impl_Root_ptrs.l0 k ([] : List (S29)) l0_1 (l0_1.length : Int) 0
set_option maxHeartbeats 8000000 in
set_option maxRecDepth 100000 in
theorem impl_Root_ptrs.calls (k : Nat) (a0_0 : Int) (P0_1_ : Nat → Prop) (A0_1 : Option Addr) (c0_1 : Nat) (l0_1 : List (S65)) (r : List (S29)) (w : World) (hs0_1 : Kd.V k65 65 w w.heap.size (fun k_ => P0_1_ k_) (.slice A0_1 l0_1.length c0_1) l0_1) (h : impl_Root_ptrs.f k a0_0 l0_1 = some r) :
  Calls Try.prog 79 #[.agg #[.int .i64 a0_0, .slice A0_1 l0_1.length c0_1]] w fun e w' => ∃ v0_ : Value, e = .returned (v0_) ∧ Kd.N k29 29 w' w.heap.size (fun k_ => (P0_1_ k_ ∨ w.heap.size ≤ k_)) v0_ r ∧ Below w.heap.size w w' := by
 have hu57 := Try.underlying57
 have hu65 := Try.underlying65
 have HO0_1 := Az.mk (show Kd.V k65 65 w w.heap.size (fun k_ => (P0_1_ k_ ∨ w.heap.size ≤ k_)) (.slice A0_1 l0_1.length c0_1) l0_1 from Kd.V_mono hs0_1 (fun k_ hk => .inl hk))
 have HB := Az.mk (Below.refl w.heap.size w)
 have H : (impl_Root_ptrs.l0 k ([] : List (S29)) l0_1 (l0_1.length : Int) 0) = some r := h
 clear h
 have H' := Az.mk H
 clear H
 go_enter Try.func79, Try.ntmps79
 go_wp2_with (first | ((with_reducible refine zqg (N := 1) rfl ?_); refine zqb ?hg (N := 1) ?hd (cs := #[.int .i64 a0_0, .slice A0_1 l0_1.length c0_1]) (t := 57) ?hr ?_; (case hd => rfl); (case hg => rfl); (case hr => first | (go_simp; done) | (go_simp; rfl)); intro gb505 hg w2 hbox hb; have n0_ := Az.mk (Kd.V_below (Kd.V_elderB (by (with_reducible repeat (first | apply Kd.V_alloc | apply Kd.V_drewN | apply Kd.V_drew)); exact HO0_1.out) gb505 (Nat.le_of_eq hg.symm)) hb); have n1_ := Az.mk (below_step zB hb); have n2_ := Az.mk (hbox); have n3_ := Az.mk ((by rw [hg]; exact (below_size zB) : w.heap.size ≤ gb505)); have n4_ := Az.mk ((by rw [hg]; exact (below_size zB) : w.heap.size ≤ gb505)); clear HO0_1; clear HB; have HO0_1 := n0_; have HB := n1_; have BK505 := n2_; have GW505 := n3_; have GE505 := n4_; clear n0_ n1_ n2_ n3_ n4_; clear hb hbox hg; have hcz3_0 : w2.cell? ⟨gb505, 0, none⟩ = some (.int .i64 a0_0) := (zq4 BK505.out 0).trans rfl; have hcz3_1 : w2.cell? ⟨gb505, 1, none⟩ = some (.slice A0_1 l0_1.length c0_1) := (zq4 BK505.out 1).trans rfl; have hfz3_0 := zq5 BK505.out 0; have hfz3_1 := zq5 BK505.out 1))
 go_loopg [3, 9] k (fun kq v3 v9 w' => ∃ (x3_1 : List (S29)) (x9_1 : Int), v9 = .int .i64 x9_1 ∧ Az (impl_Root_ptrs.l0 kq x3_1 l0_1 (l0_1.length : Int) x9_1 = some r) ∧ Az (kq ≤ k) ∧ Az (Kd.N k29 29 w' w.heap.size (fun k_ => (P0_1_ k_ ∨ w.heap.size ≤ k_) ∧ k_ ≠ gb505) v3 x3_1) ∧ Az (Kd.V k65 65 w' w.heap.size (fun k_ => (P0_1_ k_ ∨ w.heap.size ≤ k_) ∧ some k_ ≠ (v3 : Value).ownBlock ∧ k_ ≠ gb505) (.slice A0_1 l0_1.length c0_1) l0_1) ∧ Az (Kd.V k65 65 w' w.heap.size (fun k_ => (P0_1_ k_ ∨ w.heap.size ≤ k_) ∧ some k_ ≠ (v3 : Value).ownBlock ∧ k_ ≠ gb505) (.slice A0_1 l0_1.length c0_1) l0_1) ∧ Az (w'.heap[gb505]? = some (.cells #[.int .i64 a0_0, (.slice A0_1 l0_1.length c0_1)] 57 (0, 0))) ∧ Az (Below w.heap.size w w'))
 case atStart => exact ⟨(([] : List (S29))), (0), (by first | rfl | (simp; done) | (simp [*]; done)), H', ⟨Nat.le_refl _⟩, ⟨by first | exact Kd.S_nil _ _ _ _ _ | exact Kd.N_nil _ _ _ _ _ | exact Kd.V_nil _ _ _ _ _ | exact Kd.Q_nil _ _ _ _ _ | exact Kd.R_nil _ _ _ _ _⟩, ⟨by (with_reducible repeat (first | apply Kd.V_alloc | apply Kd.V_drewN | apply Kd.V_drew)); exact Kd.V_mono HO0_1.out (fun _ hk => ⟨hk.1, ⟨(by simp [Value.ownBlock]), hk.2⟩⟩)⟩, ⟨by (with_reducible repeat (first | apply Kd.V_alloc | apply Kd.V_drewN | apply Kd.V_drew)); exact Kd.V_mono HO0_1.out (fun _ hk => ⟨hk.1, ⟨(by simp [Value.ownBlock]), hk.2⟩⟩)⟩, ⟨by (with_reducible repeat (first | refine zq6 ?_ _ | refine zq8 ?_ | refine zq7 ?_ _)); exact BK505.out⟩, ⟨by repeat (first | (with_reducible first | exact HB.out | apply zq2 | apply zq1 | apply zqd | refine zq3 ?_ GE505.out) | exact HB.out)⟩⟩
 case round =>
  clear H'
  try clear p2
  try clear hcz3_0
  try clear hcz3_1
  try clear hfz3_0
  try clear hfz3_1
  obtain ⟨x3_1, x9_1, rfl, HA, HK1, HO_3, HO_7, HO_506001, BK505, HB⟩ := hrel
  cases gk with
  | zero => exact absurd HA.out (by simp [impl_Root_ptrs.l0])
  | succ k1 =>
   have H := HA.out
   clear HA
   simp only [impl_Root_ptrs.l0] at H
   by_cases c4 : x9_1 < (l0_1.length : Int)
   ·rw [if_pos c4] at H
    have c4b0 : decide (x9_1 < (l0_1.length : Int)) = true := decide_eq_true c4
    clear c4
    by_cases c5 : 0 ≤ x9_1
    ·rw [if_pos c5] at H
     have c5b0 : decide (0 ≤ x9_1) = true := decide_eq_true c5
     clear c5
     by_cases c6 : x9_1 < (l0_1.length : Int)
     ·rw [if_pos c6] at H
      have c6b0 : decide (x9_1 < (l0_1.length : Int)) = true := decide_eq_true c6
      clear c6
      by_cases c7 : x3_1.length + ((rd_T65 l0_1 x9_1).f1).length < 3518437208883
      ·rw [if_pos c7] at H
       have LMc7 := Az.mk c7
       clear c7
       obtain ⟨y508, hy508⟩ : ∃ y_ : List (S29), y_ = (x3_1 ++ ((rd_T65 l0_1 x9_1).f1)) := ⟨_, rfl⟩
       replace H : (impl_Root_ptrs.l0 k1 y508 l0_1 (l0_1.length : Int) (wrap64 (x9_1 + 1))) = some r := by first | (rw [hy508]; with_reducible exact H) | (have H2_ := (Option.bind_some _ _).symm.trans H; rw [hy508]; with_reducible exact H2_) | (have H2_ := (Option.bind_some _ _).symm.trans H; with_reducible exact H2_) | with_reducible exact H | (rw [hy508]; exact H) | exact H
       have Ny508 := Az.mk hy508
       clear hy508
       have H' := Az.mk H
       clear H
       have p506 : 0 ≤ (x9_1 : Int) := of_decide_eq_true (by first | (with_reducible assumption) | assumption)
       have q506 : x9_1 < (l0_1.length : Int) := of_decide_eq_true (by first | (with_reducible assumption) | assumption)
       obtain ⟨ad506, A506_1, c506_1, e506, hx506_0, hx506_1, hl506_1, hi506_1⟩ := at_T65 (Kd.V_reads' HO_7.out).2.2 x9_1 p506 q506
       cases e506
       obtain ⟨ce506, hce506, hMe506, hcc506⟩ := Kd.V_get HO_7.out z65 x9_1 p506 (by first | exact q506 | exact of_decide_eq_true (by first | (with_reducible assumption) | assumption) | (have e_ := (Kd.V_reads' HO_7.out).1; omega))
       obtain ⟨ua506_1, uc506_1, rfl, ul506_1, ge506_1⟩ := k65_openF hMe506
       have hv506_1 := hcc506 1 _ rfl
       rw [add_field _ _ 1 (by omega)] at hv506_1
       replace hv506_1 := Option.some.inj (hv506_1.symm.trans hx506_1)
       injection hv506_1 with hva_ hvn_ hvc_
       rw [hva_] at ge506_1
       rw [hvc_] at ul506_1
       have HL506_1 := Az.mk (show Kd.V k29 29 _ w.heap.size _ _ ((rd_T65 l0_1 x9_1).f1) from Kd.V_mk ul506_1 ge506_1)
       clear hva_ hvn_ hvc_ ge506_1 ul506_1
       clear hcc506 hce506
       have HR506_1 := Az.mk hi506_1
       have HC506_1 := Az.mk hl506_1
       clear hi506_1 hl506_1
       replace p506 := eq_true p506
       replace q506 := eq_true q506
       go_wp2_with (first | ((with_reducible refine zqg (N := 5) rfl ?_); refine zqb ?hg (N := 5) ?hd (cs := #[.string (⟨#[]⟩ : ByteArray), .slice none 0 0]) (t := 65) ?hr ?_; (case hd => rfl); (case hg => rfl); (case hr => first | (go_simp; done) | (go_simp; rfl)); intro gb507 hg w8 hbox hb; have n0_ := Az.mk (Kd.N_below (Kd.N_elderB (by (with_reducible repeat (first | apply Kd.N_alloc | apply Kd.N_drewN | apply Kd.N_drew)); exact HO_3.out) gb507 (Nat.le_of_eq hg.symm)) hb); have n1_ := Az.mk (Kd.V_below (Kd.V_elderB (by (with_reducible repeat (first | apply Kd.V_alloc | apply Kd.V_drewN | apply Kd.V_drew)); exact HO_7.out) gb507 (Nat.le_of_eq hg.symm)) hb); have n2_ := Az.mk (Kd.V_below (Kd.V_elderB (by (with_reducible repeat (first | apply Kd.V_alloc | apply Kd.V_drewN | apply Kd.V_drew)); exact HO_506001.out) gb507 (Nat.le_of_eq hg.symm)) hb); have n3_ := Az.mk (Kd.V_below (Kd.V_elderB (by (with_reducible repeat (first | apply Kd.V_alloc | apply Kd.V_drewN | apply Kd.V_drew)); exact HL506_1.out) gb507 (Nat.le_of_eq hg.symm)) hb); have n4_ := Az.mk (blk_below (g := gb505) (o := .cells #[.int .i64 a0_0, .slice (some ad506) l0_1.length c0_1] 57 (0, 0)) (by (with_reducible repeat (first | refine zq6 ?_ _ | refine zq8 ?_ | refine zq7 ?_ _)); exact BK505.out) hb); have n5_ := Az.mk (Kd.C_below (by repeat (first | (with_reducible exact HR506_1.out) | (with_reducible refine Kd.C_alloc ?_ _) | (with_reducible refine Kd.C_drewN ?_ _) | (with_reducible refine Kd.C_drew ?_) | exact HR506_1.out)) hb); have n6_ := Az.mk (below_step (by repeat (first | (with_reducible first | exact HB.out | apply zq2 | apply zq1 | apply zqd | refine zq3 ?_ GE505.out) | exact HB.out)) hb); have n7_ := Az.mk (hbox); have n8_ := Az.mk ((by rw [hg]; exact (below_size (by repeat (first | (with_reducible first | exact HB.out | apply zq2 | apply zq1 | apply zqd | refine zq3 ?_ GE505.out) | exact HB.out))) : w.heap.size ≤ gb507)); have n9_ := Az.mk ((by rw [hg]; exact (below_size (by repeat (first | (with_reducible first | exact HB.out | apply zq2 | apply zq1 | apply zqd | refine zq3 ?_ GE505.out) | exact HB.out))) : w.heap.size ≤ gb507)); have n10_ := Az.mk ((by rw [hg]; exact Nat.ne_of_lt (blk_lt (g := gb505) (o := .cells #[.int .i64 a0_0, .slice (some ad506) l0_1.length c0_1] 57 (0, 0)) (by (with_reducible repeat (first | refine zq6 ?_ _ | refine zq8 ?_ | refine zq7 ?_ _)); exact BK505.out)) : gb505 ≠ gb507)); have n11_ := Az.mk ((by rw [hg]; exact Nat.ne_of_gt (blk_lt (g := gb505) (o := .cells #[.int .i64 a0_0, .slice (some ad506) l0_1.length c0_1] 57 (0, 0)) (by (with_reducible repeat (first | refine zq6 ?_ _ | refine zq8 ?_ | refine zq7 ?_ _)); exact BK505.out)) : gb507 ≠ gb505)); clear HO_3; clear HO_7; clear HO_506001; clear HL506_1; clear BK505; clear HR506_1; clear HB; have HO_3 := n0_; have HO_7 := n1_; have HO_506001 := n2_; have HL506_1 := n3_; have BK505 := n4_; have HR506_1 := n5_; have HB := n6_; have BK507 := n7_; have GW507 := n8_; have GE507 := n9_; have NB505_507 := n10_; have NB507_505 := n11_; clear n0_ n1_ n2_ n3_ n4_ n5_ n6_ n7_ n8_ n9_ n10_ n11_; clear hb hbox hg; have hnb9 := NB507_505.out; have hnc9 := NB505_507.out; have hcz10_0 : w8.cell? ⟨gb507, 0, none⟩ = some (.string (⟨#[]⟩ : ByteArray)) := (zq4 BK507.out 0).trans rfl; have hcz10_1 : w8.cell? ⟨gb507, 1, none⟩ = some (.slice none 0 0) := (zq4 BK507.out 1).trans rfl; have hfz10_0 := zq5 BK507.out 0; have hfz10_1 := zq5 BK507.out 1) | ((with_reducible refine gate_builtin (b := .append) (xs := #[.tmp 13, .tmp 15]) rfl ?_); at_builtin; refine Kd.N_append_rows k29 (w0 := w) w.heap.size rfl (.tmp 13) (.tmp 15) 63 29 (.agg #[(.int .i64 0), (.int .i64 0), (.slice none 0 0)]) 40 rfl Try.underlying63 info29 rfl (by decide) (by omega) u3 x3_1 ((rd_T65 l0_1 x9_1).f1) _ _ _ (fun k_ => (P0_1_ k_ ∨ w.heap.size ≤ k_) ∧ k_ ≠ gb505 ∧ k_ ≠ gb507) (fun k_ => ((fun k_ => (P0_1_ k_ ∨ w.heap.size ≤ k_) ∧ k_ ≠ gb505 ∧ k_ ≠ gb507)) k_ ∧ some k_ ≠ (u3 : Value).ownBlock) rfl rfl ?aO ?aR (fun _ hk => hk) ?aF ?aB ?aS ?aL ?_; (case aR => exact (by skip; exact Kd.V_F (Kd.V_mono (ok' := (fun k_ => ((fun k_ => (P0_1_ k_ ∨ w.heap.size ≤ k_) ∧ k_ ≠ gb505 ∧ k_ ≠ gb507)) k_ ∧ some k_ ≠ (u3 : Value).ownBlock)) ((Kd.V_far (p := ⟨gb507, 1, none⟩) (Kd.V_far (p := ⟨gb507, 0, none⟩) (Kd.V_mono HL506_1.out (fun k_ hk => (⟨hk, hk.2⟩ : _ ∧ k_ ≠ gb507))) (fun _ hk => hk.2) (.string ((rd_T65 l0_1 x9_1).f0))) (fun _ hk => hk.2) (.slice A506_1 ((rd_T65 l0_1 x9_1).f1).length c506_1))) (fun k_ hk => ⟨⟨hk.1.1.1, ⟨hk.1.1.2.2, hk.1.2⟩⟩, hk.1.1.2.1⟩)))); (case aB => exact (by repeat (first | (with_reducible first | exact HB.out | apply zq2 | apply zq1 | apply zqd | refine zq3 ?_ GE505.out | refine zq3 ?_ GE507.out) | exact HB.out))); (case aF => exact (fun k_ hk => ⟨(.inr (Nat.le_trans (below_size (by repeat (first | (with_reducible first | exact HB.out | apply zq2 | apply zq1 | apply zqd | refine zq3 ?_ GE505.out | refine zq3 ?_ GE507.out) | exact HB.out))) hk)), Kd.freshB (g := gb505) (o := .cells #[.int .i64 a0_0, .slice (some ad506) l0_1.length c0_1] 57 (0, 0)) (by (with_reducible repeat (first | refine zq6 ?_ _ | refine zq8 ?_ | refine zq7 ?_ _)); refine blk_far ?_ NB505_507.out _; (with_reducible repeat (first | refine zq6 ?_ _ | refine zq8 ?_ | refine zq7 ?_ _)); refine blk_far ?_ NB505_507.out _; (with_reducible repeat (first | refine zq6 ?_ _ | refine zq8 ?_ | refine zq7 ?_ _)); exact BK505.out) k_ hk, Kd.freshB (g := gb507) (o := .cells #[.string ((rd_T65 l0_1 x9_1).f0), .slice A506_1 ((rd_T65 l0_1 x9_1).f1).length c506_1] 65 (0, 0)) (by (with_reducible repeat (first | refine zq6 ?_ _ | refine zq8 ?_ | refine zq7 ?_ _)); refine blk_put (cs := #[.string ((rd_T65 l0_1 x9_1).f0), .slice none 0 0]) ?_ 1 _ rfl; (with_reducible repeat (first | refine zq6 ?_ _ | refine zq8 ?_ | refine zq7 ?_ _)); refine blk_put (cs := #[.string (⟨#[]⟩ : ByteArray), .slice none 0 0]) ?_ 0 _ rfl; (with_reducible repeat (first | refine zq6 ?_ _ | refine zq8 ?_ | refine zq7 ?_ _)); exact BK507.out) k_ hk⟩)); (case aO => exact (by (with_reducible repeat (first | apply Kd.N_alloc | apply Kd.N_drewN | apply Kd.N_drew)); exact Kd.N_mono (Kd.N_far (p := ⟨gb507, 1, none⟩) (Kd.N_far (p := ⟨gb507, 0, none⟩) (Kd.N_mono HO_3.out (fun k_ hk => (⟨hk, hk.2⟩ : _ ∧ k_ ≠ gb507))) (fun _ hk => hk.2) (.string ((rd_T65 l0_1 x9_1).f0))) (fun _ hk => hk.2) (.slice A506_1 ((rd_T65 l0_1 x9_1).f1).length c506_1)) (fun _ hk => ⟨hk.1.1.1, ⟨hk.1.1.2, hk.1.2⟩⟩))); (case aS => exact (below_size (by repeat (first | (with_reducible first | exact HB.out | apply zq2 | apply zq1 | apply zqd | refine zq3 ?_ GE505.out | refine zq3 ?_ GE507.out) | exact HB.out)))); (case aL => have := LMc7.out; omega); intro v509 w11 ho hb hg hat; rw [← Ny508.out] at ho; have n0_ := Az.mk (Kd.V_afterv (ok := (fun k_ => (P0_1_ k_ ∨ w.heap.size ≤ k_) ∧ k_ ≠ gb505 ∧ k_ ≠ gb507)) (by (with_reducible repeat (first | apply Kd.V_alloc | apply Kd.V_drewN | apply Kd.V_drew)); exact Kd.V_mono (Kd.V_far (p := ⟨gb507, 1, none⟩) (Kd.V_far (p := ⟨gb507, 0, none⟩) (Kd.V_mono HO_7.out (fun k_ hk => (⟨hk, hk.2⟩ : _ ∧ k_ ≠ gb507))) (fun _ hk => hk.2) (.string ((rd_T65 l0_1 x9_1).f0))) (fun _ hk => hk.2) (.slice A506_1 ((rd_T65 l0_1 x9_1).f1).length c506_1)) (fun _ hk => ⟨⟨hk.1.1.1, ⟨hk.1.1.2.2, hk.1.2⟩⟩, hk.1.1.2.1⟩)) hg hat); have n1_ := Az.mk (Kd.V_afterv (ok := (fun k_ => (P0_1_ k_ ∨ w.heap.size ≤ k_) ∧ k_ ≠ gb505 ∧ k_ ≠ gb507)) (by (with_reducible repeat (first | apply Kd.V_alloc | apply Kd.V_drewN | apply Kd.V_drew)); exact Kd.V_mono (Kd.V_far (p := ⟨gb507, 1, none⟩) (Kd.V_far (p := ⟨gb507, 0, none⟩) (Kd.V_mono HO_506001.out (fun k_ hk => (⟨hk, hk.2⟩ : _ ∧ k_ ≠ gb507))) (fun _ hk => hk.2) (.string ((rd_T65 l0_1 x9_1).f0))) (fun _ hk => hk.2) (.slice A506_1 ((rd_T65 l0_1 x9_1).f1).length c506_1)) (fun _ hk => ⟨⟨hk.1.1.1, ⟨hk.1.1.2.2, hk.1.2⟩⟩, hk.1.1.2.1⟩)) hg hat); have n2_ := Az.mk (blk_grown (g := gb505) (o := .cells #[.int .i64 a0_0, .slice (some ad506) l0_1.length c0_1] 57 (0, 0)) (by (with_reducible repeat (first | refine zq6 ?_ _ | refine zq8 ?_ | refine zq7 ?_ _)); refine blk_far ?_ NB505_507.out _; (with_reducible repeat (first | refine zq6 ?_ _ | refine zq8 ?_ | refine zq7 ?_ _)); refine blk_far ?_ NB505_507.out _; (with_reducible repeat (first | refine zq6 ?_ _ | refine zq8 ?_ | refine zq7 ?_ _)); exact BK505.out) hg (Kd.N_ne HO_3.out BK505.out (by decide))); have n3_ := Az.mk (Kd.V_afterv (ok := (fun k_ => (P0_1_ k_ ∨ w.heap.size ≤ k_) ∧ k_ ≠ gb505 ∧ k_ ≠ gb507)) (by (with_reducible repeat (first | apply Kd.V_alloc | apply Kd.V_drewN | apply Kd.V_drew)); exact Kd.V_mono (Kd.V_far (p := ⟨gb507, 1, none⟩) (Kd.V_far (p := ⟨gb507, 0, none⟩) (Kd.V_mono HL506_1.out (fun k_ hk => (⟨hk, hk.2⟩ : _ ∧ k_ ≠ gb507))) (fun _ hk => hk.2) (.string ((rd_T65 l0_1 x9_1).f0))) (fun _ hk => hk.2) (.slice A506_1 ((rd_T65 l0_1 x9_1).f1).length c506_1)) (fun _ hk => ⟨⟨hk.1.1.1, ⟨hk.1.1.2.2, hk.1.2⟩⟩, hk.1.1.2.1⟩)) hg hat); have n4_ := Az.mk (blk_grown (g := gb507) (o := .cells #[.string ((rd_T65 l0_1 x9_1).f0), .slice A506_1 ((rd_T65 l0_1 x9_1).f1).length c506_1] 65 (0, 0)) (by (with_reducible repeat (first | refine zq6 ?_ _ | refine zq8 ?_ | refine zq7 ?_ _)); refine blk_put (cs := #[.string ((rd_T65 l0_1 x9_1).f0), .slice none 0 0]) ?_ 1 _ rfl; (with_reducible repeat (first | refine zq6 ?_ _ | refine zq8 ?_ | refine zq7 ?_ _)); refine blk_put (cs := #[.string (⟨#[]⟩ : ByteArray), .slice none 0 0]) ?_ 0 _ rfl; (with_reducible repeat (first | refine zq6 ?_ _ | refine zq8 ?_ | refine zq7 ?_ _)); exact BK507.out) hg (Kd.N_ne HO_3.out BK507.out (by decide))); have n5_ := Az.mk (hb); have n6_ := Az.mk (ho); clear HO_7; clear HO_506001; clear BK505; clear HL506_1; clear BK507; clear HB; clear HO_3; have HO_7 := n0_; have HO_506001 := n1_; have BK505 := n2_; have HL506_1 := n3_; have BK507 := n4_; have HB := n5_; have HO510 := n6_; clear n0_ n1_ n2_ n3_ n4_ n5_ n6_; clear ho hb hg hat))
       go_roundg k1
       case measure => have := HK1.out; omega
       case rel => exact ⟨(y508), (wrap64 (x9_1 + 1)), (by first | rfl | (simp; done) | (simp [*]; done)), H', ⟨by have := HK1.out; omega⟩, ⟨by (with_reducible repeat (first | apply Kd.N_alloc | apply Kd.N_drewN | apply Kd.N_drew)); exact Kd.N_mono HO510.out (fun _ hk => ⟨hk.1, hk.2.1⟩)⟩, ⟨by (with_reducible repeat (first | apply Kd.V_alloc | apply Kd.V_drewN | apply Kd.V_drew)); exact Kd.V_mono HO_7.out (fun _ hk => ⟨hk.1.1, ⟨hk.2, hk.1.2.1⟩⟩)⟩, ⟨by (with_reducible repeat (first | apply Kd.V_alloc | apply Kd.V_drewN | apply Kd.V_drew)); exact Kd.V_mono HO_506001.out (fun _ hk => ⟨hk.1.1, ⟨hk.2, hk.1.2.1⟩⟩)⟩, ⟨by (with_reducible repeat (first | refine zq6 ?_ _ | refine zq8 ?_ | refine zq7 ?_ _)); exact BK505.out⟩, ⟨by repeat (first | (with_reducible first | exact HB.out | apply zq2 | apply zq1 | apply zqd | refine zq3 ?_ GE505.out | refine zq3 ?_ GE507.out) | exact HB.out)⟩⟩
      ·rw [if_neg c7] at H
       exact absurd H (by simp)
     ·rw [if_neg c6] at H
      exact absurd H (by simp)
    ·rw [if_neg c5] at H
     exact absurd H (by simp)
   ·rw [if_neg c4] at H
    have c4b0 : decide (x9_1 < (l0_1.length : Int)) = false := decide_eq_false c4
    clear c4
    obtain rfl := Option.some.inj H
    go_wp2
    go_ret
    exact ⟨_, by first | rfl | (simp [errW_none, errW_some] <;> rfl) | (simp [*, errW_none, errW_some] <;> rfl), by (with_reducible repeat (first | apply Kd.N_alloc | apply Kd.N_drewN | apply Kd.N_drew)); exact Kd.N_mono HO_3.out (fun _ hk => hk.1), by repeat (first | (with_reducible first | exact HB.out | apply zq2 | apply zq1 | apply zqd | refine zq3 ?_ GE505.out) | exact HB.out)⟩
end Go.Proofs.Ytkoimmeghdbodaa.Print
namespace Go.Proofs.Ytkoimmeghdbodaa.Print
open Go.RowKit Go.Proofs.YtkoimmeghdbodaaW.PrintWords Go.Proofs.YtkoimmeghdbodaaW.PrintLast Go.Proofs.YtkoimmeghdbodaaW.PrintMore
attribute [local go_sem] max2_int min2_int max_two min_two max_three min_three max_four min_four
theorem eqA37 (d : Nat) (w : World) (x0 y0 : Int) (x1 y1 : Int) :
  (Op.equalIn (d + 2) 37 (.agg #[.int .i64 x0, .int .i64 x1]) (.agg #[.int .i64 y0, .int .i64 y1])).run Try.prog w = .ok (x0 == y0 && (x1 == y1)) w := by
 refine eqA_of Try.underlying37 (by kernel_rfl) ?_
 refine eqf_cons (by rfl) (by go_simp; rfl) (by go_simp; rfl) (by go_simp) ?_
 exact eqf_last (by rfl) (by go_simp; rfl) (by go_simp; rfl) (by go_simp)
end Go.Proofs.Ytkoimmeghdbodaa.Print
namespace Go.Proofs.Ytkoimmeghdbodaa.Print
open Go.RowKit Go.Proofs.YtkoimmeghdbodaaW.PrintWords Go.Proofs.YtkoimmeghdbodaaW.PrintLast Go.Proofs.YtkoimmeghdbodaaW.PrintMore
attribute [local go_sem] max2_int min2_int max_two min_two max_three min_three max_four min_four
attribute [local go_sem high] eqA37
def slices_Equal_Place.l0 : Nat → List (S37) → List (S37) → Int → Int → Option (Bool)
 | 0, _, _, _, _ => none
 | k + 1, x0, x1, x12, x13 => if x13 < x12 then (if 0 ≤ x13 then (if x13 < (x0.length : Int) then (if x13 < (x1.length : Int) then (if (!(((rd_T37 x0 x13).f0) == ((rd_T37 x1 x13).f0)) || (!(((rd_T37 x0 x13).f1) == ((rd_T37 x1 x13).f1)))) = true then (some false) else (slices_Equal_Place.l0 k x0 x1 x12 (wrap64 (x13 + 1)))) else (none)) else (none)) else (none)) else (some true)
def slices_Equal_Place.f (k : Nat) (l0 : List (S37)) (l1 : List (S37)) : Option (Bool) := if (l0.length : Int) = (l1.length : Int) then (slices_Equal_Place.l0 k l0 l1 (l0.length : Int) 0) else (some false)
set_option maxHeartbeats 8000000 in
set_option maxRecDepth 100000 in
theorem slices_Equal_Place.calls (k : Nat) (A0 : Option Addr) (c0 : Nat) (l0 : List (S37)) (A1 : Option Addr) (c1 : Nat) (l1 : List (S37)) (r : Bool) (w : World) (hr0 : Kd.C k37 w A0 l0.length l0) (hc0 : l0.length ≤ c0) (hr1 : Kd.C k37 w A1 l1.length l1) (hc1 : l1.length ≤ c1) (h : slices_Equal_Place.f k l0 l1 = some r) :
  Calls Try.prog 106 #[.slice A0 l0.length c0, .slice A1 l1.length c1] w fun e w' => e = .returned (.bool r) ∧ Drawn0 w w' := by
 have hu37 := Try.underlying37
 have HR0 := Az.mk hr0
 have HC0 := Az.mk hc0
 clear hr0 hc0
 have HR1 := Az.mk hr1
 have HC1 := Az.mk hc1
 clear hr1 hc1
 have H : (if (l0.length : Int) = (l1.length : Int) then (slices_Equal_Place.l0 k l0 l1 (l0.length : Int) 0) else (some false)) = some r := h
 clear h
 by_cases c3 : (l0.length : Int) = (l1.length : Int)
 ·rw [if_pos c3] at H
  have c3b0 : ((l0.length : Int) == (l1.length : Int)) = true := beq_iff_eq.mpr c3
  have c3b1 : ((l0.length : Int) != (l1.length : Int)) = false := bne_eq_false_iff_eq.mpr c3
  have c3b2 : (l0.length == l1.length) = true := by first | simpa using c3 | (simp at c3 ⊢; omega)
  clear c3
  have H' := Az.mk H
  clear H
  go_enter Try.func106, Try.ntmps106
  go_wp2
  repeat (go_quiet (fail); try go_wp2)
  go_loopg [13] k (fun kq v13 w' => ∃ (x13_1 : Int), v13 = .int .i64 x13_1 ∧ Az (slices_Equal_Place.l0 kq l0 l1 (l0.length : Int) x13_1 = some r) ∧ Az (kq ≤ k) ∧ Drawn0 w w')
  case atStart => exact ⟨(0), (by first | rfl | (simp; done) | (simp [*]; done)), H', ⟨Nat.le_refl _⟩, by repeat (first | exact Drawn0.refl _ | apply Drawn0.step)⟩
  case round =>
   clear H'
   try clear c1
   try clear p2
   try clear c3
   try clear c3b0
   try clear c3b1
   try clear c3b2
   obtain ⟨x13_1, rfl, HA, HK1, ⟨m1, rfl⟩⟩ := hrel
   cases gk with
   | zero => exact absurd HA.out (by simp [slices_Equal_Place.l0])
   | succ k1 =>
    have H := HA.out
    clear HA
    simp only [slices_Equal_Place.l0] at H
    by_cases c4 : x13_1 < (l0.length : Int)
    ·rw [if_pos c4] at H
     have c4b0 : decide (x13_1 < (l0.length : Int)) = true := decide_eq_true c4
     clear c4
     by_cases c5 : 0 ≤ x13_1
     ·rw [if_pos c5] at H
      have c5b0 : decide (0 ≤ x13_1) = true := decide_eq_true c5
      clear c5
      by_cases c6 : x13_1 < (l0.length : Int)
      ·rw [if_pos c6] at H
       have c6b0 : decide (x13_1 < (l0.length : Int)) = true := decide_eq_true c6
       clear c6
       by_cases c7 : x13_1 < (l1.length : Int)
       ·rw [if_pos c7] at H
        have c7b0 : decide (x13_1 < (l1.length : Int)) = true := decide_eq_true c7
        clear c7
        by_cases c8 : (!(((rd_T37 l0 x13_1).f0) == ((rd_T37 l1 x13_1).f0)) || (!(((rd_T37 l0 x13_1).f1) == ((rd_T37 l1 x13_1).f1)))) = true
        ·rw [if_pos c8] at H
         have c8b0 : (!(((rd_T37 l0 x13_1).f0) == ((rd_T37 l1 x13_1).f0)) || (!(((rd_T37 l0 x13_1).f1) == ((rd_T37 l1 x13_1).f1)))) = true := c8
         clear c8
         obtain rfl := Option.some.inj H
         have p511 : 0 ≤ (x13_1 : Int) := of_decide_eq_true (by first | (with_reducible assumption) | assumption)
         have q511 : x13_1 < (l0.length : Int) := of_decide_eq_true (by first | (with_reducible assumption) | assumption)
         obtain ⟨ad511, e511, hx511_0, hx511_1⟩ := at_T37 HR0.out x13_1 p511 q511
         cases e511
         replace p511 := eq_true p511
         replace q511 := eq_true q511
         have p512 : 0 ≤ (x13_1 : Int) := of_decide_eq_true (by first | (with_reducible assumption) | assumption)
         have q512 : x13_1 < (l1.length : Int) := of_decide_eq_true (by first | (with_reducible assumption) | assumption)
         obtain ⟨ad512, e512, hx512_0, hx512_1⟩ := at_T37 HR1.out x13_1 p512 q512
         cases e512
         replace p512 := eq_true p512
         replace q512 := eq_true q512
         go_wp2
         repeat (go_quiet (fail); try go_wp2)
         go_ret
         exact ⟨by first | rfl | (simp; done) | (simp [*]; done), by repeat (first | exact Drawn0.refl _ | apply Drawn0.step)⟩
        ·rw [if_neg c8] at H
         have c8b0 : (!(((rd_T37 l0 x13_1).f0) == ((rd_T37 l1 x13_1).f0)) || (!(((rd_T37 l0 x13_1).f1) == ((rd_T37 l1 x13_1).f1)))) = false := by simpa using c8
         clear c8
         have H' := Az.mk H
         clear H
         have p511 : 0 ≤ (x13_1 : Int) := of_decide_eq_true (by first | (with_reducible assumption) | assumption)
         have q511 : x13_1 < (l0.length : Int) := of_decide_eq_true (by first | (with_reducible assumption) | assumption)
         obtain ⟨ad511, e511, hx511_0, hx511_1⟩ := at_T37 HR0.out x13_1 p511 q511
         cases e511
         replace p511 := eq_true p511
         replace q511 := eq_true q511
         have p512 : 0 ≤ (x13_1 : Int) := of_decide_eq_true (by first | (with_reducible assumption) | assumption)
         have q512 : x13_1 < (l1.length : Int) := of_decide_eq_true (by first | (with_reducible assumption) | assumption)
         obtain ⟨ad512, e512, hx512_0, hx512_1⟩ := at_T37 HR1.out x13_1 p512 q512
         cases e512
         replace p512 := eq_true p512
         replace q512 := eq_true q512
         go_wp2
         repeat (go_quiet (fail); try go_wp2)
         go_roundg k1
         case measure => have := HK1.out; omega
         case rel => exact ⟨(wrap64 (x13_1 + 1)), (by first | rfl | (simp; done) | (simp [*]; done)), H', ⟨by have := HK1.out; omega⟩, by repeat (first | exact Drawn0.refl _ | apply Drawn0.step)⟩
       ·rw [if_neg c7] at H
        exact absurd H (by simp)
      ·rw [if_neg c6] at H
       exact absurd H (by simp)
     ·rw [if_neg c5] at H
      exact absurd H (by simp)
    ·rw [if_neg c4] at H
     have c4b0 : decide (x13_1 < (l0.length : Int)) = false := decide_eq_false c4
     clear c4
     obtain rfl := Option.some.inj H
     go_wp2
     repeat (go_quiet (fail); try go_wp2)
     go_ret
     exact ⟨by first | rfl | (simp; done) | (simp [*]; done), by repeat (first | exact Drawn0.refl _ | apply Drawn0.step)⟩
 ·rw [if_neg c3] at H
  have c3b0 : ((l0.length : Int) == (l1.length : Int)) = false := beq_eq_false_iff_ne.mpr c3
  have c3b1 : ((l0.length : Int) != (l1.length : Int)) = true := bne_iff_ne.mpr c3
  have c3b2 : (l0.length == l1.length) = false := by first | simpa using c3 | (simp at c3 ⊢; omega)
  obtain rfl := Option.some.inj H
  go_enter Try.func106, Try.ntmps106
  go_wp2
  repeat (go_quiet (fail); try go_wp2)
  go_ret
  exact ⟨by first | rfl | (simp; done) | (simp [*]; done), by repeat (first | exact Drawn0.refl _ | apply Drawn0.step)⟩
def impl_samePtr.f (k : Nat) (a0_0 : Int) (a0_1 : Int) (l0_2 : List (S37)) (a1_0 : Int) (a1_1 : Int) (l1_2 : List (S37)) : Option (Bool) := if a0_0 = a1_0 then (if a0_1 = a1_1 then ((slices_Equal_Place.f k l0_2 l1_2).bind fun t515 => (some t515)) else (some false)) else (some false)
set_option maxHeartbeats 8000000 in
set_option maxRecDepth 100000 in
theorem impl_samePtr.calls (k : Nat) (a0_0 : Int) (a0_1 : Int) (A0_2 : Option Addr) (c0_2 : Nat) (l0_2 : List (S37)) (a1_0 : Int) (a1_1 : Int) (A1_2 : Option Addr) (c1_2 : Nat) (l1_2 : List (S37)) (r : Bool) (w : World) (hr0_2 : Kd.C k37 w A0_2 l0_2.length l0_2) (hc0_2 : l0_2.length ≤ c0_2) (hr1_2 : Kd.C k37 w A1_2 l1_2.length l1_2) (hc1_2 : l1_2.length ≤ c1_2) (h : impl_samePtr.f k a0_0 a0_1 l0_2 a1_0 a1_1 l1_2 = some r) :
  Calls Try.prog 80 #[.agg #[.int .i64 a0_0, .int .i64 a0_1, .slice A0_2 l0_2.length c0_2], .agg #[.int .i64 a1_0, .int .i64 a1_1, .slice A1_2 l1_2.length c1_2]] w fun e w' => e = .returned (.bool r) ∧ Below w.heap.size w w' := by
 have hu29 := Try.underlying29
 have HR0_2 := Az.mk hr0_2
 have HC0_2 := Az.mk hc0_2
 clear hr0_2 hc0_2
 have HR1_2 := Az.mk hr1_2
 have HC1_2 := Az.mk hc1_2
 clear hr1_2 hc1_2
 have HB := Az.mk (Below.refl w.heap.size w)
 have H : (if a0_0 = a1_0 then (if a0_1 = a1_1 then ((slices_Equal_Place.f k l0_2 l1_2).bind fun t515 => (some t515)) else (some false)) else (some false)) = some r := h
 clear h
 by_cases c3 : a0_0 = a1_0
 ·rw [if_pos c3] at H
  have c3b0 : (a0_0 == a1_0) = true := beq_iff_eq.mpr c3
  have c3b1 : (a0_0 != a1_0) = false := bne_eq_false_iff_eq.mpr c3
  clear c3
  by_cases c4 : a0_1 = a1_1
  ·rw [if_pos c4] at H
   have c4b0 : (a0_1 == a1_1) = true := beq_iff_eq.mpr c4
   have c4b1 : (a0_1 != a1_1) = false := bne_eq_false_iff_eq.mpr c4
   clear c4
   replace H := Option.bind_eq_some_iff.mp H
   obtain ⟨t515, A50, H⟩ := H
   replace H : (some t515) = some r := H
   have A5 := Az.mk A50
   clear A50
   obtain rfl := Option.some.inj H
   go_enter Try.func80, Try.ntmps80
   go_wp2_with (first | ((with_reducible refine zqg (N := 2) rfl ?_); refine zqb ?hg (N := 2) ?hd (cs := #[.int .i64 a0_0, .int .i64 a0_1, .slice A0_2 l0_2.length c0_2]) (t := 29) ?hr ?_; (case hd => rfl); (case hg => rfl); (case hr => first | (go_simp; done) | (go_simp; rfl)); intro gb513 hg w6 hbox hb; have n0_ := Az.mk (below_step zB hb); have n1_ := Az.mk (hbox); have n2_ := Az.mk ((by rw [hg]; exact (below_size zB) : w.heap.size ≤ gb513)); have n3_ := Az.mk ((by rw [hg]; exact (below_size zB) : w.heap.size ≤ gb513)); clear HB; have HB := n0_; have BK513 := n1_; have GW513 := n2_; have GE513 := n3_; clear n0_ n1_ n2_ n3_; clear hb hbox hg) | ((with_reducible refine zqg (N := 3) rfl ?_); refine zqb ?hg (N := 3) ?hd (cs := #[.int .i64 a1_0, .int .i64 a1_1, .slice A1_2 l1_2.length c1_2]) (t := 29) ?hr ?_; (case hd => rfl); (case hg => rfl); (case hr => first | (go_simp; done) | (go_simp; rfl)); intro gb514 hg w7 hbox hb; have n0_ := Az.mk (blk_below (g := gb513) (o := .cells #[.int .i64 a0_0, .int .i64 a0_1, .slice A0_2 l0_2.length c0_2] 29 (0, 0)) (by (with_reducible repeat (first | refine zq6 ?_ _ | refine zq8 ?_ | refine zq7 ?_ _)); exact BK513.out) hb); have n1_ := Az.mk (below_step (by repeat (first | (with_reducible first | exact HB.out | apply zq2 | apply zq1 | apply zqd | refine zq3 ?_ GE513.out) | exact HB.out)) hb); have n2_ := Az.mk (hbox); have n3_ := Az.mk ((by rw [hg]; exact (below_size (by repeat (first | (with_reducible first | exact HB.out | apply zq2 | apply zq1 | apply zqd | refine zq3 ?_ GE513.out) | exact HB.out))) : w.heap.size ≤ gb514)); have n4_ := Az.mk ((by rw [hg]; exact (below_size (by repeat (first | (with_reducible first | exact HB.out | apply zq2 | apply zq1 | apply zqd | refine zq3 ?_ GE513.out) | exact HB.out))) : w.heap.size ≤ gb514)); have n5_ := Az.mk ((by rw [hg]; exact Nat.ne_of_lt (blk_lt (g := gb513) (o := .cells #[.int .i64 a0_0, .int .i64 a0_1, .slice A0_2 l0_2.length c0_2] 29 (0, 0)) (by (with_reducible repeat (first | refine zq6 ?_ _ | refine zq8 ?_ | refine zq7 ?_ _)); exact BK513.out)) : gb513 ≠ gb514)); have n6_ := Az.mk ((by rw [hg]; exact Nat.ne_of_gt (blk_lt (g := gb513) (o := .cells #[.int .i64 a0_0, .int .i64 a0_1, .slice A0_2 l0_2.length c0_2] 29 (0, 0)) (by (with_reducible repeat (first | refine zq6 ?_ _ | refine zq8 ?_ | refine zq7 ?_ _)); exact BK513.out)) : gb514 ≠ gb513)); clear BK513; clear HB; have BK513 := n0_; have HB := n1_; have BK514 := n2_; have GW514 := n3_; have GE514 := n4_; have NB513_514 := n5_; have NB514_513 := n6_; clear n0_ n1_ n2_ n3_ n4_ n5_ n6_; clear hb hbox hg; have hnb8 := NB513_514.out; have hnc8 := NB514_513.out; have hcz9_0 : w7.cell? ⟨gb513, 0, none⟩ = some (.int .i64 a0_0) := (zq4 BK513.out 0).trans rfl; have hcz9_1 : w7.cell? ⟨gb513, 1, none⟩ = some (.int .i64 a0_1) := (zq4 BK513.out 1).trans rfl; have hcz9_2 : w7.cell? ⟨gb513, 2, none⟩ = some (.slice A0_2 l0_2.length c0_2) := (zq4 BK513.out 2).trans rfl; have hfz9_0 := zq5 BK513.out 0; have hfz9_1 := zq5 BK513.out 1; have hfz9_2 := zq5 BK513.out 2; have hcz10_0 : w7.cell? ⟨gb514, 0, none⟩ = some (.int .i64 a1_0) := (zq4 BK514.out 0).trans rfl; have hcz10_1 : w7.cell? ⟨gb514, 1, none⟩ = some (.int .i64 a1_1) := (zq4 BK514.out 1).trans rfl; have hcz10_2 : w7.cell? ⟨gb514, 2, none⟩ = some (.slice A1_2 l1_2.length c1_2) := (zq4 BK514.out 2).trans rfl; have hfz10_0 := zq5 BK514.out 0; have hfz10_1 := zq5 BK514.out 1; have hfz10_2 := zq5 BK514.out 2) | (go_at_call 106; (with_reducible refine (slices_Equal_Place.calls k _ _ l0_2 _ _ l1_2 t515 _ ?side1 ?side2 ?side3 ?side4 A5.out).mono ?_); (case side1 => repeat (first | exact (Kd.C_below HR0_2.out HB.out) | (with_reducible refine Kd.C_alloc ?_ _) | (with_reducible refine Kd.C_drewN ?_ _) | (with_reducible refine Kd.C_drew ?_))); (case side2 => exact HC0_2.out); (case side3 => repeat (first | exact (Kd.C_below HR1_2.out HB.out) | (with_reducible refine Kd.C_alloc ?_ _) | (with_reducible refine Kd.C_drewN ?_ _) | (with_reducible refine Kd.C_drew ?_))); (case side4 => exact HC1_2.out); rintro e w' ⟨rfl, ⟨nd, rfl⟩⟩))
   go_ret
   exact ⟨by first | rfl | (simp [errW_none, errW_some] <;> rfl) | (simp [*, errW_none, errW_some] <;> rfl), by repeat (first | (with_reducible first | exact HB.out | apply zq2 | apply zq1 | apply zqd | refine zq3 ?_ GE513.out | refine zq3 ?_ GE514.out) | exact HB.out)⟩
  ·rw [if_neg c4] at H
   have c4b0 : (a0_1 == a1_1) = false := beq_eq_false_iff_ne.mpr c4
   have c4b1 : (a0_1 != a1_1) = true := bne_iff_ne.mpr c4
   obtain rfl := Option.some.inj H
   go_enter Try.func80, Try.ntmps80
   go_wp2_with (first | ((with_reducible refine zqg (N := 2) rfl ?_); refine zqb ?hg (N := 2) ?hd (cs := #[.int .i64 a0_0, .int .i64 a0_1, .slice A0_2 l0_2.length c0_2]) (t := 29) ?hr ?_; (case hd => rfl); (case hg => rfl); (case hr => first | (go_simp; done) | (go_simp; rfl)); intro gb513 hg w11 hbox hb; have n0_ := Az.mk (below_step zB hb); have n1_ := Az.mk (hbox); have n2_ := Az.mk ((by rw [hg]; exact (below_size zB) : w.heap.size ≤ gb513)); have n3_ := Az.mk ((by rw [hg]; exact (below_size zB) : w.heap.size ≤ gb513)); clear HB; have HB := n0_; have BK513 := n1_; have GW513 := n2_; have GE513 := n3_; clear n0_ n1_ n2_ n3_; clear hb hbox hg) | ((with_reducible refine zqg (N := 3) rfl ?_); refine zqb ?hg (N := 3) ?hd (cs := #[.int .i64 a1_0, .int .i64 a1_1, .slice A1_2 l1_2.length c1_2]) (t := 29) ?hr ?_; (case hd => rfl); (case hg => rfl); (case hr => first | (go_simp; done) | (go_simp; rfl)); intro gb514 hg w12 hbox hb; have n0_ := Az.mk (blk_below (g := gb513) (o := .cells #[.int .i64 a0_0, .int .i64 a0_1, .slice A0_2 l0_2.length c0_2] 29 (0, 0)) (by (with_reducible repeat (first | refine zq6 ?_ _ | refine zq8 ?_ | refine zq7 ?_ _)); exact BK513.out) hb); have n1_ := Az.mk (below_step (by repeat (first | (with_reducible first | exact HB.out | apply zq2 | apply zq1 | apply zqd | refine zq3 ?_ GE513.out) | exact HB.out)) hb); have n2_ := Az.mk (hbox); have n3_ := Az.mk ((by rw [hg]; exact (below_size (by repeat (first | (with_reducible first | exact HB.out | apply zq2 | apply zq1 | apply zqd | refine zq3 ?_ GE513.out) | exact HB.out))) : w.heap.size ≤ gb514)); have n4_ := Az.mk ((by rw [hg]; exact (below_size (by repeat (first | (with_reducible first | exact HB.out | apply zq2 | apply zq1 | apply zqd | refine zq3 ?_ GE513.out) | exact HB.out))) : w.heap.size ≤ gb514)); have n5_ := Az.mk ((by rw [hg]; exact Nat.ne_of_lt (blk_lt (g := gb513) (o := .cells #[.int .i64 a0_0, .int .i64 a0_1, .slice A0_2 l0_2.length c0_2] 29 (0, 0)) (by (with_reducible repeat (first | refine zq6 ?_ _ | refine zq8 ?_ | refine zq7 ?_ _)); exact BK513.out)) : gb513 ≠ gb514)); have n6_ := Az.mk ((by rw [hg]; exact Nat.ne_of_gt (blk_lt (g := gb513) (o := .cells #[.int .i64 a0_0, .int .i64 a0_1, .slice A0_2 l0_2.length c0_2] 29 (0, 0)) (by (with_reducible repeat (first | refine zq6 ?_ _ | refine zq8 ?_ | refine zq7 ?_ _)); exact BK513.out)) : gb514 ≠ gb513)); clear BK513; clear HB; have BK513 := n0_; have HB := n1_; have BK514 := n2_; have GW514 := n3_; have GE514 := n4_; have NB513_514 := n5_; have NB514_513 := n6_; clear n0_ n1_ n2_ n3_ n4_ n5_ n6_; clear hb hbox hg; have hnb13 := NB513_514.out; have hnc13 := NB514_513.out; have hcz14_0 : w12.cell? ⟨gb513, 0, none⟩ = some (.int .i64 a0_0) := (zq4 BK513.out 0).trans rfl; have hcz14_1 : w12.cell? ⟨gb513, 1, none⟩ = some (.int .i64 a0_1) := (zq4 BK513.out 1).trans rfl; have hcz14_2 : w12.cell? ⟨gb513, 2, none⟩ = some (.slice A0_2 l0_2.length c0_2) := (zq4 BK513.out 2).trans rfl; have hfz14_0 := zq5 BK513.out 0; have hfz14_1 := zq5 BK513.out 1; have hfz14_2 := zq5 BK513.out 2; have hcz15_0 : w12.cell? ⟨gb514, 0, none⟩ = some (.int .i64 a1_0) := (zq4 BK514.out 0).trans rfl; have hcz15_1 : w12.cell? ⟨gb514, 1, none⟩ = some (.int .i64 a1_1) := (zq4 BK514.out 1).trans rfl; have hcz15_2 : w12.cell? ⟨gb514, 2, none⟩ = some (.slice A1_2 l1_2.length c1_2) := (zq4 BK514.out 2).trans rfl; have hfz15_0 := zq5 BK514.out 0; have hfz15_1 := zq5 BK514.out 1; have hfz15_2 := zq5 BK514.out 2))
   go_ret
   exact ⟨by first | rfl | (simp [errW_none, errW_some] <;> rfl) | (simp [*, errW_none, errW_some] <;> rfl), by repeat (first | (with_reducible first | exact HB.out | apply zq2 | apply zq1 | apply zqd | refine zq3 ?_ GE513.out | refine zq3 ?_ GE514.out) | exact HB.out)⟩
 ·rw [if_neg c3] at H
  have c3b0 : (a0_0 == a1_0) = false := beq_eq_false_iff_ne.mpr c3
  have c3b1 : (a0_0 != a1_0) = true := bne_iff_ne.mpr c3
  obtain rfl := Option.some.inj H
  go_enter Try.func80, Try.ntmps80
  go_wp2_with (first | ((with_reducible refine zqg (N := 2) rfl ?_); refine zqb ?hg (N := 2) ?hd (cs := #[.int .i64 a0_0, .int .i64 a0_1, .slice A0_2 l0_2.length c0_2]) (t := 29) ?hr ?_; (case hd => rfl); (case hg => rfl); (case hr => first | (go_simp; done) | (go_simp; rfl)); intro gb513 hg w16 hbox hb; have n0_ := Az.mk (below_step zB hb); have n1_ := Az.mk (hbox); have n2_ := Az.mk ((by rw [hg]; exact (below_size zB) : w.heap.size ≤ gb513)); have n3_ := Az.mk ((by rw [hg]; exact (below_size zB) : w.heap.size ≤ gb513)); clear HB; have HB := n0_; have BK513 := n1_; have GW513 := n2_; have GE513 := n3_; clear n0_ n1_ n2_ n3_; clear hb hbox hg) | ((with_reducible refine zqg (N := 3) rfl ?_); refine zqb ?hg (N := 3) ?hd (cs := #[.int .i64 a1_0, .int .i64 a1_1, .slice A1_2 l1_2.length c1_2]) (t := 29) ?hr ?_; (case hd => rfl); (case hg => rfl); (case hr => first | (go_simp; done) | (go_simp; rfl)); intro gb514 hg w17 hbox hb; have n0_ := Az.mk (blk_below (g := gb513) (o := .cells #[.int .i64 a0_0, .int .i64 a0_1, .slice A0_2 l0_2.length c0_2] 29 (0, 0)) (by (with_reducible repeat (first | refine zq6 ?_ _ | refine zq8 ?_ | refine zq7 ?_ _)); exact BK513.out) hb); have n1_ := Az.mk (below_step (by repeat (first | (with_reducible first | exact HB.out | apply zq2 | apply zq1 | apply zqd | refine zq3 ?_ GE513.out) | exact HB.out)) hb); have n2_ := Az.mk (hbox); have n3_ := Az.mk ((by rw [hg]; exact (below_size (by repeat (first | (with_reducible first | exact HB.out | apply zq2 | apply zq1 | apply zqd | refine zq3 ?_ GE513.out) | exact HB.out))) : w.heap.size ≤ gb514)); have n4_ := Az.mk ((by rw [hg]; exact (below_size (by repeat (first | (with_reducible first | exact HB.out | apply zq2 | apply zq1 | apply zqd | refine zq3 ?_ GE513.out) | exact HB.out))) : w.heap.size ≤ gb514)); have n5_ := Az.mk ((by rw [hg]; exact Nat.ne_of_lt (blk_lt (g := gb513) (o := .cells #[.int .i64 a0_0, .int .i64 a0_1, .slice A0_2 l0_2.length c0_2] 29 (0, 0)) (by (with_reducible repeat (first | refine zq6 ?_ _ | refine zq8 ?_ | refine zq7 ?_ _)); exact BK513.out)) : gb513 ≠ gb514)); have n6_ := Az.mk ((by rw [hg]; exact Nat.ne_of_gt (blk_lt (g := gb513) (o := .cells #[.int .i64 a0_0, .int .i64 a0_1, .slice A0_2 l0_2.length c0_2] 29 (0, 0)) (by (with_reducible repeat (first | refine zq6 ?_ _ | refine zq8 ?_ | refine zq7 ?_ _)); exact BK513.out)) : gb514 ≠ gb513)); clear BK513; clear HB; have BK513 := n0_; have HB := n1_; have BK514 := n2_; have GW514 := n3_; have GE514 := n4_; have NB513_514 := n5_; have NB514_513 := n6_; clear n0_ n1_ n2_ n3_ n4_ n5_ n6_; clear hb hbox hg; have hnb18 := NB513_514.out; have hnc18 := NB514_513.out; have hcz19_0 : w17.cell? ⟨gb513, 0, none⟩ = some (.int .i64 a0_0) := (zq4 BK513.out 0).trans rfl; have hcz19_1 : w17.cell? ⟨gb513, 1, none⟩ = some (.int .i64 a0_1) := (zq4 BK513.out 1).trans rfl; have hcz19_2 : w17.cell? ⟨gb513, 2, none⟩ = some (.slice A0_2 l0_2.length c0_2) := (zq4 BK513.out 2).trans rfl; have hfz19_0 := zq5 BK513.out 0; have hfz19_1 := zq5 BK513.out 1; have hfz19_2 := zq5 BK513.out 2; have hcz20_0 : w17.cell? ⟨gb514, 0, none⟩ = some (.int .i64 a1_0) := (zq4 BK514.out 0).trans rfl; have hcz20_1 : w17.cell? ⟨gb514, 1, none⟩ = some (.int .i64 a1_1) := (zq4 BK514.out 1).trans rfl; have hcz20_2 : w17.cell? ⟨gb514, 2, none⟩ = some (.slice A1_2 l1_2.length c1_2) := (zq4 BK514.out 2).trans rfl; have hfz20_0 := zq5 BK514.out 0; have hfz20_1 := zq5 BK514.out 1; have hfz20_2 := zq5 BK514.out 2))
  go_ret
  exact ⟨by first | rfl | (simp [errW_none, errW_some] <;> rfl) | (simp [*, errW_none, errW_some] <;> rfl), by repeat (first | (with_reducible first | exact HB.out | apply zq2 | apply zq1 | apply zqd | refine zq3 ?_ GE513.out | refine zq3 ?_ GE514.out) | exact HB.out)⟩
end Go.Proofs.Ytkoimmeghdbodaa.Print
namespace Go.Proofs.Ytkoimmeghdbodaa.Print
open Go.RowKit Go.Maps Go.WideMaps Go.Proofs.YtkoimmeghdbodaaW.PrintWords Go.Proofs.YtkoimmeghdbodaaW.PrintLast Go.Proofs.YtkoimmeghdbodaaW.PrintMore Go.Proofs.Ytkoimmeghdbodaa.Pure
instance : DecidableEq S37 := fun a b => decidable_of_iff (a.f0 = b.f0 ∧ a.f1 = b.f1) (by cases a; cases b; simp)
def sameB (a b : S29) : Bool := decide (a.f0 = b.f0) && (decide (a.f1 = b.f1) && decide (a.f2 = b.f2))
theorem rd37n (l : List S37) (k : Nat) : rd_T37 l (k : Int) = l.getD k z37 := by simp [rd_T37]
theorem list_eq37 {l m : List S37} (hl : l.length = m.length) (h : ∀ j, j < l.length → l.getD j z37 = m.getD j z37) : l = m := by
  refine List.ext_getElem hl fun i h1 h2 => ?_
  have := h i h1
  simpa [List.getD, h1, h2] using this
theorem equal_l0 (l m : List S37) (hl : l.length = m.length) (hs : l.length ≤ 1099511627776) (d : Nat) : ∀ i : Nat, i + d = l.length → (∀ j, j < i → l.getD j z37 = m.getD j z37) → Ev (fun k => slices_Equal_Place.l0 k l m (l.length : Int) (i : Int)) (decide (l = m)) := by
  induction d with
  | zero =>
    intro i hi hj
    refine Pure.Ev.next ?_
    simp only [slices_Equal_Place.l0]
    refine Pure.Ev.neg (by omega) (Pure.Ev.ret ?_)
    rw [decide_eq_true (list_eq37 hl fun j hj2 => hj j (by omega))]
  | succ d ih =>
    intro i hi hj
    have e : wrap64 ((i : Int) + 1) = ((i + 1 : Nat) : Int) := by rw [wrap_ok (by omega)]; omega
    refine Pure.Ev.next ?_
    simp only [slices_Equal_Place.l0, e, rd37n]
    clear e
    refine Pure.Ev.pos (by omega) (Pure.Ev.pos (by omega) (Pure.Ev.pos (by omega) (Pure.Ev.pos (by omega) ?_)))
    by_cases c : l.getD i z37 = m.getD i z37
    · refine Pure.Ev.neg (by rw [c]; simp) (ih (i + 1) (by omega) fun j hj2 => ?_)
      by_cases e : j = i
      · rw [e]; exact c
      · exact hj j (by omega)
    · refine Pure.Ev.pos ?_ (Pure.Ev.ret ?_)
      · by_cases c0 : (l.getD i z37).f0 = (m.getD i z37).f0
        · by_cases c1 : (l.getD i z37).f1 = (m.getD i z37).f1
          · exact absurd (by cases h1 : l.getD i z37; cases h2 : m.getD i z37; rw [h1, h2] at c0 c1; simp only at c0 c1; rw [c0, c1]) c
          · rw [beq_eq_false_iff_ne.2 c1]; simp
        · rw [beq_eq_false_iff_ne.2 c0]; simp
      · rw [decide_eq_false (fun h => c (by rw [h]))]
theorem same_ev (a b : S29) (hs : a.f2.length ≤ 1099511627776) : Ev (fun k => impl_samePtr.f k a.f0 a.f1 a.f2 b.f0 b.f1 b.f2) (sameB a b) := by
  unfold impl_samePtr.f sameB
  by_cases c0 : a.f0 = b.f0
  · refine Pure.Ev.pos c0 ?_
    rw [decide_eq_true c0, Bool.true_and]
    by_cases c1 : a.f1 = b.f1
    · refine Pure.Ev.pos c1 ?_
      rw [decide_eq_true c1, Bool.true_and]
      refine Ev.bind (a := decide (a.f2 = b.f2)) ?_ (Pure.Ev.ret rfl)
      unfold slices_Equal_Place.f
      by_cases c2 : a.f2.length = b.f2.length
      · exact Pure.Ev.pos (by omega) (equal_l0 a.f2 b.f2 c2 hs a.f2.length 0 (Nat.zero_add _) (fun j hj => by omega))
      · exact Pure.Ev.neg (by omega) (Pure.Ev.ret (decide_eq_false (fun h => c2 (by rw [h]))).symm)
    · exact Pure.Ev.neg c1 (Pure.Ev.ret (by rw [decide_eq_false c1]; rfl))
  · exact Pure.Ev.neg c0 (Pure.Ev.ret (by rw [decide_eq_false c0]; rfl))
def ptrs (vs : List S65) : List S29 := vs.flatMap (fun x => x.f1)
theorem take65 (l : List S65) (i : Nat) (h : i < l.length) : l.take (i + 1) = l.take i ++ [l.getD i z65] := by
  rw [List.take_add_one]
  simp [List.getD, h]
theorem rd65n (l : List S65) (k : Nat) : rd_T65 l (k : Int) = l.getD k z65 := by simp [rd_T65]
theorem getD_mem {α : Type} {l : List α} {z : α} {i : Nat} (h : i < l.length) : l.getD i z ∈ l := by
  rw [List.getD, List.getElem?_eq_getElem h]
  exact List.getElem_mem h
theorem ptrs_take_len {vs : List S65} (h3 : ∀ x ∈ vs, x.f1.length = 3) (i : Nat) (hi : i ≤ vs.length) : (ptrs (vs.take i)).length = 3 * i := by
  induction i with
  | zero => simp [ptrs]
  | succ i ih =>
    have := h3 _ (getD_mem (z := z65) (i := i) (l := vs) (by omega))
    have ih := ih (by omega)
    unfold ptrs at *
    rw [take65 vs i (by omega)]
    generalize vs.getD i z65 = x at this
    rw [List.flatMap_append, List.length_append, ih]
    simp only [List.flatMap_cons, List.flatMap_nil, List.append_nil, this]
    omega
theorem ptrs_l0 (vs : List S65) (hl : vs.length ≤ 4) (h3 : ∀ x ∈ vs, x.f1.length = 3) (d : Nat) : ∀ i : Nat, i + d = vs.length → Ev (fun k => impl_Root_ptrs.l0 k (ptrs (vs.take i)) vs (vs.length : Int) (i : Int)) (ptrs vs) := by
  induction d with
  | zero =>
    intro i hi
    refine Pure.Ev.next ?_
    simp only [impl_Root_ptrs.l0]
    exact Pure.Ev.neg (by omega) (Pure.Ev.ret (by rw [List.take_of_length_le (by omega)]))
  | succ d ih =>
    intro i hi
    have e : wrap64 ((i : Int) + 1) = ((i + 1 : Nat) : Int) := by rw [wrap_ok (by omega)]; omega
    have hih := ih (i + 1) (by omega)
    have hn : ptrs (vs.take (i + 1)) = ptrs (vs.take i) ++ (vs.getD i z65).f1 := by
      unfold ptrs
      rw [take65 vs i (by omega), List.flatMap_append]
      simp
    rw [hn] at hih
    have hb := h3 _ (getD_mem (z := z65) (i := i) (l := vs) (by omega))
    have hp := ptrs_take_len h3 i (by omega)
    refine Pure.Ev.next ?_
    simp only [impl_Root_ptrs.l0, e, rd65n]
    clear e
    exact Pure.Ev.pos (by omega) (Pure.Ev.pos (by omega) (Pure.Ev.pos (by omega) (Pure.Ev.pos (by omega) hih)))
theorem ptrs_some (tx : Int) (vs : List S65) (hl : vs.length ≤ 4) (h3 : ∀ x ∈ vs, x.f1.length = 3) : ∃ k, impl_Root_ptrs.f k tx vs = some (ptrs vs) :=
  Ev.rounds (ptrs_l0 vs hl h3 vs.length 0 (Nat.zero_add _))
theorem plaw : Keyed Try.prog 37 := Keyed.of_law (deep_law_laid (by kernel_rfl) (m := Try.prog.types.size + 1) (of_decide_eq_true (by kernel_rfl)) (of_decide_eq_true (by kernel_rfl)) (by kernel_rfl) (by kernel_rfl))
theorem pzero (w : World) : (zeroValue 29).run Try.prog w = .ok (.agg #[.int .i64 0, .int .i64 0, .slice none 0 0]) w := by kernel_rfl
def plV (x : S37) : Value := .agg #[.int .i64 x.f0, .int .i64 x.f1]
def plK (x : S37) : Lit := .string (keyBytes [.int .i64 x.f0, .int .i64 x.f1])
def PlWf (x : S37) : Prop := (Lit.int .i64 x.f0).wf = true ∧ (Lit.int .i64 x.f1).wf = true
theorem plK_key (x : S37) (h : PlWf x) : keyOf Try.prog 37 (plV x) = some (plK x) := by
  have hu := Try.underlying37
  have h3 := Try.underlying3
  have hk : Try.prog.keyType 37 = true := by kernel_rfl
  have hc : Try.prog.cellsOf 37 = 2 := by kernel_rfl
  have hc3 : Try.prog.cellsOf 3 = 1 := by kernel_rfl
  have hz : (Try.prog.types.size == 0) = false := by kernel_rfl
  have hz2 := beq_eq_false_iff_ne.1 hz
  obtain ⟨m, hm⟩ : ∃ m, Try.prog.types.size = m + 1 := ⟨Try.prog.types.size - 1, by omega⟩
  unfold keyOf plV plK
  simp only [hu]
  rw [if_pos (by simp [hk, Value.formed, hu, hc]), hm]
  unfold Program.keyLits
  simp only [hu, Value.cells]
  simp [hc, hc3, Program.keyLits, h3, h.1, h.2]
end Go.Proofs.Ytkoimmeghdbodaa.Print
namespace Go.Proofs.Ytkoimmeghdbodaa.Hq
open Go.RowKit Go.Proofs.Ytkoimmeghdbodaa.Print Go.Proofs.YtkoimmeghdbodaaW.PrintWords Go.Proofs.YtkoimmeghdbodaaW.PrintLast Go.Proofs.YtkoimmeghdbodaaW.PrintMore Go.Proofs.Ytkoimmeghdbodaa.Pure Go.Proofs.Ytkoimmeghdbodaa.Hd
theorem blk_frz0 {w : World} {g : Nat} {cs : Array Value} {t : TypeId} (h : w.heap[g]? = some (.cells cs t (0, 0))) (j : Nat) : w.frozen? ⟨g, j, none⟩ = false := by simp [World.frozen?, h]
section
variable {P : Program} {ops : Array Oper} {Q : Exit → Act → World → Prop} {rest : List Oper} {o : Oper} {a : Act} {base : Nat} {w0 w : World} {L : List Part} {Kc : Act → World → Prop}
theorem Hq.lit (h : Hq base w0 w L) (hgd : o.guard = none) (cs : Array Value) (t : TypeId) (n : Nat)
    (hrun : (execOp a.eval o).run P w = .ok (.value (.slice (some ⟨w.heap.size, 0, none⟩) n n)) (w.alloc (.cells cs t (0, 0))))
    (k : ∀ g w1, Az (Hq base w0 w1 (.box g cs t :: L)) → wpList P ops Q rest (a.put o.dst (.slice (some ⟨g, 0, none⟩) n n)) w1) : wpList P ops Q (o :: rest) a w :=
  Kd.event_run hgd hrun (k _ _ ⟨h.boxed rfl (blk_new w _) (zq2 (Below.refl _ _) _)⟩)
theorem Hq.lit_ (h : Hq base w0 w L) (hw : Region.wanted o (yielded ops a.tmps) = true) (cs : Array Value) (t : TypeId) (n : Nat)
    (hrun : (execOp a.eval o).run P w = .ok (.value (.slice (some ⟨w.heap.size, 0, none⟩) n n)) (w.alloc (.cells cs t (0, 0))))
    (k : ∀ g w1, Az (Hq base w0 w1 (.box g cs t :: L)) → Kc (a.put o.dst (.slice (some ⟨g, 0, none⟩) n n)) w1) : if Region.wanted o (yielded ops a.tmps) = true then Oper.wp P o a w Kc Q else Kc (a.put o.dst undef) w := by
  rw [if_pos hw]
  unfold Oper.wp
  rw [hrun]
  exact k _ _ ⟨h.boxed rfl (blk_new w _) (zq2 (Below.refl _ _) _)⟩
theorem Hq.run_stb (h : Hq base w0 w L) (i : Nat) {g : Nat} {cs : Array Value} {t : TypeId} (e : L[i]? = some (.box g cs t)) (j : Nat) {u v : Value} (hj : cs[j]? = some u) {ty : TypeId} {x y : Operand} (hi : (P.info? ty).map (·.size) = some 1) (ho : o.op = .store ty x y) (hx : a.eval x = .pointer (some ⟨g, j, none⟩)) (hy : a.eval y = v) (h1 : v.oneCell' = true) :
    (execOp a.eval o).run P w = .ok .skip (w.setCell ⟨g, j, none⟩ v) :=
  run_sc hi ((zq4 (h.box i e) j).trans hj) (blk_frz0 (h.box i e) j) ho hx hy h1
theorem Hq.stb (h : Hq base w0 w L) (i : Nat) {g : Nat} {cs : Array Value} {t : TypeId} (e : L[i]? = some (.box g cs t)) (j : Nat) {u : Value} (v : Value) (hj : cs[j]? = some u) (hgd : o.guard = none) {ty : TypeId} {x y : Operand} (hi : (P.info? ty).map (·.size) = some 1) (ho : o.op = .store ty x y) (hN : o.dst = none) (hx : a.eval x = .pointer (some ⟨g, j, none⟩)) (hy : a.eval y = v) (h1 : v.oneCell' = true)
    (k : ∀ w1, Az (Hq base w0 w1 (L.set i (.box g (cs.setIfInBounds j v) t))) → wpList P ops Q rest a w1) : wpList P ops Q (o :: rest) a w :=
  h.st_cell i e j v hgd hN (h.run_stb i e j hj hi ho hx hy h1) k
theorem last_st {w1 : World} (hw : Region.wanted o (yielded ops a.tmps) = true) (hN : o.dst = none) (hrun : (execOp a.eval o).run P w = .ok .skip w1) (k : Kc a w1) : if Region.wanted o (yielded ops a.tmps) = true then Oper.wp P o a w Kc Q else Kc (a.put none undef) w := by
  rw [if_pos hw]
  unfold Oper.wp
  rw [hrun]
  show Kc (a.put o.dst undef) _
  rw [hN]
  exact k
theorem Hq.last_row (h : Hq base w0 w L) (i : Nat) {g : Nat} {cs : Array Value} {t : TypeId} (e : L[i]? = some (.box g cs t)) (hw : Region.wanted o (yielded ops a.tmps) = true) {ty : TypeId} {x y : Operand} (ho : o.op = .store ty x y) (hN : o.dst = none) (hx : a.eval x = .pointer (some ⟨g, 0, none⟩)) (cs' : Array Value) (hy : a.eval y = .agg cs')
    (hi : (P.info? ty).map (·.size) = some cs'.size) (hs : cs.size = cs'.size) (h1 : cs'.all (·.oneCell') = true) (k : ∀ w1, Az (Hq base w0 w1 (L.set i (.box g cs' t))) → Kc a w1) : if Region.wanted o (yielded ops a.tmps) = true then Oper.wp P o a w Kc Q else Kc (a.put none undef) w :=
  last_st hw hN (h.run_st i e ho hx cs' hy hi hs h1) (k _ ⟨h.set_row i e cs'⟩)
theorem Hq.last_cell (h : Hq base w0 w L) (i : Nat) {g : Nat} {cs : Array Value} {t : TypeId} (e : L[i]? = some (.box g cs t)) (j : Nat) {u : Value} (v : Value) (hj : cs[j]? = some u) (hw : Region.wanted o (yielded ops a.tmps) = true) {ty : TypeId} {x y : Operand} (hi : (P.info? ty).map (·.size) = some 1) (ho : o.op = .store ty x y) (hN : o.dst = none) (hx : a.eval x = .pointer (some ⟨g, j, none⟩)) (hy : a.eval y = v) (h1 : v.oneCell' = true)
    (k : ∀ w1, Az (Hq base w0 w1 (L.set i (.box g (cs.setIfInBounds j v) t))) → Kc a w1) : if Region.wanted o (yielded ops a.tmps) = true then Oper.wp P o a w Kc Q else Kc (a.put none undef) w :=
  last_st hw hN (h.run_stb i e j hj hi ho hx hy h1) (k _ ⟨h.set_box i e j v⟩)
end
theorem Hq.start (w : World) : Hq w.heap.size w w [] := ⟨Below.refl _ _, Nat.le_refl _, fun _ h => (by cases h), List.Pairwise.nil⟩
theorem Hq.apart {b : Nat} {ws w : World} {L : List Part} (H : Hq b ws w L) (i j : Nat) {p q : Part} (hij : i ≠ j) (e : L[i]? = some p) (e' : L[j]? = some q) : p.Off q := by
  obtain ⟨hi1, hi2⟩ := List.getElem?_eq_some_iff.1 e
  obtain ⟨hj1, hj3⟩ := List.getElem?_eq_some_iff.1 e'
  rw [← hi2, ← hj3]
  rcases Nat.lt_or_gt_of_ne hij with hl | hl
  · exact List.pairwise_iff_getElem.1 H.dis i j hi1 hj1 hl
  · exact (List.pairwise_iff_getElem.1 H.dis j i hj1 hi1 hl).symm
theorem Hq.put2 {base : Nat} {w0 w w' : World} {L : List Part} (h : Hq base w0 w L) (i j : Nat) (hij : i ≠ j) {p p' q q' : Part} (ei : L[i]? = some p) (ej : L[j]? = some q) (e1 : ∀ k, p'.has k → p.has k) (e2 : ∀ k, q'.has k → (q.has k ∨ w.heap.size ≤ k) ∧ k < w'.heap.size)
    (hF : p'.F w') (hG : q'.F w') (hb : Below base w w') (hk : ∀ k, k < w.heap.size → ¬ p.has k → ¬ q.has k → w'.heap[k]? = w.heap[k]?) : Hq base w0 w' ((L.set i p').set j q') := by
  have gp := h.get i ei
  have gq := h.get j ej
  have s1 := off_set (p' := p') h.dis ei (fun r hr ho k h1 h2 => ho k (e1 k h1) h2)
  have ej' : (L.set i p')[j]? = some q := by rw [List.getElem?_set_ne hij]; exact ej
  have s2 := off_set (p' := q') s1.1 ej' (fun r hr ho k h1 h2 => by
    rcases (e2 k h1).1 with h3 | h3
    · exact ho k h3 h2
    · rcases s1.2 r hr with rfl | ⟨h4, _⟩
      · have := (gp.1 k (e1 k h2)).2
        omega
      · have := ((h.all r h4).1 k h2).2
        omega)
  refine ⟨h.bel.trans hb, Nat.le_trans h.ge hb.size, fun r hr => ?_, s2.1⟩
  rcases s2.2 r hr with rfl | ⟨h1, h2⟩
  · refine ⟨fun k h3 => ⟨?_, (e2 k h3).2⟩, hG⟩
    rcases (e2 k h3).1 with h4 | h4
    · exact (gq.1 k h4).1
    · exact Nat.le_trans h.ge h4
  · rcases s1.2 r h1 with rfl | ⟨h3, h4⟩
    · exact ⟨fun k h5 => ⟨(gp.1 k (e1 k h5)).1, Nat.lt_of_lt_of_le (gp.1 k (e1 k h5)).2 hb.size⟩, hF⟩
    · have ha := h.all r h3
      exact ⟨fun k h5 => ⟨(ha.1 k h5).1, Nat.lt_of_lt_of_le (ha.1 k h5).2 hb.size⟩, ha.2.keep fun k h5 => hk k (ha.1 k h5).2 (fun h6 => h4 k h5 h6) (fun h6 => h2 k h5 h6)⟩
def newS (S : Nat → Prop) (w w' : World) : Nat → Prop := fun k => (S k ∨ w.heap.size ≤ k) ∧ k < w'.heap.size
theorem Hq.grow {base : Nat} {w0 w w' : World} {L : List Part} (h : Hq base w0 w L) (j : Nat) {S : Nat → Prop} {wo : World} (ej : L[j]? = some (.set S wo)) (hb : Below w.heap.size w w') : Hq base w0 w' (L.set j (.set (newS S w w') w')) :=
  h.put j ej (p' := .set (newS S w w') w') (fun k hk => hk) (fun _ _ => rfl) (hb.mono h.ge) fun k h1 _ => hb.block k h1
theorem Hq.up {base : Nat} {w0 w w' : World} {L : List Part} (h : Hq base w0 w L) (j : Nat) {S : Nat → Prop} {wo : World} (ej : L[j]? = some (.set S wo)) (hs : w.heap.size ≤ w'.heap.size) (hk : ∀ k, S k → w'.heap[k]? = w.heap[k]?) : ∀ k, S k → newS S w w' k ∧ w'.heap[k]? = wo.heap[k]? :=
  fun k hS => ⟨⟨.inl hS, Nat.lt_of_lt_of_le (h.set_in j ej k hS).2 hs⟩, (hk k hS).trans (h.same j ej k hS)⟩
theorem Hq.wrote' {base : Nat} {w0 w w' : World} {L : List Part} (h : Hq base w0 w L) (i : Nat) {S : Nat → Prop} {wc : World} (e : L[i]? = some (.set S wc)) {g : Nat} (hg : S g) (hgr : w.grownBy w' (some g)) (hsz : w'.heap.size = w.heap.size) : Hq base w0 w' (L.set i (.set S w')) :=
  h.put i e (p' := .set S w') (fun k hk => ⟨.inl hk, by rw [hsz]; exact (h.set_in i e k hk).2⟩) (fun _ _ => rfl)
    ⟨hgr.os, hgr.tape, hgr.output, hgr.size, fun k hk => hgr.block k (Nat.lt_of_lt_of_le hk h.ge) (fun e' => by injection e' with e'; have := (h.set_in i e g hg).1; omega)⟩
    fun k h1 h2 => hgr.block k h1 fun e' => by injection e' with e'; exact h2 (by rw [e']; exact hg)
structure Rdr (w0 : World) (b : List Int) (m : Nat) (cs : Array Value) : Prop where
  ok : ∃ A c p, cs = #[.slice A b.length c, .int .i64 p] ∧ Kd.C (Kd.int .u8) w0 A b.length b ∧ 0 ≤ p ∧ p + m ≤ 500000
  code : Pure.Code b
theorem Rdr.less {w0 : World} {b : List Int} {m m' : Nat} {cs : Array Value} (h : Rdr w0 b m cs) (hm : m' ≤ m) : Rdr w0 b m' cs := by
  obtain ⟨A, c, p, h1, h2, h3, h4⟩ := h.ok
  exact ⟨⟨A, c, p, h1, h2, h3, by omega⟩, h.code⟩
section
variable {w0 ws w : World} {L : List Part} {b : List Int} {g : Nat} {cs : Array Value}
theorem is_of (H : Hq w0.heap.size ws w L) (i : Nat) (e : L[i]? = some (.box g cs 113)) {A : Option Addr} {c : Nat} {p : Int} (hcs : cs = #[.slice A b.length c, .int .i64 p]) (hC : Kd.C (Kd.int .u8) w0 A b.length b) : IsS113 w0 w g b p :=
  ⟨A, c, by rw [← hcs]; exact H.box i e, H.box_ge i e, hC⟩
theorem bel_of {w' : World} (hB : Below w0.heap.size w0 ws) (H : Hq w0.heap.size ws w L) (hb : Below w0.heap.size w0 w') (hs : w.heap.size ≤ w'.heap.size) : Below w0.heap.size w w' := by
  have hbel := hB.trans H.bel
  exact ⟨hb.os.trans hbel.os.symm, hb.tape.trans hbel.tape.symm, hb.output.trans hbel.output.symm, hs, fun k h1 => (hb.block k h1).trans (hbel.block k h1).symm⟩
theorem rd_of {w' : World} (hB : Below w0.heap.size w0 ws) (H : Hq w0.heap.size ws w L) (i : Nat) (e : L[i]? = some (.box g cs 113)) (hc : Pure.Code b) {q : Int} {m : Nat} (hq : 0 ≤ q ∧ q + m ≤ 500000) (hI : IsS113 w0 w' g b q) (hb : Below w0.heap.size w0 w') (hk : KeepBut w w' g none) :
    ∃ cs', Rdr w0 b m cs' ∧ Hq w0.heap.size ws w' (L.set i (.box g cs' 113)) := by
  obtain ⟨A, c, h1, h2, h3⟩ := hI
  exact ⟨_, ⟨⟨A, c, q, rfl, h3, hq.1, hq.2⟩, hc⟩, H.put_box i e h1 (bel_of hB H hb hk.1) fun k h1 h2 => hk.2 k h1 h2 (by simp)⟩
theorem rd_new {w' : World} (hB : Below w0.heap.size w0 ws) (H : Hq w0.heap.size ws w L) (i j : Nat) (hij : i ≠ j) (e : L[i]? = some (.box g cs 113)) {S : Nat → Prop} {wo : World} (ej : L[j]? = some (.set S wo)) (hc : Pure.Code b) {q : Int} {m : Nat} (hq : 0 ≤ q ∧ q + m ≤ 500000) (hI : IsS113 w0 w' g b q) (hb : Below w0.heap.size w0 w') (hk : KeepBut w w' g none) :
    ∃ cs', Rdr w0 b m cs' ∧ Hq w0.heap.size ws w' ((L.set i (.box g cs' 113)).set j (.set (newS S w w') w')) ∧ ∀ k, S k → newS S w w' k ∧ w'.heap[k]? = wo.heap[k]? := by
  obtain ⟨A, c, h1, h2, h3⟩ := hI
  refine ⟨_, ⟨⟨A, c, q, rfl, h3, hq.1, hq.2⟩, hc⟩, H.put2 i j hij e ej (p' := .box g _ 113) (q' := .set (newS S w w') w') (fun _ h => h) (fun _ h => h) h1 (fun _ _ => rfl) (bel_of hB H hb hk.1) fun k h1 h2 _ => hk.2 k h1 h2 (by simp), H.up j ej hk.1 fun k hS => hk.2 k (H.set_in j ej k hS).2 (fun hh => H.apart i j hij e ej k hh hS) (by simp)⟩
theorem pick_callq {m : Nat} (hB : Below w0.heap.size w0 ws) (H : Hq w0.heap.size ws w L) (i : Nat) (e : L[i]? = some (.box g cs 113)) (hr : Rdr w0 b (m + 1) cs) (n : Int) (hn : 1 ≤ n ∧ n ≤ 100000) :
    Calls Try.prog 65 #[.pointer (some ⟨g, 0, none⟩), .int .i64 n] w fun e w' => ∃ (r : Nat) (cs' : Array Value), e = .returned (.int .i64 (r : Int)) ∧ (r : Int) < n ∧ Rdr w0 b m cs' ∧ Hq w0.heap.size ws w' (L.set i (.box g cs' 113)) := by
  obtain ⟨A, c, p, h1, h2, h3, h4⟩ := hr.ok
  obtain ⟨r, e1, a1, a2, _⟩ := pick_ev hr.code p n (by omega) (by omega)
  obtain ⟨K, hK⟩ := e1
  obtain ⟨r, rfl⟩ := Int.eq_ofNat_of_zero_le a1
  refine (spec_l6Rd_pick.calls K g b p n r (p + 1) w0 w (is_of H i e h1 h2) (hB.trans H.bel) (hK K (Nat.le_refl _))).mono fun e' w' hh => ?_
  obtain ⟨he, hI, hb, hk⟩ := hh
  obtain ⟨cs', q1, q2⟩ := rd_of hB H i e hr.code (m := m) (by omega) hI hb hk
  exact ⟨r, cs', he, a2 (by omega), q1, q2⟩
theorem disks_callq {m : Nat} (hB : Below w0.heap.size w0 ws) (H : Hq w0.heap.size ws w L) (i : Nat) (e : L[i]? = some (.box g cs 113)) (hr : Rdr w0 b (m + 1) cs) :
    Calls Try.prog 63 #[.pointer (some ⟨g, 0, none⟩)] w fun e w' => ∃ (n : Int) (cs' : Array Value), e = .returned (.int .i64 n) ∧ (3 ≤ n ∧ n ≤ 4) ∧ Rdr w0 b m cs' ∧ Hq w0.heap.size ws w' (L.set i (.box g cs' 113)) := by
  obtain ⟨A, c, p, h1, h2, h3, h4⟩ := hr.ok
  obtain ⟨n, e1, a1⟩ := disks_ev hr.code (p := p) (by omega)
  obtain ⟨K, hK⟩ := e1
  refine (spec_l71Disks.calls K g b p n (p + 1) w0 w (is_of H i e h1 h2) (hB.trans H.bel) (hK K (Nat.le_refl _))).mono fun e' w' hh => ?_
  obtain ⟨he, hI, hb, hk⟩ := hh
  obtain ⟨cs', q1, q2⟩ := rd_of hB H i e hr.code (m := m) (by omega) hI hb hk
  exact ⟨n, cs', he, a1, q1, q2⟩
theorem of_ev {b : List Int} (hb : Pure.Code b) (l : List ByteArray) (hl : 1 ≤ l.length ∧ l.length ≤ 1000) (p : Int) (hp : 0 ≤ p ∧ p ≤ 1000000) : ∃ s, Ev (fun k => spec_l6Rd_of.f k b p l) (s, p + 1) ∧ s ∈ l := by
  obtain ⟨r, e1, a1, a2, _⟩ := pick_ev hb p (l.length : Int) (by omega) (by omega)
  have a2 := a2 (by omega)
  obtain ⟨r, rfl⟩ := Int.eq_ofNat_of_zero_le a1
  refine ⟨rdOf ByteArray.empty l (r : Int), ?_, ?_⟩
  · unfold spec_l6Rd_of.f
    exact Ev.bind e1 (Ev.pos a1 (Ev.pos a2 (Ev.ret rfl)))
  · have hr : r < l.length := by omega
    simp only [rdOf, Int.toNat_natCast, List.getD, List.getElem?_eq_getElem hr, Option.getD_some]
    exact List.getElem_mem hr
theorem of_callq {m : Nat} (hB : Below w0.heap.size w0 ws) (H : Hq w0.heap.size ws w L) (i j : Nat) (hij : i ≠ j) (e : L[i]? = some (.box g cs 113)) {gl c : Nat} {cl : Array Value} {l : List ByteArray} (ej : L[j]? = some (.box gl cl 9)) (hl : 1 ≤ l.length ∧ l.length ≤ 1000) (hcl : cl = (l.map Value.string).toArray) (hc : l.length ≤ c) (hr : Rdr w0 b (m + 1) cs) :
    Calls Try.prog 114 #[.pointer (some ⟨g, 0, none⟩), .slice (some ⟨gl, 0, none⟩) l.length c] w fun e w' => ∃ (s : ByteArray) (cs' : Array Value), e = .returned (.string s) ∧ s ∈ l ∧ Rdr w0 b m cs' ∧ Hq w0.heap.size ws w' (L.set i (.box g cs' 113)) := by
  obtain ⟨A, c', p, h1, h2, h3, h4⟩ := hr.ok
  obtain ⟨s, e1, hs⟩ := of_ev hr.code l hl p (by omega)
  obtain ⟨K, hK⟩ := e1
  have hC : Kd.C Kd.string w (some ⟨gl, 0, none⟩) l.length l := by
    refine ⟨rfl, by omega, fun _ => ⟨⟨gl, 0, none⟩, rfl, fun j p hp => ⟨[.string p], rfl, rfl, fun i u hu => ?_⟩⟩⟩
    have hi : i = 0 := by
      rcases i with _ | i
      · rfl
      · simp at hu
    subst hi
    have hu : u = .string p := by simpa using hu.symm
    subst hu
    have hj := (List.getElem?_eq_some_iff.1 hp).1
    rw [add_plain, show Kd.string.sz = 1 from rfl, Nat.mul_one, Nat.add_zero, zq4 (H.box _ ej) j, hcl]
    simp [hp]
  refine (spec_l6Rd_of.calls K g b p (some ⟨gl, 0, none⟩) c l s (p + 1) w0 w (is_of H i e h1 h2) (hB.trans H.bel) hC hc (fun ad ha _ hh => by
    injection ha with ha
    subst ha
    exact H.apart i j hij e ej g rfl (by rw [← hh]; rfl)) (hK K (Nat.le_refl _))).mono fun e' w' hh => ?_
  obtain ⟨he, hI, hb, hk⟩ := hh
  obtain ⟨cs', q1, q2⟩ := rd_of hB H i e hr.code (m := m) (by omega) hI hb hk
  exact ⟨s, cs', he, hs, q1, q2⟩
theorem ptr_callq {m : Nat} {n : Int} (hn : 3 ≤ n ∧ n ≤ 4) (hB : Below w0.heap.size w0 ws) (H : Hq w0.heap.size ws w L) (i j : Nat) (hij : i ≠ j) (e : L[i]? = some (.box g cs 113)) {S : Nat → Prop} {wo : World} (ej : L[j]? = some (.set S wo)) (hr : Rdr w0 b (m + 90) cs) :
    Calls Try.prog 94 #[.pointer (some ⟨g, 0, none⟩), .int .i64 n] w fun e w' => ∃ (y : S29) (v : Value) (cs' : Array Value), e = .returned (.agg #[.int .i64 y.f0, .int .i64 y.f1, v]) ∧ y.f2.length ≤ 5 ∧ Kd.Q k37 37 w' w0.heap.size (newS S w w') v y.f2 ∧ Rdr w0 b m cs' ∧
      Hq w0.heap.size ws w' ((L.set i (.box g cs' 113)).set j (.set (newS S w w') w')) ∧ ∀ k, S k → newS S w w' k ∧ w'.heap[k]? = wo.heap[k]? := by
  obtain ⟨A, c, p, h1, h2, h3, h4⟩ := hr.ok
  obtain ⟨s, u, l, q, e1, a1, a2, a3, a4⟩ := ptr_ev hr.code hn (p := p) (by omega)
  obtain ⟨K, hK⟩ := e1
  refine (spec_l71Ptr.calls K g b p n s u l q w0 w (is_of H i e h1 h2) (hB.trans H.bel) (hK K (Nat.le_refl _))).mono fun e' w' hh => ?_
  obtain ⟨v, he, hR, hI, hb, hk⟩ := hh
  obtain ⟨cs', q1, q2, q3⟩ := rd_new hB H i j hij e ej hr.code (m := m) (by omega) hI hb hk
  exact ⟨⟨s, u, l⟩, v, cs', he, a2, Kd.Q_lower (Kd.Q_mono (Kd.Q_bound (Kd.Q_of_R hR)) fun k hk => ⟨.inr hk.2.1, hk.2.2.1⟩) H.ge, q1, q2, q3⟩
end
end Go.Proofs.Ytkoimmeghdbodaa.Hq
namespace Go.Proofs.Ytkoimmeghdbodaa.Hq
open Go.RowKit Go.Proofs.Ytkoimmeghdbodaa.Print Go.Proofs.YtkoimmeghdbodaaW.PrintWords Go.Proofs.YtkoimmeghdbodaaW.PrintLast Go.Proofs.YtkoimmeghdbodaaW.PrintMore Go.Proofs.Ytkoimmeghdbodaa.Pure Go.Proofs.Ytkoimmeghdbodaa.Hd
def part {α : Type} (e : Nat) (d : Kd α) : Kd (List α) where
  sz := 1
  E := e :: d.E
  K := (Kd.slice e d).K
  M := fun w base ok xs cs => ∃ v, cs = [v] ∧ d.Q e w base ok v xs
  K_len := (Kd.slice e d).K_len
  K_one := (Kd.slice e d).K_one
  K_below := (Kd.slice e d).K_below
  K_of_M := by
    rintro w base ok x cs ⟨v, rfl, h⟩
    obtain ⟨A, c, rfl, hl, hr⟩ := Kd.Q_reads h
    exact ⟨A, c, rfl, hl, hr⟩
  M_mono := by
    rintro w base ok ok' x cs hok ⟨v, rfl, h⟩
    exact ⟨v, rfl, Kd.Q_mono h hok⟩
  M_bound := by
    rintro w base ok x cs ⟨v, rfl, h⟩
    exact ⟨v, rfl, Kd.Q_bound h⟩
  M_move := by
    rintro w w1 base ok x cs hm ⟨v, rfl, h⟩
    exact ⟨v, rfl, Kd.Q_move h hm⟩
  M_lower := by
    rintro w base base' ok x cs hb ⟨v, rfl, h⟩
    exact ⟨v, rfl, Kd.Q_lower h hb⟩
def q29 : Kd S29 := Kd.iso (Kd.pair (Kd.int .i64) (Kd.pair (Kd.int .i64) (part 37 k37))) (fun x : S29 => (x.f0, x.f1, x.f2))
def r65 : Kd S65 := Kd.iso (Kd.pair Kd.string (Kd.slice 29 q29)) (fun x : S65 => (x.f0, x.f1))
def q65 : Kd S65 := Kd.iso (Kd.pair Kd.string (part 29 q29)) (fun x : S65 => (x.f0, x.f1))
section
variable {w w' : World} {base : Nat} {ok : Nat → Prop}
theorem q29_openM {x : S29} {cs : List Value} (h : q29.M w base ok x cs) : ∃ v, cs = [.int .i64 x.f0, .int .i64 x.f1, v] ∧ k37.Q 37 w base ok v x.f2 := by
  obtain ⟨_, _, rfl, rfl, ⟨_, _, rfl, rfl, ⟨v, rfl, g⟩⟩⟩ := h
  exact ⟨v, rfl, g⟩
theorem q29_mkM {x : S29} {v : Value} (g : k37.Q 37 w base ok v x.f2) : q29.M w base ok x [.int .i64 x.f0, .int .i64 x.f1, v] := ⟨_, _, rfl, rfl, ⟨_, _, rfl, rfl, ⟨v, rfl, g⟩⟩⟩
theorem r65_openM {x : S65} {cs : List Value} (h : r65.M w base ok x cs) : ∃ v, cs = [.string x.f0, v] ∧ q29.R 29 w base ok v x.f1 := by
  obtain ⟨_, _, rfl, rfl, ⟨v, rfl, g⟩⟩ := h
  exact ⟨v, rfl, g⟩
theorem r65_mkM {x : S65} {v : Value} (g : q29.R 29 w base ok v x.f1) : r65.M w base ok x [.string x.f0, v] := ⟨_, _, rfl, rfl, ⟨v, rfl, g⟩⟩
theorem q65_openM {x : S65} {cs : List Value} (h : q65.M w base ok x cs) : ∃ v, cs = [.string x.f0, v] ∧ q29.Q 29 w base ok v x.f1 := by
  obtain ⟨_, _, rfl, rfl, ⟨v, rfl, g⟩⟩ := h
  exact ⟨v, rfl, g⟩
theorem q65_mkM {x : S65} {v : Value} (g : q29.Q 29 w base ok v x.f1) : q65.M w base ok x [.string x.f0, v] := ⟨_, _, rfl, rfl, ⟨v, rfl, g⟩⟩
theorem C29 {A : Option Addr} {n : Nat} {xs : List S29} (h : q29.C w A n xs) : k29.C w A n xs := Kd.C_imp (d := q29) (d' := k29) rfl (fun _ _ _ h => h) h
theorem K65 {x : S65} {cs : List Value} (h : q65.K w x cs) : k65.K w x cs := by
  obtain ⟨c0, c1, rfl, h0, ⟨A, c, rfl, hl, hr⟩⟩ := h
  exact ⟨c0, _, rfl, h0, ⟨A, c, rfl, hl, C29 hr⟩⟩
theorem C65 {A : Option Addr} {n : Nat} {xs : List S65} (h : q65.C w A n xs) : k65.C w A n xs := Kd.C_imp (d := q65) (d' := k65) rfl (fun _ _ _ h => K65 h) h
theorem C65r {A : Option Addr} {n : Nat} {xs : List S65} (h : r65.C w A n xs) : k65.C w A n xs := C65 (Kd.C_imp (d := r65) (d' := q65) rfl (fun _ _ _ h => h) h)
theorem R_q65 {v : Value} {xs : List S65} (h : r65.R 65 w base ok v xs) : q65.R 65 w base ok v xs := Kd.R_imp (d := r65) (d' := q65) rfl (fun _ _ _ _ _ h => by
  obtain ⟨v, rfl, g⟩ := r65_openM h
  exact q65_mkM (Kd.Q_of_R g)) h
end
section
variable {α : Type} {d : Kd α} {e : Nat} {wo w' : World} {b : Nat} {S S' : Nat → Prop} {v : Value} {xs : List α}
theorem R_up (h : d.R e wo b S v xs) (hup : ∀ k, S k → S' k ∧ w'.heap[k]? = wo.heap[k]?) : d.R e w' b S' v xs := Kd.R_mono (Kd.R_move h fun k hk => (hup k hk).2) fun k hk => (hup k hk).1
theorem Q_up (h : d.Q e wo b S v xs) (hup : ∀ k, S k → S' k ∧ w'.heap[k]? = wo.heap[k]?) : d.Q e w' b S' v xs := Kd.Q_mono (Kd.Q_move h fun k hk => (hup k hk).2) fun k hk => (hup k hk).1
end
def GV (D : List S65) : Prop := ∀ x ∈ D, x.f1.length = 3 ∧ ∀ y ∈ x.f1, y.f2.length ≤ 5
def GB (l : List S29) : Prop := l.length = 3 ∧ ∀ y ∈ l, y.f2.length ≤ 5
theorem reps_exists {α : Type} {R R' : α → List Value → Prop} {sz : Nat} {P : α → Prop} {ps : List α} {cs : List Value} (h : ∀ x c, x ∈ ps → R x c → ∃ x', R' x' c ∧ P x') (hr : Reps R sz ps cs) : ∃ ps' : List α, ps'.length = ps.length ∧ Reps R' sz ps' cs ∧ ∀ x ∈ ps', P x := by
  have hc : ∀ j : Fin ps.length, ∃ x', R' x' ((cs.drop (j.1 * sz)).take sz) ∧ P x' := fun j => h _ _ (List.getElem_mem j.2) (hr.2 j.1 _ (List.getElem?_eq_getElem j.2))
  obtain ⟨f, hf⟩ := Classical.axiomOfChoice hc
  refine ⟨List.ofFn f, List.length_ofFn, ⟨by rw [hr.1, List.length_ofFn], fun j p hp => ?_⟩, fun x hx => ?_⟩
  · obtain ⟨hj, rfl⟩ := List.getElem?_eq_some_iff.1 hp
    rw [List.getElem_ofFn]
    exact (hf ⟨j, by rw [List.length_ofFn] at hj; exact hj⟩).1
  · obtain ⟨j, hj, rfl⟩ := List.getElem_of_mem hx
    rw [List.getElem_ofFn]
    exact (hf _).2
theorem store_vols {w : World} {b : Nat} {S : Nat → Prop} {g i : Nat} {y : S29} {seg : List Value} {vO : Value} {D : List S65} (hO : r65.R 65 w b S vO D) (hD : GV D) (hi : i < 3) {cells : Array Value} (hg : w.heap[g]? = some (.cells cells 29 (0, 0))) (hM : q29.M w b S y seg) (hy : y.f2.length ≤ 5) :
    ∃ D', r65.R 65 (w.setCells g (i * 3) seg) b S vO D' ∧ D'.length = D.length ∧ GV D' := by
  have hl : seg.length = 3 := by obtain ⟨v, rfl, _⟩ := q29_openM hM; rfl
  obtain ⟨h0, inner, ho, hr⟩ := hO
  have hne : some g ≠ vO.ownBlock := fun he => by
    obtain ⟨c2, hc2⟩ := own_typed ho g he.symm
    rw [hg] at hc2
    injection hc2 with h1
    injection h1 with _ h1
    exact absurd h1 (by decide)
  have hfar : ∀ k, k ≠ g → (w.setCells g (i * 3) seg).heap[k]? = w.heap[k]? := fun k hk => setCells_far seg _ k hk
  obtain ⟨D', e1, e2, e3⟩ := reps_exists (R' := r65.M (w.setCells g (i * 3) seg) b (fun k => S k ∧ some k ≠ vO.ownBlock)) (P := fun x => x.f1.length = 3 ∧ ∀ y ∈ x.f1, y.f2.length ≤ 5) (fun x c hx hM' => by
    obtain ⟨v1, rfl, hR⟩ := r65_openM hM'
    have hx3 := hD x hx
    by_cases hv : v1.ownBlock = some g
    · obtain ⟨g', cap, rfl, _, _, _⟩ := Kd.R_form hR (by omega)
      obtain rfl : g' = g := by simpa [Value.ownBlock] using hv
      obtain ⟨c, c1, c2, c3, c4⟩ := Kd.R_elem hR z29 (i : Int) (by omega) (by omega)
      have hb := q29.M_bound hM
      have hok : q29.M w b (fun k => (S k ∧ some k ≠ vO.ownBlock) ∧ k ≠ g') y seg := q29.M_mono (fun k hk => by
        obtain ⟨k1, k2, k3, q, kq, cs, kc⟩ := hk
        have hq : q = 37 := by
          have : q ∈ [37] := kq
          simpa using this
        subst hq
        refine ⟨⟨k1, fun he => ?_⟩, fun he => ?_⟩
        · obtain ⟨c2, hc2⟩ := own_typed ho k he.symm
          rw [kc] at hc2
          injection hc2 with h1
          injection h1 with _ h1
          exact absurd h1 (by decide)
        · rw [he, hg] at kc
          injection kc with h1
          injection h1 with _ h1
          exact absurd h1 (by decide)) hb
      have hs := Kd.R_seg hR (i : Int) (by omega) (by omega) (seg := seg) (j := 0) c1 c3 (by rw [hl]; exact Nat.le_refl _) (x' := y) (okp := fun k => (S k ∧ some k ≠ vO.ownBlock) ∧ k ≠ g') (by
        rw [List.take_zero, List.nil_append, hl, List.drop_of_length_le (by rw [c1]; exact Nat.le_refl _), List.append_nil]
        exact hok) (fun k hk => hk)
      have hs1 := hs.1
      rw [Int.toNat_natCast, show i * q29.sz + 0 = i * 3 from rfl] at hs1
      refine ⟨⟨x.f0, x.f1.set i y⟩, r65_mkM (x := ⟨x.f0, x.f1.set i y⟩) ?_, by show (x.f1.set i y).length = 3; rw [List.length_set]; exact hx3.1, fun z hz => ?_⟩
      · exact hs1
      · rcases List.mem_or_eq_of_mem_set hz with h | h
        · exact hx3.2 z h
        · rw [h]; exact hy
    · obtain ⟨k0, inner', ko, kr⟩ := hR
      refine ⟨x, r65_mkM ⟨k0, inner', own_move ko (fun k hk => hfar k (fun he => hv (by rw [← he]; exact hk))), kr.imp_ (fun p c hp => ?_)⟩, hx3⟩
      exact q29.M_mono (fun k hk => hk.1) (q29.M_move (fun k hk => hfar k hk.2) (Kd.M_types hp hg (fun q hq => by
        have : q ∈ [37] := hq
        have : q = 37 := by simpa using this
        subst this
        decide)))) hr
  refine ⟨D', ⟨h0, inner, ?_, e2⟩, e1, e3⟩
  rw [e1]
  exact own_move ho (fun k hk => hfar k (fun he => hne (by rw [← he]; exact hk.symm)))
end Go.Proofs.Ytkoimmeghdbodaa.Hq
namespace Go.Proofs.Ytkoimmeghdbodaa.Print
open Go.RowKit Go.Maps Go.WideMaps Go.Proofs.YtkoimmeghdbodaaW.PrintWords Go.Proofs.YtkoimmeghdbodaaW.PrintLast Go.Proofs.YtkoimmeghdbodaaW.PrintMore Go.Proofs.Ytkoimmeghdbodaa.Pure
def RE (v : Value) : Option (DataW Value × List MemPlace) := some (.held v, [])
def putD (pv : Nat → Value) (D : DataW Value) (q : S37 × Nat) : DataW Value := D.put (plK q.1) (.held (pv q.2))
def ownD (pv : Nat → Value) (L : List (S37 × Nat)) : DataW Value := L.foldl (putD pv) (.map [])
theorem ownD_snoc (pv : Nat → Value) (L : List (S37 × Nat)) (q : S37 × Nat) : ownD pv (L ++ [q]) = (ownD pv L).put (plK q.1) (.held (pv q.2)) := by simp [ownD, putD, List.foldl_append]
def lastL (L : List (S37 × Nat)) (x : S37) : Option Nat := L.foldl (fun o q => if q.1 = x then some q.2 else o) none
theorem lastL_snoc (L : List (S37 × Nat)) (q : S37 × Nat) (x : S37) : lastL (L ++ [q]) x = if q.1 = x then some q.2 else lastL L x := by simp [lastL, List.foldl_append]
theorem plK_inj {x y : S37} (hx : PlWf x) (hy : PlWf y) (h : plK x = plK y) : x = y := by
  have h1 := plK_key x hx
  have h2 := plK_key y hy
  rw [← h] at h2
  have := plaw.inj h1 h2
  unfold plV at this
  have hh : x.f0 = y.f0 ∧ x.f1 = y.f1 := by
    simp only [Value.agg.injEq, Array.mk.injEq, List.cons.injEq, Value.int.injEq, true_and, and_true] at this
    exact this
  cases x; cases y
  simp only at hh
  rw [hh.1, hh.2]
theorem tidyL (pv : Nat → Value) (L : List (S37 × Nat)) : Maps.Tidy (ownD pv L) := by
  have : ∀ (M : List (S37 × Nat)) (D : DataW Value), Maps.Tidy D → Maps.Tidy (M.foldl (putD pv) D) := by
    intro M
    induction M with
    | nil => intro D h; exact h
    | cons q M ih => intro D h; exact ih _ (h.put (by exact trivial) _)
  exact this L _ Maps.tidy_empty
theorem rev_ind {α : Type} {P : List α → Prop} (h0 : P []) (h1 : ∀ l x, P l → P (l ++ [x])) : ∀ l, P l := by
  intro l
  have : ∀ n, ∀ l : List α, l.length = n → P l := by
    intro n
    induction n with
    | zero => intro l hl; rw [List.eq_nil_of_length_eq_zero hl]; exact h0
    | succ n ih =>
      intro l hl
      rcases List.eq_nil_or_concat l with rfl | ⟨l', x, rfl⟩
      · simp at hl
      · rw [List.concat_eq_append] at hl ⊢
        exact h1 _ _ (ih l' (by simp at hl; omega))
  exact this _ l rfl
theorem has_L (pv : Nat → Value) (x : S37) (hx : PlWf x) : ∀ L : List (S37 × Nat), (∀ q ∈ L, PlWf q.1) → Maps.has (ownD pv L) (plK x) = (lastL L x).isSome := by
  refine rev_ind (fun _ => rfl) fun L q ih hq => ?_
  rw [ownD_snoc, lastL_snoc]
  by_cases e : q.1 = x
  · rw [if_pos e, e, Maps.has_put_same (tidyL pv L).isMap (by exact trivial)]
    rfl
  · rw [if_neg e, Maps.has_put_other (fun h => e (plK_inj hx (hq q (by simp)) h).symm), ih (fun q hq2 => hq q (by simp [hq2]))]
theorem at_L (pv : Nat → Value) (x : S37) (hx : PlWf x) (z : DataW Value) : ∀ L : List (S37 × Nat), (∀ q ∈ L, PlWf q.1) → (ownD pv L).atKey (plK x) z = match lastL L x with | some t => .held (pv t) | none => z := by
  refine rev_ind (fun _ => rfl) fun L q ih hq => ?_
  rw [ownD_snoc, lastL_snoc]
  by_cases e : q.1 = x
  · rw [if_pos e, e, Maps.atKey_put_same (tidyL pv L).isMap (by exact trivial)]
  · rw [if_neg e, Maps.atKey_put_other (fun h => e (plK_inj hx (hq q (by simp)) h).symm), ih (fun q hq2 => hq q (by simp [hq2]))]
theorem lastL_mem {L : List (S37 × Nat)} {x : S37} {t : Nat} : lastL L x = some t → (x, t) ∈ L := by
  refine rev_ind (P := fun L => lastL L x = some t → (x, t) ∈ L) (fun h => by cases h) (fun L q ih h => ?_) L
  rw [lastL_snoc] at h
  by_cases e : q.1 = x
  · rw [if_pos e] at h
    have : q.2 = t := by simpa using h
    rw [← e, ← this]
    simp
  · rw [if_neg e] at h
    exact List.mem_append_left _ (ih h)
theorem lookup_known {H : Type} {P : Program} {w : World} {ops : Array Oper} {rest : List Oper} {o : Oper} {a : Act} {Q : Exit → Act → World → Prop} (hg : o.guard = none) (m x : Operand) (t : TypeId) (hop : o.op = Op.lookup t m x true)
    (k e : TypeId) (K : Keyed P k) (ht : P.underlying t = some (.map k e)) (R : Value → Option (DataW H × List MemPlace)) {z : Value} (hz : (zeroValue e).run P w = .ok z w) (zd : DataW H) (zp : List MemPlace) (hzd : R z = some (zd, zp)) (b n : Nat) (D : DataW H)
    (hm : a.eval m = .map (some b)) (hown : w.ownsMap P k R b n D) (key : Value) (kl : Lit) (hx : a.eval x = key) (hkey : keyOf P k key = some kl) (V : Value) (hb : Bool)
    (hV : ∀ v ps, R v = some (D.atKey kl zd, ps) → v = V) (hh : Maps.has D kl = hb)
    (hK : wpList P ops Q rest (a.put o.dst (.tuple #[V, .bool hb])) w) : wpList P ops Q (o :: rest) a w :=
  wpList_lookup_own_ok w hg m x t hop k e K ht R hz zd zp hzd b n D hm hown key kl hx hkey (fun v ps hv => by
    obtain rfl := hV v ps hv
    rw [hh]
    exact hK)
structure Keep (b : Nat) (u W : World) : Prop where
  size : u.heap.size ≤ W.heap.size
  block : ∀ k, k < u.heap.size → k ≠ b → W.heap[k]? = u.heap[k]?
theorem Keep.refl (b : Nat) (u : World) : Keep b u u := ⟨Nat.le_refl _, fun _ _ _ => rfl⟩
theorem Keep.below {b : Nat} {u W W' : World} (h : Keep b u W) (hb : Below W.heap.size W W') : Keep b u W' :=
  ⟨Nat.le_trans h.size hb.size, fun k hk hne => (hb.block k (Nat.lt_of_lt_of_le hk h.size)).trans (h.block k hk hne)⟩
theorem Keep.grown {b : Nat} {u W W' : World} (h : Keep b u W) (hg : W.grownBy W' (some b)) : Keep b u W' :=
  ⟨Nat.le_trans h.size hg.size, fun k hk hne => (hg.block k (Nat.lt_of_lt_of_le hk h.size) (fun e => hne (by cases e; rfl))).trans (h.block k hk hne)⟩
theorem Keep.cell {b : Nat} {u W : World} (h : Keep b u W) {es : Array MapEntry} {cl : Nat} (hm : u.heap[b]? = some (.map es cl)) {p : Addr} {v : Value} (hc : u.cell? p = some v) : W.cell? p = some v := by
  have hlt := World.block_lt_of_cell? u _ hc
  have hne : p.block ≠ b := by
    intro e
    unfold World.cell? at hc
    rw [e, hm] at hc
    cases hc
  exact (World.cell?_of_block (w := u) (h.block p.block hlt hne)).trans hc
structure PRow (W : World) (ad : Addr) (ps : List S29) (Af : Nat → Option Addr) (cf : Nat → Nat) : Prop where
  c0 : ∀ t, t < ps.length → W.cell? (ad.add (t * 3)) = some (.int .i64 (ps.getD t z29).f0)
  c1 : ∀ t, t < ps.length → W.cell? ⟨(ad.add (t * 3)).block, (ad.add (t * 3)).off + 1, none⟩ = some (.int .i64 (ps.getD t z29).f1)
  c2 : ∀ t, t < ps.length → W.cell? ⟨(ad.add (t * 3)).block, (ad.add (t * 3)).off + 2, none⟩ = some (.slice (Af t) (ps.getD t z29).f2.length (cf t))
  le : ∀ t, t < ps.length → (ps.getD t z29).f2.length ≤ cf t
  row : ∀ t, t < ps.length → Kd.C k37 W (Af t) (ps.getD t z29).f2.length (ps.getD t z29).f2
theorem prow_of {W : World} {ad : Addr} {ps : List S29} (h : Kd.C k29 W (some ad) ps.length ps) : ∃ Af cf, PRow W ad ps Af cf := by
  have key : ∀ t : Nat, ∃ q : Option Addr × Nat, t < ps.length → W.cell? (ad.add (t * 3)) = some (.int .i64 (ps.getD t z29).f0) ∧ W.cell? ⟨(ad.add (t * 3)).block, (ad.add (t * 3)).off + 1, none⟩ = some (.int .i64 (ps.getD t z29).f1) ∧ W.cell? ⟨(ad.add (t * 3)).block, (ad.add (t * 3)).off + 2, none⟩ = some (.slice q.1 (ps.getD t z29).f2.length q.2) ∧ (ps.getD t z29).f2.length ≤ q.2 ∧ Kd.C k37 W q.1 (ps.getD t z29).f2.length (ps.getD t z29).f2 := by
    intro t
    by_cases ht : t < ps.length
    · obtain ⟨ad', A2, c2, e, h0, h1, h2, h3, h4⟩ := at_T29 h (t : Int) (by omega) (by omega)
      cases e
      simp only [Int.toNat_natCast, rd_T29] at h0 h1 h2 h3 h4
      exact ⟨(A2, c2), fun _ => ⟨h0, h1, h2, h3, h4⟩⟩
    · exact ⟨(none, 0), fun h => absurd h ht⟩
  obtain ⟨q, hq⟩ := Classical.axiomOfChoice key
  exact ⟨fun t => (q t).1, fun t => (q t).2, fun t ht => (hq t ht).1, fun t ht => (hq t ht).2.1, fun t ht => (hq t ht).2.2.1, fun t ht => (hq t ht).2.2.2.1, fun t ht => (hq t ht).2.2.2.2⟩
theorem PRow.move {u W : World} {b : Nat} {ad : Addr} {ps : List S29} {Af : Nat → Option Addr} {cf : Nat → Nat} (h : PRow u ad ps Af cf) (hk : Keep b u W) {es : Array MapEntry} {cl : Nat} (hm : u.heap[b]? = some (.map es cl)) (hC : Kd.C k29 W (some ad) ps.length ps) : PRow W ad ps Af cf :=
  ⟨fun t ht => hk.cell hm (h.c0 t ht), fun t ht => hk.cell hm (h.c1 t ht), fun t ht => hk.cell hm (h.c2 t ht), h.le, fun t ht => by
    obtain ⟨ad', A2, c2, e, h0, h1, h2, h3, h4⟩ := at_T29 hC (t : Int) (by omega) (by omega)
    cases e
    simp only [Int.toNat_natCast, rd_T29] at h0 h1 h2 h3 h4
    have := (hk.cell hm (h.c2 t ht)).symm.trans h2
    simp only [Option.some.injEq, Value.slice.injEq] at this
    rw [this.1]
    exact h4⟩
theorem move_C {u W : World} {b : Nat} {A : Option Addr} {n : Nat} {ps : List S29} {B : Nat} (hF : Kd.F k29 u (fun k => k < B ∨ b < k) A n ps) (hB : B ≤ b) (hk : Keep b u W) : Kd.C k29 W A n ps :=
  Kd.F_now (Kd.F_step hF (fun k ho hlt => hk.block k hlt (by omega)))
def preL (ps : List S29) (i : Nat) : List (S37 × Nat) := (List.range i).flatMap fun t => (ps.getD t z29).f2.map fun x => (x, t)
def putL (ps : List S29) (i j : Nat) : List (S37 × Nat) := preL ps i ++ ((ps.getD i z29).f2.take j).map fun x => (x, i)
theorem putL_end (ps : List S29) (i : Nat) : putL ps i (ps.getD i z29).f2.length = putL ps (i + 1) 0 := by
  simp only [putL, preL, List.take_length, List.range_succ, List.flatMap_append, List.flatMap_cons, List.flatMap_nil, List.append_nil, List.take_zero, List.map_nil]
theorem take37 (l : List S37) (j : Nat) (h : j < l.length) : l.take (j + 1) = l.take j ++ [l.getD j z37] := by
  rw [List.take_add_one]
  simp [List.getD, h]
theorem putL_step (ps : List S29) (i j : Nat) (h : j < (ps.getD i z29).f2.length) : putL ps i (j + 1) = putL ps i j ++ [((ps.getD i z29).f2.getD j z37, i)] := by
  rw [putL, take37 _ j h, List.map_append, ← List.append_assoc]
  rfl
theorem putL_mem {ps : List S29} {i j : Nat} {q : S37 × Nat} (h : q ∈ putL ps i j) : q.2 ≤ i ∧ q.1 ∈ (ps.getD q.2 z29).f2 := by
  unfold putL preL at h
  rcases List.mem_append.1 h with h | h
  · obtain ⟨t, ht, hx⟩ := List.mem_flatMap.1 h
    obtain ⟨x, hx2, rfl⟩ := List.mem_map.1 hx
    exact ⟨Nat.le_of_lt (List.mem_range.1 ht), hx2⟩
  · obtain ⟨x, hx2, rfl⟩ := List.mem_map.1 h
    exact ⟨Nat.le_refl _, List.mem_of_mem_take hx2⟩
def stepOk (ps : List S29) (i j : Nat) : Bool := match lastL (putL ps i j) ((ps.getD i z29).f2.getD j z37) with
  | none => true
  | some t => sameB (ps.getD i z29) (ps.getD t z29)
def rowOk (ps : List S29) (i : Nat) : Bool := (List.range (ps.getD i z29).f2.length).all (stepOk ps i)
def implOwn (ps : List S29) : Bool := (List.range ps.length).all (rowOk ps)
theorem rowOk_iff (ps : List S29) (i : Nat) : rowOk ps i = true ↔ ∀ j, j < (ps.getD i z29).f2.length → stepOk ps i j = true := by
  unfold rowOk
  rw [List.all_eq_true]
  exact ⟨fun h j hj => h j (List.mem_range.2 hj), fun h j hj => h j (List.mem_range.1 hj)⟩
theorem implOwn_iff (ps : List S29) : implOwn ps = true ↔ ∀ i, i < ps.length → rowOk ps i = true := by
  unfold implOwn
  rw [List.all_eq_true]
  exact ⟨fun h j hj => h j (List.mem_range.2 hj), fun h j hj => h j (List.mem_range.1 hj)⟩
theorem implOwn_no {ps : List S29} {i j : Nat} (hi : i < ps.length) (hj : j < (ps.getD i z29).f2.length) (h : stepOk ps i j = false) : implOwn ps = false := by
  rw [Bool.eq_false_iff]
  intro hv
  rw [(rowOk_iff ps i).1 ((implOwn_iff ps).1 hv i hi) j hj] at h
  cases h
end Go.Proofs.Ytkoimmeghdbodaa.Print
namespace Go.Proofs.Ytkoimmeghdbodaa.Print
open Go.RowKit Go.Maps Go.WideMaps Go.Proofs.YtkoimmeghdbodaaW.PrintWords Go.Proofs.YtkoimmeghdbodaaW.PrintLast Go.Proofs.YtkoimmeghdbodaaW.PrintMore Go.Proofs.Ytkoimmeghdbodaa.Pure
theorem isPool_eq (n : Int) : impl_isPool.f n = some (decide (3 ≤ n ∧ n ≤ 4)) := by
  unfold impl_isPool.f
  by_cases h : n ≥ 3
  · rw [if_pos h]
    congr 1
    by_cases h2 : n ≤ 4
    · rw [decide_eq_true h2, decide_eq_true ⟨h, h2⟩]
    · rw [decide_eq_false h2, decide_eq_false (fun h3 => h2 h3.2)]
  · rw [if_neg h, decide_eq_false (fun h3 => h h3.1)]
def rootB (n tx : Int) (vs : List S65) : Bool := decide (3 ≤ n ∧ n ≤ 4) && (decide (0 ≤ tx) && (decide (tx ≤ 100000) && (volsB n vs && implOwn (ptrs vs))))
set_option maxHeartbeats 8000000 in
set_option maxRecDepth 100000 in
theorem rootOk_bad (n tx : Int) (A0 : Option Addr) (c0 : Nat) (l0 : List S65) (w : World) (hr0 : Kd.C k65 w A0 l0.length l0) (hc0 : l0.length ≤ c0) (hsz : ∀ x ∈ l0, ∀ y ∈ x.f1, y.f2.length ≤ 1048576) (hb0 : ¬ ((3 ≤ n ∧ n ≤ 4) ∧ 0 ≤ tx ∧ tx ≤ 100000 ∧ volsB n l0 = true)) :
    Calls Try.prog 38 #[.int .i64 n, .agg #[.int .i64 tx, .slice A0 l0.length c0]] w fun e w' => e = .returned (.bool false) ∧ Below w.heap.size w w' := by
  have hu57 := Try.underlying57
  have HB := Az.mk (Below.refl w.heap.size w)
  have HPB := Az.mk (fun (W : World) => impl_isPool.calls n _ W (isPool_eq n))
  have HVO := Az.mk (fun (W : World) (hb : Below w.heap.size w W) => volsOk_calls n A0 c0 l0 W (Kd.C_below hr0 hb) hc0 hsz)
  clear hr0 hc0 hsz
  by_cases c1 : 3 ≤ n ∧ n ≤ 4
  · rw [decide_eq_true c1] at HPB
    by_cases c2 : tx < 0
    · have d2 : decide (tx < 0) = true := decide_eq_true c2
      clear hb0 c1
      go_enter Try.func38, Try.ntmps38
      go_wp2_with (first | ((with_reducible refine zqg (N := 3) rfl ?_); refine zqb ?hg (N := 3) ?hd (cs := #[.int .i64 tx, .slice A0 l0.length c0]) (t := 57) ?hr ?_; (case hd => rfl); (case hg => rfl); (case hr => first | (go_simp; done) | (go_simp; rfl)); intro gb hg w5 hbox hb; have n0_ := Az.mk (below_step zB hb); have BR := Az.mk (show Blk w5 gb #[.int .i64 tx, .slice A0 l0.length c0] 57 from hbox); clear HB; have HB := n0_; clear n0_ hbox hb hg; have hcz_0 := (BR.out.cell 0).trans rfl; have hcz_1 := (BR.out.cell 1).trans rfl) | (go_at_call 55; refine (HPB.out _).mono ?_; rintro e w6 ⟨rfl, hb9⟩; replace hb9 := Drawn0.below hb9; have BRn := Az.mk (BR.out.below hb9); clear BR; have BR := BRn; clear BRn hcz_0 hcz_1; have hcz_0 := (BR.out.cell 0).trans rfl; have hcz_1 := (BR.out.cell 1).trans rfl; have n0_ := Az.mk (below_step zB hb9); clear HB; have HB := n0_; clear n0_ hb9) | go_in)
      go_ret
      exact ⟨rfl, zB⟩
    · have d2 : decide (tx < 0) = false := decide_eq_false c2
      by_cases c3 : tx > 100000
      · have d3 : decide (tx > 100000) = true := decide_eq_true c3
        have d3b : decide (100000 < tx) = true := decide_eq_true c3
        clear hb0 c1
        go_enter Try.func38, Try.ntmps38
        go_wp2_with (first | ((with_reducible refine zqg (N := 3) rfl ?_); refine zqb ?hg (N := 3) ?hd (cs := #[.int .i64 tx, .slice A0 l0.length c0]) (t := 57) ?hr ?_; (case hd => rfl); (case hg => rfl); (case hr => first | (go_simp; done) | (go_simp; rfl)); intro gb hg w5 hbox hb; have n0_ := Az.mk (below_step zB hb); have BR := Az.mk (show Blk w5 gb #[.int .i64 tx, .slice A0 l0.length c0] 57 from hbox); clear HB; have HB := n0_; clear n0_ hbox hb hg; have hcz_0 := (BR.out.cell 0).trans rfl; have hcz_1 := (BR.out.cell 1).trans rfl) | (go_at_call 55; refine (HPB.out _).mono ?_; rintro e w6 ⟨rfl, hb9⟩; replace hb9 := Drawn0.below hb9; have BRn := Az.mk (BR.out.below hb9); clear BR; have BR := BRn; clear BRn hcz_0 hcz_1; have hcz_0 := (BR.out.cell 0).trans rfl; have hcz_1 := (BR.out.cell 1).trans rfl; have n0_ := Az.mk (below_step zB hb9); clear HB; have HB := n0_; clear n0_ hb9) | go_in)
        go_ret
        exact ⟨rfl, zB⟩
      · have d3 : decide (tx > 100000) = false := decide_eq_false c3
        have d3b : decide (100000 < tx) = false := decide_eq_false c3
        have c4 : volsB n l0 = false := by
          rw [Bool.eq_false_iff]
          exact fun h => hb0 ⟨c1, by omega, by omega, h⟩
        rw [c4] at HVO
        clear hb0 c1 c4
        go_enter Try.func38, Try.ntmps38
        go_wp2_with (first | ((with_reducible refine zqg (N := 3) rfl ?_); refine zqb ?hg (N := 3) ?hd (cs := #[.int .i64 tx, .slice A0 l0.length c0]) (t := 57) ?hr ?_; (case hd => rfl); (case hg => rfl); (case hr => first | (go_simp; done) | (go_simp; rfl)); intro gb hg w5 hbox hb; have n0_ := Az.mk (below_step zB hb); have BR := Az.mk (show Blk w5 gb #[.int .i64 tx, .slice A0 l0.length c0] 57 from hbox); clear HB; have HB := n0_; clear n0_ hbox hb hg; have hcz_0 := (BR.out.cell 0).trans rfl; have hcz_1 := (BR.out.cell 1).trans rfl) | (go_at_call 55; refine (HPB.out _).mono ?_; rintro e w6 ⟨rfl, hb9⟩; replace hb9 := Drawn0.below hb9; have BRn := Az.mk (BR.out.below hb9); clear BR; have BR := BRn; clear BRn hcz_0 hcz_1; have hcz_0 := (BR.out.cell 0).trans rfl; have hcz_1 := (BR.out.cell 1).trans rfl; have n0_ := Az.mk (below_step zB hb9); clear HB; have HB := n0_; clear n0_ hb9) | (go_at_call 78; refine (HVO.out _ zB).mono ?_; rintro e w7 ⟨rfl, hb9⟩; have BRn := Az.mk (BR.out.below hb9); clear BR; have BR := BRn; clear BRn hcz_0 hcz_1; have hcz_0 := (BR.out.cell 0).trans rfl; have hcz_1 := (BR.out.cell 1).trans rfl; have n0_ := Az.mk (below_step zB hb9); clear HB; have HB := n0_; clear n0_ hb9) | go_in)
        go_ret
        exact ⟨rfl, zB⟩
  · rw [decide_eq_false c1] at HPB
    clear hb0 c1
    go_enter Try.func38, Try.ntmps38
    go_wp2_with (first | ((with_reducible refine zqg (N := 3) rfl ?_); refine zqb ?hg (N := 3) ?hd (cs := #[.int .i64 tx, .slice A0 l0.length c0]) (t := 57) ?hr ?_; (case hd => rfl); (case hg => rfl); (case hr => first | (go_simp; done) | (go_simp; rfl)); intro gb hg w5 hbox hb; have n0_ := Az.mk (below_step zB hb); have BR := Az.mk (show Blk w5 gb #[.int .i64 tx, .slice A0 l0.length c0] 57 from hbox); clear HB; have HB := n0_; clear n0_ hbox hb hg; have hcz_0 := (BR.out.cell 0).trans rfl; have hcz_1 := (BR.out.cell 1).trans rfl) | (go_at_call 55; refine (HPB.out _).mono ?_; rintro e w6 ⟨rfl, hb9⟩; replace hb9 := Drawn0.below hb9; have BRn := Az.mk (BR.out.below hb9); clear BR; have BR := BRn; clear BRn hcz_0 hcz_1; have hcz_0 := (BR.out.cell 0).trans rfl; have hcz_1 := (BR.out.cell 1).trans rfl; have n0_ := Az.mk (below_step zB hb9); clear HB; have HB := n0_; clear n0_ hb9) | go_in)
    go_ret
    exact ⟨rfl, zB⟩
end Go.Proofs.Ytkoimmeghdbodaa.Print
namespace Go.Proofs.Ytkoimmeghdbodaa.Print
open Go.RowKit Go.Maps Go.WideMaps Go.Proofs.YtkoimmeghdbodaaW.PrintWords Go.Proofs.YtkoimmeghdbodaaW.PrintLast Go.Proofs.YtkoimmeghdbodaaW.PrintMore Go.Proofs.Ytkoimmeghdbodaa.Pure
theorem wf_small {x : Int} (h : -1000000 ≤ x ∧ x ≤ 1000000) : (Lit.int .i64 x).wf = true := WalkArith.wf_i64 (by omega)
theorem good_places {n s m : Int} {l : List S37} (hn : 3 ≤ n ∧ n ≤ 4) (h : PtrGood n s m l) : l.length ≤ 4 ∧ ∀ x ∈ l, PlWf x := by
  rcases h with h | h
  · have : l = [] := List.eq_nil_of_length_eq_zero h.2.2
    subst this
    simp
  · refine ⟨by have := h.2.2.1; omega, fun x hx => ?_⟩
    obtain ⟨i, hi, rfl⟩ := List.getElem_of_mem hx
    have := (h.2.2.2 i hi).1
    unfold plAt PlaceIn at this
    simp only [List.getD, List.getElem?_eq_getElem hi, Option.getD_some] at this
    exact ⟨wf_small (by omega), wf_small (by omega)⟩
theorem vols_good {n : Int} {vs : List S65} (h : volsB n vs = true) : vs.length ≤ 4 ∧ (∀ x ∈ vs, x.f1.length = 3) ∧ ∀ p ∈ ptrs vs, ptrC n p = true := by
  unfold volsB at h
  rw [Bool.and_eq_true, decide_eq_true_iff, List.all_eq_true] at h
  have key : ∀ x ∈ vs, x.f1.length = 3 ∧ ∀ p ∈ x.f1, ptrC n p = true := by
    intro x hx
    obtain ⟨i, hi, rfl⟩ := List.getElem_of_mem hx
    have := h.1 i (List.mem_range.2 hi)
    unfold volAt at this
    have e : vs.getD i z65 = vs[i] := by simp [List.getD, hi]
    rw [e, Bool.and_eq_true, Bool.and_eq_true, Bool.and_eq_true, decide_eq_true_iff, Bool.not_eq_true', Bool.not_eq_true', List.any_eq_false] at this
    exact ⟨this.1.2, fun p hp => by simpa using (List.any_eq_false.1 this.2.2) p hp⟩
  exact ⟨h.2, fun x hx => (key x hx).1, fun p hp => by
    obtain ⟨x, hx, hp2⟩ := List.mem_flatMap.1 hp
    exact (key x hx).2 p hp2⟩
theorem own_move {P : Program} {k : TypeId} {R : Value → Option (DataW Value × List MemPlace)} {b n : Nat} {D : DataW Value} {w w' : World} (h : w.ownsMap P k R b n D) (e : w'.heap[b]? = w.heap[b]?) : w'.ownsMap P k R b n D := by
  obtain ⟨es, c, h1, r⟩ := h
  exact ⟨es, c, e.trans h1, r⟩
theorem re_inv {v V : Value} {D : DataW Value} {qs : List MemPlace} (h : RE v = some (D, qs)) (e : D = .held V) : v = V := by
  rw [e] at h
  simp only [RE, Option.some.injEq, Prod.mk.injEq, DataW.held.injEq] at h
  exact h.1
theorem own_le {P : Program} {k : TypeId} {R : Value → Option (DataW Value × List MemPlace)} {b n m : Nat} {D : DataW Value} {w : World} (h : w.ownsMap P k R b n D) (e : n ≤ m) : w.ownsMap P k R b m D := by
  obtain ⟨es, c, h1, h2, h3, h4⟩ := h
  exact ⟨es, c, h1, h2, Nat.le_trans h3 e, h4⟩
def ptrV (p : S29) (A : Option Addr) (c : Nat) : Value := .agg #[.int .i64 p.f0, .int .i64 p.f1, .slice A p.f2.length c]
set_option maxHeartbeats 16000000 in
set_option maxRecDepth 100000 in
theorem rootOk_good (n tx : Int) (A0 : Option Addr) (c0 : Nat) (l0 : List S65) (w : World) (hr0 : Kd.C k65 w A0 l0.length l0) (hc0 : l0.length ≤ c0) (hsz : ∀ x ∈ l0, ∀ y ∈ x.f1, y.f2.length ≤ 1048576) (h1 : 3 ≤ n ∧ n ≤ 4) (h2 : 0 ≤ tx) (h3 : tx ≤ 100000) (h4 : volsB n l0 = true) :
    Calls Try.prog 38 #[.int .i64 n, .agg #[.int .i64 tx, .slice A0 l0.length c0]] w fun e w' => e = .returned (.bool (implOwn (ptrs l0))) ∧ Below w.heap.size w w' := by
  have hu57 := Try.underlying57
  have hu29 := Try.underlying29
  have hu37 := Try.underlying37
  have hmm := @run_makeMap Try.prog
  have HB := Az.mk (Below.refl w.heap.size w)
  have HPB := Az.mk (fun (W : World) => impl_isPool.calls n _ W (isPool_eq n))
  have HVO := Az.mk (fun (W : World) (hb : Below w.heap.size w W) => volsOk_calls n A0 c0 l0 W (Kd.C_below hr0 hb) hc0 hsz)
  have hvg := vols_good h4
  obtain ⟨kp, hkp⟩ := ptrs_some tx l0 hvg.1 hvg.2.1
  have HPT := Az.mk (fun (W : World) (hb : Below w.heap.size w W) => impl_Root_ptrs.calls kp tx (fun k_ => k_ < w.heap.size) A0 c0 l0 (ptrs l0) W (Kd.V_mk hc0 (Kd.F_below (Kd.C_F k65_heap hr0) hb)) hkp)
  have hpl : (ptrs l0).length ≤ 12 := by
    have := ptrs_take_len hvg.2.1 l0.length (Nat.le_refl _)
    rw [List.take_length] at this
    have := hvg.1
    omega
  have hpg : ∀ p ∈ ptrs l0, p.f2.length ≤ 4 ∧ ∀ x ∈ p.f2, PlWf x := fun p hp => good_places h1 (of_decide_eq_true (hvg.2.2 p hp)).2
  rw [decide_eq_true h1] at HPB
  rw [h4] at HVO
  generalize ptrs l0 = ps at HPT hpl hpg ⊢
  have d2 : decide (tx < 0) = false := decide_eq_false (by omega)
  have d3 : decide (tx > 100000) = false := decide_eq_false (by omega)
  have d3b : decide (100000 < tx) = false := decide_eq_false (by omega)
  have HPL := Az.mk hpl
  have HPG := Az.mk hpg
  clear hr0 hc0 hsz h1 h2 h3 h4 hvg hkp hpl hpg
  go_enter Try.func38, Try.ntmps38
  go_wp2_with (first | ((with_reducible refine zqg (N := 3) rfl ?_); refine zqb ?hg (N := 3) ?hd (cs := #[.int .i64 tx, .slice A0 l0.length c0]) (t := 57) ?hr ?_; (case hd => rfl); (case hg => rfl); (case hr => first | (go_simp; done) | (go_simp; rfl)); intro gb hg w5 hbox hb; have n0_ := Az.mk (below_step zB hb); have BR := Az.mk (show Blk w5 gb #[.int .i64 tx, .slice A0 l0.length c0] 57 from hbox); clear HB; have HB := n0_; clear n0_ hbox hb hg; have hcz_0 := (BR.out.cell 0).trans rfl; have hcz_1 := (BR.out.cell 1).trans rfl) | (go_at_call 55; refine (HPB.out _).mono ?_; rintro e w6 ⟨rfl, hb9⟩; replace hb9 := Drawn0.below hb9; have BRn := Az.mk (BR.out.below hb9); clear BR; have BR := BRn; clear BRn hcz_0 hcz_1; have hcz_0 := (BR.out.cell 0).trans rfl; have hcz_1 := (BR.out.cell 1).trans rfl; have n0_ := Az.mk (below_step zB hb9); clear HB; have HB := n0_; clear n0_ hb9) | (go_at_call 78; refine (HVO.out _ zB).mono ?_; rintro e w7 ⟨rfl, hb9⟩; have BRn := Az.mk (BR.out.below hb9); clear BR; have BR := BRn; clear BRn hcz_0 hcz_1; have hcm_0 := ((BR.out.alloc (Obj.map #[] 0)).cell 0).trans rfl; have hcm_1 := ((BR.out.alloc (Obj.map #[] 0)).cell 1).trans rfl; have n0_ := Az.mk (below_step zB hb9); clear HB; have HB := n0_; clear n0_ hb9) | (go_at_call 79; refine (HPT.out _ zB).mono ?_; rintro e w10 ⟨v, rfl, hN, hb9⟩; obtain ⟨A1, c1, rfl, hl1, hC1⟩ := Kd.N_reads hN; have HF := Az.mk (Kd.F_mono (Kd.N_F hN) (fun k hk => (show k < w.heap.size ∨ w7.heap.size < k from hk.imp id (fun h => by rw [World.size_alloc] at h; omega)))); have HMP := Az.mk ((hb9.block w7.heap.size (by simp)).trans (World.alloc_heap_new w7 (Obj.map #[] 0))); have HW7 := Az.mk HB.out.size; have HLT := Az.mk (Array.getElem?_eq_some_iff.1 HMP.out).1; have HC1 := Az.mk hC1; clear hcm_0 hcm_1 hN hl1 hC1; have n0_ := Az.mk (below_step zB hb9); clear HB; have HB := n0_; clear n0_ hb9) | go_in)
  obtain ⟨Af, cf, hPR⟩ : ∃ Af cf, ∀ ad, A1 = some ad → PRow w10 ad ps Af cf := by
    cases hA : A1 with
    | none => exact ⟨fun _ => none, fun _ => 0, fun ad h => by cases h⟩
    | some ad =>
      obtain ⟨Af, cf, h⟩ := prow_of (by have := HC1.out; rw [hA] at this; exact this)
      exact ⟨Af, cf, fun ad' h' => by cases h'; exact h⟩
  have HPR := Az.mk hPR
  have HK0 := Az.mk (Keep.refl w7.heap.size w10)
  have HO0 := Az.mk (own_move (World.ownsMap_made (H := Value) w7 Try.prog 37 RE) (w' := w10) (HMP.out.trans (World.alloc_heap_new w7 (Obj.map #[] 0)).symm))
  clear hPR
  go_loopg [36] ps.length (fun kq v36 wr => ∃ (i : Nat), v36 = .int .i64 (i : Int) ∧ Az (i + kq = ps.length) ∧ Az (∀ t, t < i → rowOk ps t = true) ∧ Az (wr.ownsMap Try.prog 37 RE w7.heap.size (i * 16) (ownD (fun t => ptrV (ps.getD t z29) (Af t) (cf t)) (putL ps i 0))) ∧ Az (Below w.heap.size w wr) ∧ Az (Keep w7.heap.size w10 wr))
  case atStart => exact ⟨0, rfl, ⟨Nat.zero_add _⟩, ⟨fun t ht => by omega⟩, ⟨HO0.out⟩, ⟨zB⟩, ⟨HK0.out⟩⟩
  case round =>
    obtain ⟨i, rfl, HI, HF0, HO, HB, HK⟩ := hrel
    by_cases e1 : i < ps.length
    · have e1b : decide ((i : Int) < (ps.length : Int)) = true := decide_eq_true (by omega)
      have p1 := eq_true (show (0 : Int) ≤ (i : Int) by omega)
      have q1 := eq_true (show (i : Int) < (ps.length : Int) by omega)
      obtain ⟨ad, rfl⟩ : ∃ ad, A1 = some ad := by
        obtain ⟨ad, h, _⟩ := HC1.out.2.2 (by omega)
        exact ⟨ad, h⟩
      have hP := (HPR.out ad rfl).move HK.out HMP.out (move_C HF.out HW7.out HK.out)
      have hx_0 := hP.c0 i e1
      have hx_1 := hP.c1 i e1
      have hx_2 := hP.c2 i e1
      have HG := Az.mk (HPG.out _ (getD_mem (z := z29) e1))
      have HE1 := Az.mk e1
      obtain ⟨p, hE⟩ : ∃ p, p = ps.getD i z29 := ⟨_, rfl⟩
      rw [← hE] at hx_0 hx_1 hx_2 HG
      have HE := Az.mk hE
      obtain ⟨A7, hA7⟩ : ∃ A7, A7 = Af i := ⟨_, rfl⟩
      rw [← hA7] at hx_2
      have HA7 := Az.mk hA7
      clear hE hP hA7
      go_wp2
      obtain ⟨wo, hwo⟩ : ∃ wo, wo = wr := ⟨_, rfl⟩
      subst hwo
      obtain ⟨go, hgo⟩ : ∃ go, go = gk := ⟨_, rfl⟩
      subst hgo
      have hb : Below wo.heap.size wo (wo.alloc (Obj.cells #[Value.int .i64 p.f0, Value.int .i64 p.f1, Value.slice A7 p.f2.length (cf i)] 29)) := (Below.refl wo.heap.size wo).alloc (Nat.le_refl _) _
      have HKS := Az.mk HK.out.size
      have B7 : Az (Blk (wo.alloc (Obj.cells #[Value.int .i64 p.f0, Value.int .i64 p.f1, Value.slice A7 p.f2.length (cf i)] 29)) wo.heap.size #[Value.int .i64 p.f0, Value.int .i64 p.f1, Value.slice A7 p.f2.length (cf i)] 29) := ⟨Blk.made wo _ 29⟩
      have hK9 := Az.mk (HK.out.below hb)
      have hO9 := Az.mk (own_move HO.out (hb.block _ (Nat.lt_of_lt_of_le HLT.out HK.out.size)))
      have hB9 := Az.mk (below_step HB.out hb)
      clear HK HO HB hb hx_0 hx_1 hx_2
      have HGL := Az.mk HG.out.1
      go_loopg [43] p.f2.length (fun kq v43 wi => ∃ (j : Nat), v43 = .int .i64 (j : Int) ∧ Az (j + kq = p.f2.length) ∧ Az (∀ j', j' < j → stepOk ps i j' = true) ∧ Az (wi.ownsMap Try.prog 37 RE w7.heap.size (i * 16 + j) (ownD (fun t => ptrV (ps.getD t z29) (Af t) (cf t)) (putL ps i j))) ∧ Az (Below w.heap.size w wi) ∧ Az (Keep w7.heap.size w10 wi) ∧ Az (Blk wi wo.heap.size #[Value.int .i64 p.f0, Value.int .i64 p.f1, Value.slice A7 p.f2.length (cf i)] 29))
      case atStart => exact ⟨0, rfl, ⟨Nat.zero_add _⟩, ⟨fun t ht => by omega⟩, hO9, hB9, hK9, B7⟩
      case round =>
        obtain ⟨j, rfl, HJ, HF1, HO, HB, HK, B7⟩ := hrel
        have HW1 : Az (wrap64 ((j : Int) + 1) = ((j + 1 : Nat) : Int)) := ⟨by rw [wrap_ok (by have := HJ.out; have := HGL.out; omega)]; omega⟩
        have hWi : Az (wrap64 ((i : Int) + 1) = ((i + 1 : Nat) : Int)) := ⟨by rw [wrap_ok (by have := HPL.out; have := HE1.out; omega)]; omega⟩
        by_cases e2 : j < p.f2.length
        · have e2b : decide ((j : Int) < (p.f2.length : Int)) = true := decide_eq_true (by omega)
          have p2 := eq_true (show (0 : Int) ≤ (j : Int) by omega)
          have q2 := eq_true (show (j : Int) < (p.f2.length : Int) by omega)
          have hP := (HPR.out ad rfl).move HK.out HMP.out (move_C HF.out HW7.out HK.out)
          have hrow := hP.row i HE1.out
          rw [← HE.out, ← HA7.out] at hrow
          obtain ⟨ad2, eA, hy_0, hy_1⟩ := at_T37 hrow (j : Int) (by omega) (by omega)
          subst eA
          simp only [Int.toNat_natCast, rd_T37] at hy_0 hy_1
          obtain ⟨x, hX⟩ : ∃ x, x = p.f2.getD j z37 := ⟨_, rfl⟩
          rw [← hX] at hy_0 hy_1
          have HX := Az.mk hX
          have hxw : PlWf x := HG.out.2 x (hX ▸ getD_mem e2)
          have HKY := Az.mk (plK_key x hxw)
          have hall : ∀ q ∈ putL ps i j, PlWf q.1 := fun q hq => by
            have h := putL_mem hq
            exact (HPG.out _ (getD_mem (z := z29) (Nat.lt_of_le_of_lt h.1 HE1.out))).2 _ h.2
          have hhas := has_L (fun t => ptrV (ps.getD t z29) (Af t) (cf t)) x hxw (putL ps i j) hall
          have hat := at_L (fun t => ptrV (ps.getD t z29) (Af t) (cf t)) x hxw (.held (.agg #[.int .i64 0, .int .i64 0, .slice none 0 0])) (putL ps i j) hall
          have HNL : Az (i * 16 + j < maxLen) := ⟨by have := HGL.out; have := HPL.out; have := HE1.out; unfold maxLen; omega⟩
          have hstep : stepOk ps i j = match lastL (putL ps i j) x with | none => true | some t => sameB p (ps.getD t z29) := by
            unfold stepOk
            rw [← HE.out, ← hX]
            try rfl
          have hmem := fun t (h : lastL (putL ps i j) x = some t) => (putL_mem (lastL_mem h)).1
          clear hX hrow hP hxw hall
          cases hL : lastL (putL ps i j) x with
          | none =>
            rw [hL] at hhas hat hstep
            have HAT := Az.mk hat
            have HHS := Az.mk hhas
            have HSOK := Az.mk hstep
            clear hhas hat hstep hmem hL
            have hb1 : Below wr.heap.size wr (wr.alloc (Obj.cells #[Value.int .i64 x.f0, Value.int .i64 x.f1] 37)) := (Below.refl wr.heap.size wr).alloc (Nat.le_refl _) _; have hb2 : Below wr.heap.size wr ((wr.alloc (Obj.cells #[Value.int .i64 x.f0, Value.int .i64 x.f1] 37)).alloc (Obj.cells #[Value.int .i64 0, Value.int .i64 0, Value.slice none 0 0] 29)) := hb1.alloc (by simp) _; have HO1 := Az.mk (own_move HO.out (hb1.block _ (Nat.lt_of_lt_of_le HLT.out HK.out.size))); have HO2 := Az.mk (own_move HO.out (hb2.block _ (Nat.lt_of_lt_of_le HLT.out HK.out.size))); have HB2 := Az.mk (below_step HB.out hb2); have HK2 := Az.mk (HK.out.below hb2); have B72 := Az.mk (B7.out.below hb2); have B9 : Az (Blk ((wr.alloc (Obj.cells #[Value.int .i64 x.f0, Value.int .i64 x.f1] 37)).alloc (Obj.cells #[Value.int .i64 0, Value.int .i64 0, Value.slice none 0 0] 29)) wr.heap.size #[Value.int .i64 x.f0, Value.int .i64 x.f1] 37) := ⟨(Blk.made wr _ 37).alloc _⟩; have B10 : Az (Blk ((wr.alloc (Obj.cells #[Value.int .i64 x.f0, Value.int .i64 x.f1] 37)).alloc (Obj.cells #[Value.int .i64 0, Value.int .i64 0, Value.slice none 0 0] 29)) (wr.heap.size + 1) #[Value.int .i64 0, Value.int .i64 0, Value.slice none 0 0] 29) := ⟨by have h := Blk.made (wr.alloc (Obj.cells #[Value.int .i64 x.f0, Value.int .i64 x.f1] 37)) #[Value.int .i64 0, Value.int .i64 0, Value.slice none 0 0] 29; rw [World.size_alloc] at h; exact h⟩; have hc9_0 := (B9.out.cell 0).trans rfl; have hc9_1 := (B9.out.cell 1).trans rfl; have hc7_0 := (B72.out.cell 0).trans rfl; have hc7_1 := (B72.out.cell 1).trans rfl; have hc7_2 := (B72.out.cell 2).trans rfl; have hca_0 := (B10.out.cell 0).trans rfl; have hca_1 := (B10.out.cell 1).trans rfl; have hca_2 := (B10.out.cell 2).trans rfl; clear hb1 hb2
            go_wp2_with (first | (at_lookup; (refine lookup_known rfl _ _ 100 rfl 37 29 plaw Try.underlying100 RE (pzero _) (.held (.agg #[.int .i64 0, .int .i64 0, .slice none 0 0])) [] rfl w7.heap.size _ _ rfl HO1.out (plV x) (plK x) rfl HKY.out (.agg #[.int .i64 0, .int .i64 0, .slice none 0 0]) false (fun v qs h => re_inv h HAT.out) HHS.out ?_)) | (at_mapUpdate; go_loud (refine wpList_mapUpdate_own _ rfl _ _ _ 100 rfl 37 29 plaw Try.underlying100 RE w7.heap.size (i * 16 + j) (ownD (fun t => ptrV (ps.getD t z29) (Af t) (cf t)) (putL ps i j)) rfl HO2.out HNL.out (plV x) (ptrV p (some ad2) (cf i)) (plK x) rfl rfl HKY.out (.held (ptrV p (some ad2) (cf i))) [] rfl ?_; intro w1 hown1 hgrow1)) | go_in)
            have R1 : w1.ownsMap Try.prog 37 RE w7.heap.size (i * 16 + (j + 1)) (ownD (fun t => ptrV (ps.getD t z29) (Af t) (cf t)) (putL ps i (j + 1))) := by
              rw [putL_step ps i j (by rw [← HE.out]; exact e2), ownD_snoc, ← HE.out, ← HX.out]
              rw [← Nat.add_assoc]
              have h := hown1
              rw [HA7.out, HE.out] at h
              rw [HE.out]
              exact h
            have R2 : Below w.heap.size w w1 := HB2.out.grown hgrow1 HB2.out.size (fun k hk => by cases hk; exact HW7.out)
            have R3 := HK2.out.grown hgrow1
            have R4 : Blk w1 wo.heap.size #[Value.int .i64 p.f0, Value.int .i64 p.f1, Value.slice (some ad2) p.f2.length (cf i)] 29 := (hgrow1.block _ B72.out.lt (fun e => by have := HLT.out; have := HKS.out; injection e with e; omega)).trans B72.out
            clear hown1 hgrow1 hc9_0 hc9_1 hc7_0 hc7_1 hc7_2
            go_wp2
            go_roundg (p.f2.length - (j + 1))
            case measure => have := HJ.out; omega
            case rel => exact ⟨j + 1, by rw [← HW1.out], ⟨by have := HJ.out; omega⟩, ⟨fun j' hj' => by
                by_cases e : j' = j
                · rw [e]; exact HSOK.out
                · exact HF1.out j' (by omega)⟩, ⟨R1⟩, ⟨R2⟩, ⟨R3⟩, ⟨R4⟩⟩
          | some t =>
            rw [hL] at hhas hat hstep
            have htl : t < ps.length := Nat.lt_of_le_of_lt (hmem t hL) HE1.out
            obtain ⟨y, hY⟩ : ∃ y, y = ps.getD t z29 := ⟨_, rfl⟩
            have hY2 : ptrV (ps.getD t z29) (Af t) (cf t) = ptrV y (Af t) (cf t) := by rw [hY]
            dsimp only at hat
            rw [hY2] at hat
            clear hY2
            dsimp only at hstep
            rw [← hY] at hstep
            have HTL := Az.mk htl
            have HAT : Az ((ownD (fun t => ptrV (ps.getD t z29) (Af t) (cf t)) (putL ps i j)).atKey (plK x) (.held (.agg #[.int .i64 0, .int .i64 0, .slice none 0 0])) = .held (.agg #[Value.int .i64 y.f0, Value.int .i64 y.f1, Value.slice (Af t) y.f2.length (cf t)])) := Az.mk hat
            have HHS := Az.mk hhas
            obtain ⟨ks, hks⟩ := Ev.rounds (same_ev p y (Nat.le_trans HGL.out (by omega)))
            have HSP : Az (∀ (W : World), Below w.heap.size w W → Keep w7.heap.size w10 W → Calls Try.prog 80 #[.agg #[Value.int .i64 p.f0, Value.int .i64 p.f1, Value.slice (some ad2) p.f2.length (cf i)], .agg #[Value.int .i64 y.f0, Value.int .i64 y.f1, Value.slice (Af t) y.f2.length (cf t)]] W fun e w' => e = .returned (.bool (sameB p y)) ∧ Below W.heap.size W w') := ⟨fun W _ hK => by
              have hP := (HPR.out ad rfl).move hK HMP.out (move_C HF.out HW7.out hK)
              have hr2 := hP.row t htl
              have hl2 := hP.le t htl
              rw [← hY] at hr2 hl2
              have hr1 := hP.row i HE1.out
              have hl1 := hP.le i HE1.out
              rw [← HE.out] at hr1 hl1
              rw [← HA7.out] at hr1
              exact impl_samePtr.calls ks p.f0 p.f1 (some ad2) (cf i) p.f2 _ _ (Af t) (cf t) _ _ W hr1 hl1 hr2 hl2 hks⟩
            clear hhas hat hmem hL htl hks hY
            cases hS : sameB p y with
            | true =>
              have HSOK : Az (stepOk ps i j = true) := ⟨by rw [hstep]; exact hS⟩
              rw [hS] at HSP
              clear hstep hS
              have hb1 : Below wr.heap.size wr (wr.alloc (Obj.cells #[Value.int .i64 x.f0, Value.int .i64 x.f1] 37)) := (Below.refl wr.heap.size wr).alloc (Nat.le_refl _) _; have hb2 : Below wr.heap.size wr ((wr.alloc (Obj.cells #[Value.int .i64 x.f0, Value.int .i64 x.f1] 37)).alloc (Obj.cells #[Value.int .i64 y.f0, Value.int .i64 y.f1, Value.slice (Af t) y.f2.length (cf t)] 29)) := hb1.alloc (by simp) _; have HO1 := Az.mk (own_move HO.out (hb1.block _ (Nat.lt_of_lt_of_le HLT.out HK.out.size))); have HO2 := Az.mk (own_move HO.out (hb2.block _ (Nat.lt_of_lt_of_le HLT.out HK.out.size))); have HB2 := Az.mk (below_step HB.out hb2); have HK2 := Az.mk (HK.out.below hb2); have B72 := Az.mk (B7.out.below hb2); have B9 : Az (Blk ((wr.alloc (Obj.cells #[Value.int .i64 x.f0, Value.int .i64 x.f1] 37)).alloc (Obj.cells #[Value.int .i64 y.f0, Value.int .i64 y.f1, Value.slice (Af t) y.f2.length (cf t)] 29)) wr.heap.size #[Value.int .i64 x.f0, Value.int .i64 x.f1] 37) := ⟨(Blk.made wr _ 37).alloc _⟩; have B10 : Az (Blk ((wr.alloc (Obj.cells #[Value.int .i64 x.f0, Value.int .i64 x.f1] 37)).alloc (Obj.cells #[Value.int .i64 y.f0, Value.int .i64 y.f1, Value.slice (Af t) y.f2.length (cf t)] 29)) (wr.heap.size + 1) #[Value.int .i64 y.f0, Value.int .i64 y.f1, Value.slice (Af t) y.f2.length (cf t)] 29) := ⟨by have h := Blk.made (wr.alloc (Obj.cells #[Value.int .i64 x.f0, Value.int .i64 x.f1] 37)) #[Value.int .i64 y.f0, Value.int .i64 y.f1, Value.slice (Af t) y.f2.length (cf t)] 29; rw [World.size_alloc] at h; exact h⟩; have hc9_0 := (B9.out.cell 0).trans rfl; have hc9_1 := (B9.out.cell 1).trans rfl; have hc7_0 := (B72.out.cell 0).trans rfl; have hc7_1 := (B72.out.cell 1).trans rfl; have hc7_2 := (B72.out.cell 2).trans rfl; have hca_0 := (B10.out.cell 0).trans rfl; have hca_1 := (B10.out.cell 1).trans rfl; have hca_2 := (B10.out.cell 2).trans rfl; clear hb1 hb2
              go_wp2_with (first | (at_lookup; (refine lookup_known rfl _ _ 100 rfl 37 29 plaw Try.underlying100 RE (pzero _) (.held (.agg #[.int .i64 0, .int .i64 0, .slice none 0 0])) [] rfl w7.heap.size _ _ rfl HO1.out (plV x) (plK x) rfl HKY.out (.agg #[Value.int .i64 y.f0, Value.int .i64 y.f1, Value.slice (Af t) y.f2.length (cf t)]) true (fun v qs h => re_inv h HAT.out) HHS.out ?_)) | (go_at_call 80; go_loud (refine (HSP.out _ HB2.out HK2.out).mono ?_; rintro e w12 ⟨rfl, hb⟩; have hK9 := Az.mk (HK2.out.below hb); have hO9 := Az.mk (own_move HO2.out (hb.block _ (Nat.lt_of_lt_of_le HLT.out HK2.out.size))); have hB9 := Az.mk (below_step HB2.out hb); have h79 := Az.mk (B72.out.below hb); clear HK HO HB B7 HK2 HO2 HB2 B72; have HK := hK9; have HO := hO9; have HB := hB9; have B7 := h79; clear hK9 hO9 hB9 h79; have h99 := Az.mk (B9.out.below hb); clear B9 hc9_0 hc9_1; have B9 := h99; clear h99; clear hc7_0 hc7_1 hc7_2 hca_0 hca_1 hca_2 B10; have hc9_0 := (B9.out.cell 0).trans rfl; have hc9_1 := (B9.out.cell 1).trans rfl; have hc7_0 := (B7.out.cell 0).trans rfl; have hc7_1 := (B7.out.cell 1).trans rfl; have hc7_2 := (B7.out.cell 2).trans rfl; clear hb)) | (at_mapUpdate; go_loud (refine wpList_mapUpdate_own _ rfl _ _ _ 100 rfl 37 29 plaw Try.underlying100 RE w7.heap.size (i * 16 + j) (ownD (fun t => ptrV (ps.getD t z29) (Af t) (cf t)) (putL ps i j)) rfl HO.out HNL.out (plV x) (ptrV p (some ad2) (cf i)) (plK x) rfl rfl HKY.out (.held (ptrV p (some ad2) (cf i))) [] rfl ?_; intro w1 hown1 hgrow1)) | go_in)
              have R1 : w1.ownsMap Try.prog 37 RE w7.heap.size (i * 16 + (j + 1)) (ownD (fun t => ptrV (ps.getD t z29) (Af t) (cf t)) (putL ps i (j + 1))) := by
                rw [putL_step ps i j (by rw [← HE.out]; exact e2), ownD_snoc, ← HE.out, ← HX.out]
                rw [← Nat.add_assoc]
                have h := hown1
                rw [HA7.out, HE.out] at h
                rw [HE.out]
                exact h
              have R2 : Below w.heap.size w w1 := HB.out.grown hgrow1 HB.out.size (fun k hk => by cases hk; exact HW7.out)
              have R3 := HK.out.grown hgrow1
              have R4 : Blk w1 wo.heap.size #[Value.int .i64 p.f0, Value.int .i64 p.f1, Value.slice (some ad2) p.f2.length (cf i)] 29 := (hgrow1.block _ B7.out.lt (fun e => by have := HLT.out; have := HKS.out; injection e with e; omega)).trans B7.out
              clear hown1 hgrow1 hc9_0 hc9_1 hc7_0 hc7_1 hc7_2
              go_wp2
              go_roundg (p.f2.length - (j + 1))
              case measure => have := HJ.out; omega
              case rel => exact ⟨j + 1, by rw [← HW1.out], ⟨by have := HJ.out; omega⟩, ⟨fun j' hj' => by
                  by_cases e : j' = j
                  · rw [e]; exact HSOK.out
                  · exact HF1.out j' (by omega)⟩, ⟨R1⟩, ⟨R2⟩, ⟨R3⟩, ⟨R4⟩⟩
            | false =>
              have HNO : Az (implOwn ps = false) := ⟨implOwn_no HE1.out (by rw [← HE.out]; exact e2) (by rw [hstep]; exact hS)⟩
              rw [hS] at HSP
              clear hstep hS
              have hb1 : Below wr.heap.size wr (wr.alloc (Obj.cells #[Value.int .i64 x.f0, Value.int .i64 x.f1] 37)) := (Below.refl wr.heap.size wr).alloc (Nat.le_refl _) _; have hb2 : Below wr.heap.size wr ((wr.alloc (Obj.cells #[Value.int .i64 x.f0, Value.int .i64 x.f1] 37)).alloc (Obj.cells #[Value.int .i64 y.f0, Value.int .i64 y.f1, Value.slice (Af t) y.f2.length (cf t)] 29)) := hb1.alloc (by simp) _; have HO1 := Az.mk (own_move HO.out (hb1.block _ (Nat.lt_of_lt_of_le HLT.out HK.out.size))); have HO2 := Az.mk (own_move HO.out (hb2.block _ (Nat.lt_of_lt_of_le HLT.out HK.out.size))); have HB2 := Az.mk (below_step HB.out hb2); have HK2 := Az.mk (HK.out.below hb2); have B72 := Az.mk (B7.out.below hb2); have B9 : Az (Blk ((wr.alloc (Obj.cells #[Value.int .i64 x.f0, Value.int .i64 x.f1] 37)).alloc (Obj.cells #[Value.int .i64 y.f0, Value.int .i64 y.f1, Value.slice (Af t) y.f2.length (cf t)] 29)) wr.heap.size #[Value.int .i64 x.f0, Value.int .i64 x.f1] 37) := ⟨(Blk.made wr _ 37).alloc _⟩; have B10 : Az (Blk ((wr.alloc (Obj.cells #[Value.int .i64 x.f0, Value.int .i64 x.f1] 37)).alloc (Obj.cells #[Value.int .i64 y.f0, Value.int .i64 y.f1, Value.slice (Af t) y.f2.length (cf t)] 29)) (wr.heap.size + 1) #[Value.int .i64 y.f0, Value.int .i64 y.f1, Value.slice (Af t) y.f2.length (cf t)] 29) := ⟨by have h := Blk.made (wr.alloc (Obj.cells #[Value.int .i64 x.f0, Value.int .i64 x.f1] 37)) #[Value.int .i64 y.f0, Value.int .i64 y.f1, Value.slice (Af t) y.f2.length (cf t)] 29; rw [World.size_alloc] at h; exact h⟩; have hc9_0 := (B9.out.cell 0).trans rfl; have hc9_1 := (B9.out.cell 1).trans rfl; have hc7_0 := (B72.out.cell 0).trans rfl; have hc7_1 := (B72.out.cell 1).trans rfl; have hc7_2 := (B72.out.cell 2).trans rfl; have hca_0 := (B10.out.cell 0).trans rfl; have hca_1 := (B10.out.cell 1).trans rfl; have hca_2 := (B10.out.cell 2).trans rfl; clear hb1 hb2
              go_wp2_with (first | (at_lookup; (refine lookup_known rfl _ _ 100 rfl 37 29 plaw Try.underlying100 RE (pzero _) (.held (.agg #[.int .i64 0, .int .i64 0, .slice none 0 0])) [] rfl w7.heap.size _ _ rfl HO1.out (plV x) (plK x) rfl HKY.out (.agg #[Value.int .i64 y.f0, Value.int .i64 y.f1, Value.slice (Af t) y.f2.length (cf t)]) true (fun v qs h => re_inv h HAT.out) HHS.out ?_)) | (go_at_call 80; go_loud (refine (HSP.out _ HB2.out HK2.out).mono ?_; rintro e w12 ⟨rfl, hb⟩; have hK9 := Az.mk (HK2.out.below hb); have hO9 := Az.mk (own_move HO2.out (hb.block _ (Nat.lt_of_lt_of_le HLT.out HK2.out.size))); have hB9 := Az.mk (below_step HB2.out hb); have h79 := Az.mk (B72.out.below hb); clear HK HO HB B7 HK2 HO2 HB2 B72; have HK := hK9; have HO := hO9; have HB := hB9; have B7 := h79; clear hK9 hO9 hB9 h79; have h99 := Az.mk (B9.out.below hb); clear B9 hc9_0 hc9_1; have B9 := h99; clear h99; clear hc7_0 hc7_1 hc7_2 hca_0 hca_1 hca_2 B10; have hc9_0 := (B9.out.cell 0).trans rfl; have hc9_1 := (B9.out.cell 1).trans rfl; have hc7_0 := (B7.out.cell 0).trans rfl; have hc7_1 := (B7.out.cell 1).trans rfl; have hc7_2 := (B7.out.cell 2).trans rfl; clear hb)) | go_in)
              go_ret
              exact ⟨by rw [HNO.out]; rfl, HB.out⟩
        · have e2b : decide ((j : Int) < (p.f2.length : Int)) = false := decide_eq_false (by omega)
          have hj : j = p.f2.length := by have := HJ.out; omega
          have HRO : Az (rowOk ps i = true) := ⟨(rowOk_iff ps i).2 (by rw [← HE.out, ← hj]; exact HF1.out)⟩
          have R1 : wr.ownsMap Try.prog 37 RE w7.heap.size ((i + 1) * 16) (ownD (fun t => ptrV (ps.getD t z29) (Af t) (cf t)) (putL ps (i + 1) 0)) := by
            rw [← putL_end, ← HE.out, ← hj]
            exact own_le HO.out (by have := HGL.out; omega)
          clear hj
          go_wp2
          go_roundg (ps.length - (i + 1))
          case measure => have := HI.out; have := HE1.out; omega
          case rel => exact ⟨i + 1, by rw [← hWi.out], ⟨by have := HI.out; have := HE1.out; omega⟩, ⟨fun t ht => by
              by_cases e : t = i
              · rw [e]; exact HRO.out
              · exact HF0.out t (by omega)⟩, ⟨R1⟩, HB, HK⟩
    · have e1b : decide ((i : Int) < (ps.length : Int)) = false := decide_eq_false (by omega)
      have hi : i = ps.length := by have := HI.out; omega
      have HOK : Az (implOwn ps = true) := ⟨(implOwn_iff ps).2 (by rw [← hi]; exact HF0.out)⟩
      clear hi
      go_wp2
      go_ret
      exact ⟨by rw [HOK.out]; rfl, HB.out⟩
end Go.Proofs.Ytkoimmeghdbodaa.Print
namespace Go.Proofs.Ytkoimmeghdbodaa.Print
open Go.RowKit Go.Maps Go.WideMaps Go.Proofs.YtkoimmeghdbodaaW.PrintWords Go.Proofs.YtkoimmeghdbodaaW.PrintLast Go.Proofs.YtkoimmeghdbodaaW.PrintMore Go.Proofs.Ytkoimmeghdbodaa.Pure
def impl_RootOk.f (a0 : Int) (a1_0 : Int) (l1_1 : List (S65)) : Option Bool := if (l1_1.all fun x => x.f1.all fun y => decide (y.f2.length ≤ 1048576)) = true then some (rootB a0 a1_0 l1_1) else none
theorem impl_RootOk.calls (a0 : Int) (a1_0 : Int) (A1_1 : Option Addr) (c1_1 : Nat) (l1_1 : List (S65)) (r : Bool) (w : World) (hr1_1 : Kd.C k65 w A1_1 l1_1.length l1_1) (hc1_1 : l1_1.length ≤ c1_1) (h : impl_RootOk.f a0 a1_0 l1_1 = some r) :
    Calls Try.prog 38 #[.int .i64 a0, .agg #[.int .i64 a1_0, .slice A1_1 l1_1.length c1_1]] w fun e w' => e = .returned (.bool r) ∧ Below w.heap.size w w' := by
  unfold impl_RootOk.f at h
  by_cases hs : (l1_1.all fun x => x.f1.all fun y => decide (y.f2.length ≤ 1048576)) = true
  · rw [if_pos hs] at h
    obtain rfl := Option.some.inj h
    have hsz : ∀ x ∈ l1_1, ∀ y ∈ x.f1, y.f2.length ≤ 1048576 := fun x hx y hy => by
      have := List.all_eq_true.1 (List.all_eq_true.1 hs x hx) y hy
      exact of_decide_eq_true this
    by_cases hb : (3 ≤ a0 ∧ a0 ≤ 4) ∧ 0 ≤ a1_0 ∧ a1_0 ≤ 100000 ∧ volsB a0 l1_1 = true
    · have e : rootB a0 a1_0 l1_1 = implOwn (ptrs l1_1) := by
        unfold rootB
        rw [decide_eq_true hb.1, decide_eq_true hb.2.1, decide_eq_true hb.2.2.1, hb.2.2.2]
        simp
      rw [e]
      exact rootOk_good a0 a1_0 A1_1 c1_1 l1_1 w hr1_1 hc1_1 hsz hb.1 hb.2.1 hb.2.2.1 hb.2.2.2
    · have e : rootB a0 a1_0 l1_1 = false := by
        rw [Bool.eq_false_iff]
        intro hv
        unfold rootB at hv
        simp only [Bool.and_eq_true, decide_eq_true_iff] at hv
        exact hb ⟨hv.1, hv.2.1, hv.2.2.1, hv.2.2.2.1⟩
      rw [e]
      exact rootOk_bad a0 a1_0 A1_1 c1_1 l1_1 w hr1_1 hc1_1 hsz hb
  · rw [if_neg hs] at h
    cases h
end Go.Proofs.Ytkoimmeghdbodaa.Print
namespace Go.Proofs.Ytkoimmeghdbodaa.Print
open Go.RowKit Go.Lib Go.Sort Go.Proofs.YtkoimmeghdbodaaW.PrintWords Go.Proofs.YtkoimmeghdbodaaW.PrintLast Go.Proofs.YtkoimmeghdbodaaW.PrintMore Go.Proofs.Ytkoimmeghdbodaa.Pure
def orI (a b : Int) : Int := if a = 0 then b else a
set_option maxHeartbeats 1000000 in
theorem cmpOr_call (a b : Int) (g c : Nat) (W : World) (h0 : W.cell? ⟨g, 0, none⟩ = some (.int .i64 a)) (h1 : W.cell? ⟨g, 1, none⟩ = some (.int .i64 b)) :
    Calls Try.prog 110 #[.slice (some ⟨g, 0, none⟩) 2 c] W fun e w' => e = .returned (.int .i64 (orI a b)) ∧ w' = W := by
  have H0 := Az.mk h0
  have H1 := Az.mk h1
  clear h0 h1
  go_enter Try.func110, Try.ntmps110
  go_wp2
  go_loopg [8] 2 (fun kq v8 wr => ∃ (i : Nat), v8 = .int .i64 (i : Int) ∧ Az (i + kq = 2) ∧ Az (0 < i → a = 0) ∧ Az (1 < i → b = 0) ∧ wr = W)
  case atStart => exact ⟨0, rfl, ⟨rfl⟩, ⟨fun h => absurd h (by decide)⟩, ⟨fun h => absurd h (by decide)⟩, rfl⟩
  case round =>
    obtain ⟨i, rfl, HI, HA, HB, rfl⟩ := hrel
    match i, HI, HA, HB with
    | 0, HI, HA, HB =>
      have h0 := H0.out
      by_cases e : a = 0
      · have e1 : decide (a = 0) = true := decide_eq_true e
        subst e
        go_wp2
        go_roundg (gk - 1)
        case measure => have := HI.out; omega
        case rel => exact ⟨1, rfl, ⟨by have := HI.out; omega⟩, ⟨fun _ => by first | rfl | trivial⟩, ⟨fun h => absurd h (by decide)⟩, rfl⟩
      · have e1 : decide (a = 0) = false := decide_eq_false e
        have e3 : (a == 0) = false := beq_eq_false_iff_ne.2 e
        have e2 : orI a b = a := if_neg e
        go_wp2
        go_ret
        exact ⟨by rw [e2]; rfl, rfl⟩
    | 1, HI, HA, HB =>
      have h1 := H1.out
      have e4 : orI a b = b := if_pos (HA.out (by decide))
      by_cases e : b = 0
      · have e1 : decide (b = 0) = true := decide_eq_true e
        subst e
        go_wp2
        go_roundg (gk - 1)
        case measure => have := HI.out; omega
        case rel => exact ⟨2, rfl, ⟨by have := HI.out; omega⟩, ⟨fun _ => HA.out (by decide)⟩, ⟨fun _ => by first | rfl | trivial⟩, rfl⟩
      · have e1 : decide (b = 0) = false := decide_eq_false e
        have e3 : (b == 0) = false := beq_eq_false_iff_ne.2 e
        go_wp2
        go_ret
        exact ⟨by rw [e4]; rfl, rfl⟩
    | 2, HI, HA, HB =>
      have e4 : orI a b = 0 := by unfold orI; rw [if_pos (HA.out (by decide))]; exact HB.out (by decide)
      go_wp2
      go_ret
      exact ⟨by rw [e4]; rfl, rfl⟩
    | n + 3, HI, HA, HB => exact absurd HI.out (by omega)
theorem fill2 (a b : Int) : Instr.fill (fun i => some (i * 1, 1)) ((Array.range (2 * 1)).map (fun x => (Value.int IntKind.i64 0).cells[x % (Value.int IntKind.i64 0).cells.size]!)) [(0, .int .i64 a), (1, .int .i64 b)] = some #[.int .i64 a, .int .i64 b] := by
  have h : Array.range (2 * 1) = #[0, 1] := by decide
  rw [h]
  simp [Instr.fill, Value.cells]
def cmpPl (x y : S37) : Int := orI (Lib.compareInt x.f0 y.f0) (Lib.compareInt x.f1 y.f1)
set_option maxHeartbeats 4000000 in
set_option maxRecDepth 100000 in
theorem cmpPlace_call (cmpI : ∀ (x y : Int) (W : World), Calls Try.prog 111 #[.int .i64 x, .int .i64 y] W fun e w' => e = .returned (.int .i64 (Lib.compareInt x y)) ∧ w' = W) (x y : S37) (w : World) :
    Calls Try.prog 84 #[.agg #[.int .i64 x.f0, .int .i64 x.f1], .agg #[.int .i64 y.f0, .int .i64 y.f1]] w fun e w' => e = .returned (.int .i64 (cmpPl x y)) ∧ ∃ q os, w' = grow (w.drewN q) os := by
  obtain ⟨ie, hie, hz, hs⟩ : ∃ ie, Try.prog.info? 3 = some ie ∧ ie.zero = some (.int .i64 0) ∧ ie.size = 1 := by
    have h : (Try.prog.info? 3).map (fun i => (i.zero, i.size)) = some (some (.int .i64 0), 1) := by kernel_rfl
    cases hi : Try.prog.info? 3 with
    | none => rw [hi] at h; cases h
    | some ie =>
      rw [hi] at h
      simp only [Option.map_some, Option.some.injEq, Prod.mk.injEq] at h
      exact ⟨ie, rfl, h.1, h.2⟩
  have HV : Az (cmpPl x y = orI (Lib.compareInt x.f0 y.f0) (Lib.compareInt x.f1 y.f1)) := ⟨rfl⟩
  have hW2 : ((w.alloc (.cells #[.int .i64 x.f0, .int .i64 x.f1] 37)).alloc (.cells #[.int .i64 y.f0, .int .i64 y.f1] 37)).drew = grow (w.drewN 1) #[.cells #[.int .i64 x.f0, .int .i64 x.f1] 37, .cells #[.int .i64 y.f0, .int .i64 y.f1] 37] := by
    rw [alloc_eq_grow, alloc_eq_grow, grow_grow]
    rfl
  have b1 : Blk (w.alloc (.cells #[.int .i64 x.f0, .int .i64 x.f1] 37)) w.heap.size #[.int .i64 x.f0, .int .i64 x.f1] 37 := Blk.made _ _ _
  have b2 := Blk.made (w.alloc (.cells #[.int .i64 x.f0, .int .i64 x.f1] 37)) #[.int .i64 y.f0, .int .i64 y.f1] 37
  rw [World.size_alloc] at b2
  have b1 := b1.alloc (.cells #[.int .i64 y.f0, .int .i64 y.f1] 37)
  have hS : ((w.alloc (.cells #[.int .i64 x.f0, .int .i64 x.f1] 37)).alloc (.cells #[.int .i64 y.f0, .int .i64 y.f1] 37)).cell? ⟨w.heap.size, 0, none⟩ = some (.int .i64 x.f0) ∧ ((w.alloc (.cells #[.int .i64 x.f0, .int .i64 x.f1] 37)).alloc (.cells #[.int .i64 y.f0, .int .i64 y.f1] 37)).cell? ⟨w.heap.size, 1, none⟩ = some (.int .i64 x.f1) ∧ ((w.alloc (.cells #[.int .i64 x.f0, .int .i64 x.f1] 37)).alloc (.cells #[.int .i64 y.f0, .int .i64 y.f1] 37)).cell? ⟨w.heap.size + 1, 0, none⟩ = some (.int .i64 y.f0) ∧ ((w.alloc (.cells #[.int .i64 x.f0, .int .i64 x.f1] 37)).alloc (.cells #[.int .i64 y.f0, .int .i64 y.f1] 37)).cell? ⟨w.heap.size + 1, 1, none⟩ = some (.int .i64 y.f1) := ⟨(b1.cell 0).trans rfl, (b1.cell 1).trans rfl, (b2.cell 0).trans rfl, (b2.cell 1).trans rfl⟩
  have HW2 := Az.mk hW2
  clear b1 b2 hW2
  go_enter Try.func84, Try.ntmps84
  go_wp2_with fail
  generalize ((w.alloc (.cells #[.int .i64 x.f0, .int .i64 x.f1] 37)).alloc (.cells #[.int .i64 y.f0, .int .i64 y.f1] 37)) = w1 at hS HW2 ⊢
  refine start_ (n := 13) (S := fun w' => w'.cell? ⟨w.heap.size, 0, none⟩ = some (.int .i64 x.f0) ∧ w'.cell? ⟨w.heap.size, 1, none⟩ = some (.int .i64 x.f1) ∧ w'.cell? ⟨w.heap.size + 1, 0, none⟩ = some (.int .i64 y.f0) ∧ w'.cell? ⟨w.heap.size + 1, 1, none⟩ = some (.int .i64 y.f1)) (ds := []) (bm 13 0) (by kernel_rfl) rfl rfl (hS) (fun hHeld => ?_)
  generalize w1.drew = w2 at HW2 hHeld ⊢
  refine zP 0 (some 5) (bm 13 1) ?_
  refine zP 2 (some 7) (bm 13 5) ?_
  refine zP 5 (some 10) (bm 13 37) ?_
  refine zP 7 (some 12) (bm 13 165) ?_
  refine zU 1 (some 6) (bm 13 167) rfl hHeld (Or.inl ⟨by rfl, by rintro w' ⟨s0, s1, s2, s3⟩; go_simp; with_reducible rfl⟩) ?_
  refine zU 3 (some 8) (bm 13 175) rfl hHeld (Or.inl ⟨by rfl, by rintro w' ⟨s0, s1, s2, s3⟩; go_simp; with_reducible rfl⟩) ?_
  refine zU 6 (some 11) (bm 13 239) rfl hHeld (Or.inl ⟨by rfl, by rintro w' ⟨s0, s1, s2, s3⟩; go_simp; with_reducible rfl⟩) ?_
  refine zU 8 (some 13) (bm 13 495) rfl hHeld (Or.inl ⟨by rfl, by rintro w' ⟨s0, s1, s2, s3⟩; go_simp; with_reducible rfl⟩) ?_
  refine one_ (i := 4) (N := some 9) (bm 13 511) rfl rfl (by kernel_rfl) (by decide) (fun K hK => ?_)
  refine goes_ Try.func111 (by kernel_rfl) rfl #[.int .i64 (x.f0), .int .i64 (y.f0)] (by rfl) rfl rfl (by (try simp only [List.map_toArray, List.map_cons, List.map_nil]); first | done | rfl) ?_
  refine (cmpI (x.f0) (y.f0) _).mono ?_
  rintro e w2 ⟨rfl, rfl⟩
  refine ⟨_, rfl, ?_⟩
  generalize Lib.compareInt (x.f0) (y.f0) = ca at HV hK ⊢
  refine hK.out _ _ hHeld (fun hHeld => ?_)
  clear hK K
  refine norm_ (a' := ?_) ?_ ?_
  rotate_left
  · show Act.put _ (some 9) _ = _
    simp only [Act.put, zs1, zs2, zs3, i64_w, i32_w]
    rfl
  refine one_ (i := 9) (N := some 14) (bm 13 1023) rfl rfl (by kernel_rfl) (by decide) (fun K hK => ?_)
  refine goes_ Try.func111 (by kernel_rfl) rfl #[.int .i64 (x.f1), .int .i64 (y.f1)] (by rfl) rfl rfl (by (try simp only [List.map_toArray, List.map_cons, List.map_nil]); first | done | rfl) ?_
  refine (cmpI (x.f1) (y.f1) _).mono ?_
  rintro e w2 ⟨rfl, rfl⟩
  refine ⟨_, rfl, ?_⟩
  generalize Lib.compareInt (x.f1) (y.f1) = cb at HV hK ⊢
  refine hK.out _ _ hHeld (fun hHeld => ?_)
  clear hK K
  refine norm_ (a' := ?_) ?_ ?_
  rotate_left
  · show Act.put _ (some 14) _ = _
    simp only [Act.put, zs1, zs2, zs3, i64_w, i32_w]
    rfl
  refine one_ (i := 10) (N := some 15) (bm 13 2047) rfl rfl (by kernel_rfl) (by decide) (fun K hK => ?_)
  rw [if_pos (by rfl)]
  refine wp_buildSlice 78 3 2 _ rfl #[.int .i64 ca, .int .i64 cb] ie _ Try.underlying78 hie hz (by rw [hs]; decide) (by rw [hs]; decide) (by rw [hs]; refine Eq.trans (congrArg _ ?_) (fill2 ca cb); simp [Act.eval]) ?_
  have hG0 := ((Blk.made w2 #[.int .i64 ca, .int .i64 cb] 3).cell 0).trans rfl
  have hG1 := ((Blk.made w2 #[.int .i64 ca, .int .i64 cb] 3).cell 1).trans rfl
  refine hK.out _ _ ⟨cell?_alloc_some _ hHeld.1, cell?_alloc_some _ hHeld.2.1, cell?_alloc_some _ hHeld.2.2.1, cell?_alloc_some _ hHeld.2.2.2⟩ (fun hHeld => ?_)
  clear hK K
  refine norm_ (a' := ?_) ?_ ?_
  rotate_left
  · show Act.put _ (some 15) _ = _
    simp only [Act.put, zs1, zs2, zs3, i64_w, i32_w]
    rfl
  refine one_ (i := 11) (N := some 16) (bm 13 4095) rfl rfl (by kernel_rfl) (by decide) (fun K hK => ?_)
  refine goes_ Try.func110 (by kernel_rfl) rfl #[.slice (some ⟨w2.heap.size, 0, none⟩) 2 2] (by rfl) rfl rfl (by (try simp only [List.map_toArray, List.map_cons, List.map_nil]); first | done | rfl) ?_
  refine (cmpOr_call ca cb _ 2 _ hG0 hG1).mono ?_
  rintro e w2 ⟨rfl, rfl⟩
  refine ⟨_, rfl, ?_⟩
  refine hK.out _ _ hHeld (fun hHeld => ?_)
  clear hK K
  refine norm_ (a' := ?_) ?_ ?_
  rotate_left
  · show Act.put _ (some 16) _ = _
    simp only [Act.put, zs1, zs2, zs3, i64_w, i32_w]
    rfl
  refine zP 12 (some 4) (bm 13 8191) ?_
  refine done_ (by kernel_rfl) ?_
  go_wp2
  go_ret
  exact ⟨by rw [HV.out]; rfl, 1, _, by rw [HW2.out, alloc_eq_grow, grow_grow]⟩
end Go.Proofs.Ytkoimmeghdbodaa.Print
namespace Go.Proofs.Ytkoimmeghdbodaa.Print
open Go.RowKit Go.Lib Go.Sort Go.Proofs.YtkoimmeghdbodaaW.PrintWords Go.Proofs.YtkoimmeghdbodaaW.PrintLast Go.Proofs.YtkoimmeghdbodaaW.PrintMore Go.Proofs.Ytkoimmeghdbodaa.Pure
instance : Inhabited S37 := ⟨z37⟩
instance decS37 : DecidableEq S37 := fun a b => decidable_of_iff (a.f0 = b.f0 ∧ a.f1 = b.f1) (by cases a; cases b; simp)
def RowB (W : World) (g N : Nat) (d : Array S37) : Prop :=
  ∃ cs, W.heap[g]? = some (.cells cs 37 (0, 0)) ∧ cs.size = N ∧ 2 * d.size ≤ N ∧ ∀ i, i < d.size → cs[i * 2]? = some (.int .i64 d[i]!.f0) ∧ cs[i * 2 + 1]? = some (.int .i64 d[i]!.f1)
theorem RowB.cell0 {W : World} {g N : Nat} {d : Array S37} (h : RowB W g N d) {i : Nat} (hi : i < d.size) : W.cell? ⟨g, i * 2, none⟩ = some (.int .i64 d[i]!.f0) := by
  obtain ⟨cs, h1, _, _, h4⟩ := h
  simp only [World.cell?, h1]
  exact (h4 i hi).1
theorem RowB.cell1 {W : World} {g N : Nat} {d : Array S37} (h : RowB W g N d) {i : Nat} (hi : i < d.size) : W.cell? ⟨g, i * 2 + 1, none⟩ = some (.int .i64 d[i]!.f1) := by
  obtain ⟨cs, h1, _, _, h4⟩ := h
  simp only [World.cell?, h1]
  exact (h4 i hi).2
theorem RowB.isSome {W : World} {g N : Nat} {d : Array S37} (h : RowB W g N d) {j : Nat} (hj : j < 2 * d.size) : (W.cell? ⟨g, j, none⟩).isSome = true := by
  obtain ⟨cs, h1, h2, h3, _⟩ := h
  simp only [World.cell?, h1]
  simp
  omega
theorem RowB.frozen {W : World} {g N : Nat} {d : Array S37} (h : RowB W g N d) (j : Nat) : W.frozen? ⟨g, j, none⟩ = false := by
  obtain ⟨cs, h1, _⟩ := h
  simp [World.frozen?, h1]
theorem RowB.lt {W : World} {g N : Nat} {d : Array S37} (h : RowB W g N d) : g < W.heap.size := by
  obtain ⟨cs, h1, _⟩ := h
  exact (Array.getElem?_eq_some_iff.1 h1).1
theorem RowB.of_heap {W W' : World} {g N : Nat} {d : Array S37} (h : RowB W g N d) (e : W'.heap[g]? = W.heap[g]?) : RowB W' g N d := by
  obtain ⟨cs, h1, h2⟩ := h
  exact ⟨cs, e.trans h1, h2⟩
theorem set_at {d : Array S37} {k i : Nat} {x : S37} (hi : i < d.size) : (d.setIfInBounds k x)[i]! = if k = i then x else d[i]! := by
  rw [getElem!_pos (d.setIfInBounds k x) i (by simpa using hi), getElem!_pos d i hi, Array.getElem_setIfInBounds]
theorem RowB.set {W : World} {g N : Nat} {d : Array S37} (h : RowB W g N d) {k : Nat} (hk : k < d.size) (a b : Int) :
    RowB ((W.setCell ⟨g, k * 2, none⟩ (.int .i64 a)).setCell ⟨g, k * 2 + 1, none⟩ (.int .i64 b)) g N (d.setIfInBounds k ⟨a, b⟩) := by
  obtain ⟨cs, h1, h2, h3, h4⟩ := h
  refine ⟨_, blk_set (blk_set h1 (k * 2) _) (k * 2 + 1) _, by simpa using h2, by simpa using h3, fun i hi => ?_⟩
  have hi' : i < d.size := by simpa using hi
  rw [set_at hi']
  obtain ⟨c0, c1⟩ := h4 i hi'
  have s0 : i * 2 < cs.size := by omega
  have s1 : i * 2 + 1 < cs.size := by omega
  by_cases e : k = i
  · subst e
    rw [if_pos rfl]
    constructor
    · rw [Array.getElem?_setIfInBounds_ne (by omega), Array.getElem?_setIfInBounds_self_of_lt (by omega)]
    · rw [Array.getElem?_setIfInBounds_self_of_lt (by simpa using s1)]
  · rw [if_neg e]
    constructor
    · rw [Array.getElem?_setIfInBounds_ne (by omega), Array.getElem?_setIfInBounds_ne (by omega)]
      exact c0
    · rw [Array.getElem?_setIfInBounds_ne (by omega), Array.getElem?_setIfInBounds_ne (by omega)]
      exact c1
theorem heap_setCells (g : Nat) : ∀ (vs : List Value) (o : Nat) (W : World) (cs : Array Value) (t : TypeId), W.heap[g]? = some (.cells cs t (0, 0)) →
    ∃ cs', (W.setCells g o vs).heap[g]? = some (.cells cs' t (0, 0)) ∧ cs'.size = cs.size ∧ ∀ j, j < o → cs'[j]? = cs[j]?
  | [], _, _, cs, _, h => ⟨cs, h, rfl, fun _ _ => rfl⟩
  | v :: r, o, W, cs, t, h => by
    obtain ⟨cs', h1, h2, h3⟩ := heap_setCells g r (o + 1) _ _ t (blk_set h o v)
    refine ⟨cs', h1, by simpa using h2, fun j hj => ?_⟩
    rw [h3 j (by omega), Array.getElem?_setIfInBounds_ne (by omega)]
theorem far_setCells (g : Nat) (k : Nat) (hk : k ≠ g) : ∀ (vs : List Value) (o : Nat) (W : World), (W.setCells g o vs).heap[k]? = W.heap[k]?
  | [], _, _ => rfl
  | v :: r, o, W => by
    show ((W.setCell ⟨g, o, none⟩ v).setCells g (o + 1) r).heap[k]? = _
    rw [far_setCells g k hk r, Below.heap_setCell _ _ _ _ hk]
theorem size_setCells (g : Nat) : ∀ (vs : List Value) (o : Nat) (W : World), (W.setCells g o vs).heap.size = W.heap.size ∧ (W.setCells g o vs).os = W.os ∧ (W.setCells g o vs).tape = W.tape ∧ (W.setCells g o vs).output = W.output
  | [], _, _ => ⟨rfl, rfl, rfl, rfl⟩
  | v :: r, o, W => by
    obtain ⟨a, b, c, d⟩ := size_setCells g r (o + 1) (W.setCell ⟨g, o, none⟩ v)
    exact ⟨a.trans (by simp [World.setCell]), b, c, d⟩
structure Kg (g : Nat) (w w' : World) : Prop where
  os : w'.os = w.os
  tape : w'.tape = w.tape
  output : w'.output = w.output
  size : w.heap.size ≤ w'.heap.size
  block : ∀ k, k < w.heap.size → k ≠ g → w'.heap[k]? = w.heap[k]?
theorem Kg.refl (g : Nat) (w : World) : Kg g w w := ⟨rfl, rfl, rfl, Nat.le_refl _, fun _ _ _ => rfl⟩
theorem Kg.trans {g : Nat} {u v w : World} (h : Kg g u v) (k : Kg g v w) : Kg g u w :=
  ⟨k.os.trans h.os, k.tape.trans h.tape, k.output.trans h.output, Nat.le_trans h.size k.size, fun i hi hne => (k.block i (Nat.lt_of_lt_of_le hi h.size) hne).trans (h.block i hi hne)⟩
theorem Kg.drewN (g : Nat) (w : World) (q : Nat) : Kg g w (w.drewN q) := ⟨rfl, rfl, rfl, Nat.le_refl _, fun _ _ _ => rfl⟩
theorem Kg.drew (g : Nat) (w : World) : Kg g w w.drew := ⟨rfl, rfl, rfl, Nat.le_refl _, fun _ _ _ => rfl⟩
theorem Kg.set (g : Nat) (w : World) (j : Nat) (v : Value) : Kg g w (w.setCell ⟨g, j, none⟩ v) :=
  ⟨rfl, rfl, rfl, by simp [World.setCell], fun k _ hne => Below.heap_setCell w _ v k hne⟩
theorem Kg.sets (g : Nat) (w : World) (o : Nat) (vs : List Value) : Kg g w (w.setCells g o vs) :=
  have h := size_setCells g vs o w
  ⟨h.2.1, h.2.2.1, h.2.2.2, Nat.le_of_eq h.1.symm, fun k _ hne => far_setCells g k hne vs o w⟩
theorem Kg.below {g : Nat} {w w' : World} {B : Nat} (h : Kg g w w') (hg : B ≤ g) (hB : B ≤ w.heap.size) : Below B w w' :=
  ⟨h.os, h.tape, h.output, h.size, fun k hk => h.block k (by omega) (by omega)⟩
theorem run_clear_pl (w : World) (ty : TypeId) (g o n c : Nat) (hn : 0 < n) (hc : ∀ j, j < n * 2 → (w.cell? ⟨g, o + j, none⟩).isSome = true) (hf : ∀ j, j < n * 2 → w.frozen? ⟨g, o + j, none⟩ = false) :
    (Builtin.clear_ #[27] ty #[.slice (some ⟨g, o, none⟩) n c]).run Try.prog w = .ok (.tuple #[]) (w.setCells g o (List.replicate (n * 2) (.int .i64 0))) := by
  have hz : ∀ w, (zeroValue 37).run Try.prog w = .ok (.agg #[.int .i64 0, .int .i64 0]) w := fun w => by kernel_rfl
  have hzc : (Builtin.zeroCells (Value.agg #[.int .i64 0, .int .i64 0]).cells n).toList = List.replicate (n * 2) (.int .i64 0) := by
    simp [Builtin.zeroCells, Value.cells]
    apply List.ext_getElem
    · simp
    · intro i h1 h2
      have : i % 2 = 0 ∨ i % 2 = 1 := by omega
      rcases this with h | h <;> simp [h]
  have hst := run_storeCells_cells (P := Try.prog) g o (List.replicate (n * 2) (.int .i64 0)) 0 w (by simpa using hc) (by simpa using hf) (by intro v hv'; rw [List.eq_of_mem_replicate hv']; rfl)
  simp only [Nat.add_zero] at hst
  obtain ⟨m, rfl⟩ : ∃ m, n = m + 1 := ⟨n - 1, by omega⟩
  simp [Builtin.clear_, run_underlying Try.underlying27, hz, hzc, hst]
theorem rowB_take {W W' : World} {g N : Nat} {d : Array S37} (h : RowB W g N d) (m : Nat) (hm : m ≤ d.size) (vs : List Value) (e : W' = W.setCells g (m * 2) vs) : RowB W' g N (d.toList.take m).toArray := by
  obtain ⟨cs, h1, h2, h3, h4⟩ := h
  obtain ⟨cs', k1, k2, k3⟩ := heap_setCells g vs (m * 2) W cs 37 h1
  have hl : (d.toList.take m).toArray.size = m := by simp; omega
  refine ⟨cs', by rw [e]; exact k1, k2.trans h2, by rw [hl]; omega, fun i hi => ?_⟩
  rw [hl] at hi
  have e : (d.toList.take m).toArray[i]! = d[i]! := by
    rw [getElem!_pos _ i (by rw [hl]; exact hi), getElem!_pos d i (by omega)]
    simp
  rw [e, k3 _ (by omega), k3 _ (by omega)]
  exact h4 i (by omega)
set_option maxHeartbeats 4000000 in
set_option maxRecDepth 1000000 in
theorem compact_call (g N cap : Nat) (d : Array S37) (w : World) (hH : RowB w g N d) (hsz : d.size ≤ 1099511627776) (hcap : d.size ≤ cap) :
    Calls Try.prog 85 #[.slice (some ⟨g, 0, none⟩) d.size cap] w fun e w' => e = .returned (.slice (some ⟨g, 0, none⟩) (compactUpTo d d.size).length cap) ∧ RowB w' g N (compactUpTo d d.size).toArray ∧ Kg g w w' := by
  have hu37 := Try.underlying37
  have mixed : Try.prog.follows Departure.mixedOrders = true := by kernel_rfl
  have same : (∀ j, j < d.size → keeps d j = true) → compactUpTo d d.size = d.toList := fun hall => by rw [compactUpTo_all d _ hall, range_map_get]
  have HS := Az.mk same
  clear same
  by_cases h2 : d.size < 2
  · have HH := Az.mk hH
    clear hH
    go_enter Try.func85, Try.ntmps85
    go_wp2
    go_ret
    have e := HS.out (fun j hj => keeps_lt_one d j (by omega))
    rw [e]
    exact ⟨by simp, by simpa using HH.out, Kg.refl _ _⟩
  · go_enter Try.func85, Try.ntmps85
    go_wp2
    go_loopg [3] d.size (fun gh s3 wr => ∃ k q : Nat, 1 ≤ k ∧ k ≤ d.size ∧ d.size - k ≤ gh ∧ s3 = .int .i64 k ∧ wr = w.drewN q ∧ ∀ j, j < k → keeps d j = true)
    case atStart => exact ⟨1, 0, Nat.le_refl _, by omega, by omega, rfl, rfl, keeps_lt_one d⟩
    case round =>
      obtain ⟨k, q, hk1, hk, hg, rfl, rfl, hall⟩ := hrel
      by_cases hlt : k < d.size
      · have A := Az.mk hall
        have HH := Az.mk hH
        have c10 := hH.cell0 hlt
        have c11 := hH.cell1 hlt
        have c00 := hH.cell0 (show k - 1 < d.size by omega)
        have c01 := hH.cell1 (show k - 1 < d.size by omega)
        clear hall hH
        generalize hx : d[k]! = x at c10 c11
        generalize hy : d[k - 1]! = y at c00 c01
        have B := Az.mk (show d[k]! = x ∧ d[k - 1]! = y from ⟨hx, hy⟩)
        clear hx hy
        by_cases hdup : x = y
        · subst hdup
          go_wp2_with fail
          go_region_o
          go_wp2
          clear c10 c11 c00 c01
          go_loopg [3, 5] d.size (fun gh s3 s5 wr => ∃ (kk k2 : Nat) (dk : Array S37), s3 = .int .i64 kk ∧ s5 = .int .i64 k2 ∧ 1 ≤ k2 ∧ k + k2 ≤ d.size ∧ d.size - (k + k2) ≤ gh ∧ RowB wr g N dk ∧ Kg g w wr ∧ CompInv d (k + k2) kk dk)
          case atStart => exact ⟨k, 1, d, rfl, rfl, Nat.le_refl _, by omega, by omega, HH.out.of_heap rfl, Kg.drewN _ _ (q + 1), CompInv.start A.out (keeps_neg (by omega) (by rw [B.out.1, B.out.2]))⟩
          case round =>
            obtain ⟨kk, k2, dk, rfl, rfl, h1, hle, hg2, hHk, hKg, hI⟩ := hrel
            have hkk := hI.lt
            have hds := hI.size
            have W2 := Az.mk hHk
            have K2 := Az.mk hKg
            have I2 := Az.mk hI
            clear hKg
            by_cases hlt2 : k + k2 < d.size
            · have cm0 := hHk.cell0 (i := k + k2) (by omega)
              have cm1 := hHk.cell1 (i := k + k2) (by omega)
              have cp0 := hHk.cell0 (i := k + k2 - 1) (by omega)
              have cp1 := hHk.cell1 (i := k + k2 - 1) (by omega)
              have ck0 := hHk.cell0 (i := kk) (by omega)
              have ck1 := hHk.cell1 (i := kk) (by omega)
              have fk0 := hHk.frozen (kk * 2)
              have fk1 := hHk.frozen (kk * 2 + 1)
              rw [hI.high (k + k2) (by omega), show (k + k2) * 2 = k * 2 + k2 * 2 by omega] at cm0 cm1
              rw [hI.high (k + k2 - 1) (by omega), show (k + k2 - 1) * 2 = k * 2 + (k2 - 1) * 2 by omega] at cp0 cp1
              clear hHk hI
              generalize hu : d[k + k2]! = u at cm0 cm1
              generalize hv : d[k + k2 - 1]! = v at cp0 cp1
              generalize dk[kk]! = old at ck0 ck1
              have C := Az.mk (show d[k + k2]! = u ∧ d[k + k2 - 1]! = v from ⟨hu, hv⟩)
              clear hu hv
              by_cases huv : u = v
              · subst huv
                go_wp2_with fail
                go_region_o
                go_wp2
                go_roundg (d.size - (k + (k2 + 1)))
                case measure => omega
                case rel => exact ⟨kk, k2 + 1, dk, rfl, by go_num, by omega, by omega, Nat.le_refl _, W2.out.of_heap rfl, K2.out.trans (Kg.drew _ _), I2.out.skip (keeps_neg (by omega) (by rw [C.out.1, C.out.2]))⟩
              · have C2 := Az.mk (show d[k + k2]! ≠ d[k + k2 - 1]! by rw [C.out.1, C.out.2]; exact huv)
                have C1 := Az.mk C.out.1
                clear C
                rcases u with ⟨u0, u1⟩
                rcases v with ⟨v0, v1⟩
                simp only at cm0 cm1 cp0 cp1
                by_cases e0 : u0 = v0
                · subst e0
                  have e1 : ¬ u1 = v1 := fun e => huv (by rw [e])
                  clear huv
                  go_wp2_with fail
                  go_region_o
                  go_wp2
                  go_roundg (d.size - (k + (k2 + 1)))
                  case measure => omega
                  case rel => exact ⟨kk + 1, k2 + 1, dk.setIfInBounds kk _, by go_num, by go_num, by omega, by omega, Nat.le_refl _, (W2.out.set (by omega) _ _).of_heap rfl, (K2.out.trans ((Kg.set _ _ _ _).trans (Kg.set _ _ _ _))).trans (Kg.drew _ _), by have := I2.out.keep hlt2 (keeps_pos C2.out); rwa [C1.out] at this⟩
                · clear huv
                  go_wp2_with fail
                  go_region_o
                  go_wp2
                  go_roundg (d.size - (k + (k2 + 1)))
                  case measure => omega
                  case rel => exact ⟨kk + 1, k2 + 1, dk.setIfInBounds kk _, by go_num, by go_num, by omega, by omega, Nat.le_refl _, (W2.out.set (by omega) _ _).of_heap rfl, (K2.out.trans ((Kg.set _ _ _ _).trans (Kg.set _ _ _ _))).trans (Kg.drew _ _), by have := I2.out.keep hlt2 (keeps_pos C2.out); rwa [C1.out] at this⟩
            · have hend : k + k2 = d.size := by omega
              have hcl : ∀ ty, (Builtin.clear_ #[27] ty #[.slice (some ⟨g, kk * 2, none⟩) (d.size - kk) (cap - kk)]).run Try.prog wr = .ok (.tuple #[]) (wr.setCells g (kk * 2) (List.replicate ((d.size - kk) * 2) (.int .i64 0))) :=
                fun ty => run_clear_pl wr ty g (kk * 2) _ _ (by omega) (fun j hj => hHk.isSome (by omega)) (fun j hj => hHk.frozen _)
              clear hHk hI
              go_wp2
              go_ret
              have hI := I2.out
              rw [hend] at hI
              have e : (dk.toList.take kk).toArray = (compactUpTo d d.size).toArray := by
                congr 1
                refine List.ext_getElem? fun i => ?_
                by_cases hi : i < kk
                · rw [List.getElem?_take_of_lt hi, hI.low i hi, getElem!_pos dk i (by omega)]
                  simp [show i < dk.size by omega]
                · rw [List.getElem?_eq_none (by simp; omega), List.getElem?_eq_none (by rw [hI.len]; omega)]
              refine ⟨by rw [hI.len]; rfl, ?_, K2.out.trans (Kg.sets _ _ _ _)⟩
              rw [← e]
              exact rowB_take W2.out kk (by omega) _ rfl
        · rcases x with ⟨x0, x1⟩
          rcases y with ⟨y0, y1⟩
          have C2 := Az.mk (show d[k]! ≠ d[k - 1]! by rw [B.out.1, B.out.2]; exact hdup)
          simp only at c10 c11 c00 c01
          by_cases e0 : x0 = y0
          · subst e0
            have e1 : ¬ x1 = y1 := fun e => hdup (by rw [e])
            clear hdup
            go_wp2_with fail
            go_region_o
            go_wp2
            go_roundg (d.size - (k + 1))
            case measure => omega
            case rel =>
              refine ⟨k + 1, q + 1, by omega, by omega, Nat.le_refl _, by go_num, rfl, fun j hj => ?_⟩
              by_cases e : j = k
              · subst e
                exact keeps_pos C2.out
              · exact A.out j (by omega)
          · clear hdup
            go_wp2_with fail
            go_region_o
            go_wp2
            go_roundg (d.size - (k + 1))
            case measure => omega
            case rel =>
              refine ⟨k + 1, q + 1, by omega, by omega, Nat.le_refl _, by go_num, rfl, fun j hj => ?_⟩
              by_cases e : j = k
              · subst e
                exact keeps_pos C2.out
              · exact A.out j (by omega)
      · have : k = d.size := by omega
        subst this
        have HH := Az.mk hH
        clear hH
        go_wp2
        go_ret
        have e := HS.out hall
        rw [e]
        exact ⟨by simp, by rw [Array.toArray_toList]; exact HH.out.of_heap rfl, Kg.drewN _ _ _⟩
end Go.Proofs.Ytkoimmeghdbodaa.Print
namespace Go.Proofs
open Go.Shelf
def Try.sortP_ren : Go.Shelf.Ren := ⟨fun | 6 => 83 | 15 => 109 | 14 => 108 | 28 => 133 | 29 => 134 | 20 => 125 | 21 => 126 | 22 => 127 | 23 => 128 | 24 => 129 | 25 => 130 | 26 => 131 | 27 => 132 | 46 => 137 | 47 => 138 | 48 => 139 | 49 => 140 | 50 => 141 | 57 => 142 | n => n, fun | 22 => 27 | 24 => 37 | 25 => 105 | 3 => 3 | 39 => 130 | 0 => 0 | 53 => 157 | 55 => 159 | 4 => 4 | 46 => 150 | 45 => 149 | 50 => 154 | 5 => 5 | 9 => 9 | 66 => 161 | 70 => 165 | 76 => 167 | 77 => 168 | n => n, fun | n => n⟩
theorem Try.sortP : Go.Proofs.SlLaysF0.n6 Try.prog Try.sortP_ren := {
  mixed := by kernel_rfl
  f6 := ⟨Try.f83.name, by decide, Try.func83.trans (congrArg some (by kernel_rfl))⟩
  f14 := ⟨Try.f108.name, by decide, Try.func108.trans (congrArg some (by kernel_rfl))⟩
  f15 := Try.func109.trans (congrArg some (by kernel_rfl))
  f20 := ⟨Try.f125.name, by decide, Try.func125.trans (congrArg some (by kernel_rfl))⟩
  f21 := ⟨Try.f126.name, by decide, Try.func126.trans (congrArg some (by kernel_rfl))⟩
  f22 := ⟨Try.f127.name, by decide, Try.func127.trans (congrArg some (by kernel_rfl))⟩
  f23 := ⟨Try.f128.name, by decide, Try.func128.trans (congrArg some (by kernel_rfl))⟩
  f24 := ⟨Try.f129.name, by decide, Try.func129.trans (congrArg some (by kernel_rfl))⟩
  f25 := ⟨Try.f130.name, by decide, Try.func130.trans (congrArg some (by kernel_rfl))⟩
  f26 := ⟨Try.f131.name, by decide, Try.func131.trans (congrArg some (by kernel_rfl))⟩
  f27 := ⟨Try.f132.name, by decide, Try.func132.trans (congrArg some (by kernel_rfl))⟩
  f28 := Try.func133.trans (congrArg some (by kernel_rfl))
  f29 := Try.func134.trans (congrArg some (by kernel_rfl))
  f46 := ⟨Try.f137.name, by decide, Try.func137.trans (congrArg some (by kernel_rfl))⟩
  f47 := Try.func138.trans (congrArg some (by kernel_rfl))
  f48 := Try.func139.trans (congrArg some (by kernel_rfl))
  f49 := ⟨Try.f140.name, by decide, Try.func140.trans (congrArg some (by kernel_rfl))⟩
  f50 := ⟨Try.f141.name, by decide, Try.func141.trans (congrArg some (by kernel_rfl))⟩
  f57 := ⟨Try.f142.name, by decide, Try.func142.trans (congrArg some (by kernel_rfl))⟩
  t0 := Try.underlying0
  a0 := Try.isAgg0
  z0 := Try.sizeOf0
  v0 := Try.zeroValue0
  t3 := Try.underlying3
  a3 := Try.isAgg3
  z3 := Try.sizeOf3
  v3 := Try.zeroValue3
  t4 := Try.underlying4
  a4 := Try.isAgg4
  z4 := Try.sizeOf4
  v4 := Try.zeroValue4
  t5 := Try.underlying5
  a5 := Try.isAgg5
  z5 := Try.sizeOf5
  v5 := Try.zeroValue5
  t9 := Try.underlying9
  a9 := Try.isAgg9
  z9 := Try.sizeOf9
  v9 := Try.zeroValue9
  t22 := Try.underlying27
  a22 := Try.isAgg27
  z22 := Try.sizeOf27
  v22 := Try.zeroValue27
  t25 := Try.underlying105
  a25 := Try.isAgg105
  z25 := Try.sizeOf105
  v25 := Try.zeroValue105
  t39 := Try.underlying130
  a39 := Try.isAgg130
  z39 := Try.sizeOf130
  v39 := Try.zeroValue130
  t45 := Try.underlying149
  a45 := Try.isAgg149
  z45 := Try.sizeOf149
  v45 := Try.zeroValue149
  t46 := Try.underlying150
  a46 := Try.isAgg150
  z46 := Try.sizeOf150
  v46 := Try.zeroValue150
  t50 := Try.underlying154
  a50 := Try.isAgg154
  z50 := Try.sizeOf154
  v50 := Try.zeroValue154
  t53 := Try.underlying157
  a53 := Try.isAgg157
  z53 := Try.sizeOf157
  v53 := Try.zeroValue157
  t55 := Try.underlying159
  a55 := Try.isAgg159
  z55 := Try.sizeOf159
  v55 := Try.zeroValue159
  t66 := Try.underlying161
  a66 := Try.isAgg161
  z66 := Try.sizeOf161
  v66 := Try.zeroValue161
  t70 := Try.underlying165
  a70 := Try.isAgg165
  z70 := Try.sizeOf165
  v70 := Try.zeroValue165
  t76 := Try.underlying167
  a76 := Try.isAgg167
  z76 := Try.sizeOf167
  v76 := Try.zeroValue167
  t77 := Try.underlying168
  a77 := Try.isAgg168
  z77 := Try.sizeOf168
  v77 := Try.zeroValue168 }
def Try.cmpP_ren : Go.Shelf.Ren := ⟨fun | 5 => 111 | 7 => 135 | n => n, fun | 22 => 3 | 3 => 3 | 4 => 4 | n => n, fun | n => n⟩
theorem Try.cmpP : Go.Proofs.SlLaysC2.n5 Try.prog Try.cmpP_ren := {
  mixed := by kernel_rfl
  f5 := ⟨Try.f111.name, by decide, Try.func111.trans (congrArg some (by kernel_rfl))⟩
  f7 := ⟨Try.f135.name, by decide, Try.func135.trans (congrArg some (by kernel_rfl))⟩
  t3 := Try.underlying3
  a3 := Try.isAgg3
  z3 := Try.sizeOf3
  v3 := Try.zeroValue3
  t4 := Try.underlying4
  a4 := Try.isAgg4
  z4 := Try.sizeOf4
  v4 := Try.zeroValue4
  t22 := Try.underlying3
  a22 := Try.isAgg3
  z22 := Try.sizeOf3
  v22 := Try.zeroValue3 }
end Go.Proofs
namespace Go.Proofs.Ytkoimmeghdbodaa.Print
open Go.RowKit Go.Lib Go.Sort Go.Shelf Go.Proofs.YtkoimmeghdbodaaW.PrintWords Go.Proofs.YtkoimmeghdbodaaW.PrintLast Go.Proofs.YtkoimmeghdbodaaW.PrintMore Go.Proofs.Ytkoimmeghdbodaa.Pure
theorem cmpI (x y : Int) (W : World) : Calls Try.prog 111 #[.int .i64 x, .int .i64 y] W fun e w' => e = .returned (.int .i64 (Lib.compareInt x y)) ∧ w' = W := AnyG.cmp_Compare_int Try.cmpP x y W
def encPl (x : S37) : List Value := [.int .i64 x.f0, .int .i64 x.f1]
def ltPl (x y : S37) : Bool := decide (x.f0 < y.f0 ∨ (x.f0 = y.f0 ∧ x.f1 < y.f1))
theorem ltOf_cmp (x y : S37) : ltOf cmpPl x y = ltPl x y := by
  unfold ltOf ltPl cmpPl orI Lib.compareInt
  apply decide_eq_decide.2
  rcases Int.lt_trichotomy x.f0 y.f0 with h | h | h
  · simp [h]
  · rcases Int.lt_trichotomy x.f1 y.f1 with k | k | k
    · simp [h, k]
    · simp [h, k]
    · have : ¬ x.f1 < y.f1 := by omega
      simp [h, k, this]
  · have h1 : ¬ x.f0 < y.f0 := by omega
    have h2 : ¬ x.f0 = y.f0 := by omega
    simp [h, h1, h2]
theorem swoPl : SWO (ltOf cmpPl) where
  irrefl x := by rw [ltOf_cmp]; unfold ltPl; simp
  trans x y z h1 h2 := by rw [ltOf_cmp] at *; unfold ltPl at *; simp only [decide_eq_true_iff] at *; omega
  ntrans x y z h1 h2 := by rw [ltOf_cmp] at *; unfold ltPl at *; simp only [decide_eq_false_iff_not] at *; omega
theorem totPl (x y : S37) (h1 : ltOf cmpPl x y = false) (h2 : ltOf cmpPl y x = false) : x = y := by
  rw [ltOf_cmp] at *
  unfold ltPl at *
  simp only [decide_eq_false_iff_not] at *
  cases x; cases y
  simp only at h1 h2
  have e0 : ‹Int› = ‹Int› := rfl
  simp only [S37.mk.injEq]
  omega
def sortPl (d : Array S37) : List S37 := d.toList.mergeSort fun x y => !ltPl y x
theorem holdsK_of {W : World} {g N : Nat} {d : Array S37} (h : RowB W g N d) : HoldsK encPl 2 W g 0 d := by
  unfold HoldsK Holds
  intro j hj
  have hj' : j < d.size * 2 := by simpa using hj
  rw [get_flatK _ _ _ _ hj', Nat.zero_add]
  have hi : j / 2 < d.size := by omega
  refine ⟨?_, h.frozen j⟩
  rcases Nat.mod_two_eq_zero_or_one j with e | e
  · have := h.cell0 hi
    rw [show j / 2 * 2 = j by omega] at this
    rw [this, e]
    rfl
  · have := h.cell1 hi
    rw [show j / 2 * 2 + 1 = j by omega] at this
    rw [this, e]
    rfl
theorem heap_mapBlock (w : World) (g : Nat) (f : Array Value → Array Value) (k : Nat) (hk : k ≠ g) : (mapBlock w g f).heap[k]? = w.heap[k]? := by
  unfold mapBlock
  simp only [Array.getElem?_modify]
  rw [if_neg (fun h => hk h.symm)]
theorem heap_mapBlock_at (w : World) (g : Nat) (f : Array Value → Array Value) {cs : Array Value} {t : Nat} {fr : Nat × Nat} (h : w.heap[g]? = some (.cells cs t fr)) : (mapBlock w g f).heap[g]? = some (.cells (f cs) t fr) := by
  unfold mapBlock
  simp [Array.getElem?_modify, h, onCells]
theorem rowB_sorted {w : World} {g N n : Nat} {d d' : Array S37} {os : Array Obj} (h : RowB w g N d) (hs : d'.size = d.size) : RowB (sortWorldK encPl 2 w g 0 n d' os) g N d' ∧ Kg g w (sortWorldK encPl 2 w g 0 n d' os) := by
  have hlt := h.lt
  have hK := holdsK_of h
  obtain ⟨cs, h1, h2, h3, h4⟩ := h
  have hp := heap_mapBlock_at (Sort.ahead w n) g (putCells id 0 (flatK encPl 2 d')) (cs := cs) (t := 37) (fr := (0, 0)) h1
  have hh := holdsK_putRowK encPl 2 (Sort.ahead w n) g 0 d d' hK hs
  have hz : (putRowK encPl 2 (Sort.ahead w n) g 0 d').heap.size = w.heap.size := by
    unfold putRowK putRow mapBlock
    simp [Sort.ahead]
  constructor
  · refine ⟨putCells id 0 (flatK encPl 2 d') cs, ?_, by simp [putCells, h2], by omega, fun i hi => ?_⟩
    · show ((putRowK encPl 2 (Sort.ahead w n) g 0 d').heap ++ os)[g]? = _
      rw [Array.getElem?_append_left (by omega)]
      exact hp
    · have c0 := (hh.cell hi (c := 0) (by omega)).1
      have c1 := (hh.cell hi (c := 1) (by omega)).1
      simp only [World.cell?] at c0 c1
      rw [show (putRowK encPl 2 (Sort.ahead w n) g 0 d').heap[g]? = _ from hp] at c0 c1
      simp only [Nat.zero_add, Nat.add_zero] at c0 c1
      exact ⟨c0, c1⟩
  · refine ⟨rfl, rfl, rfl, ?_, fun k hk hne => ?_⟩
    · show _ ≤ ((putRowK encPl 2 (Sort.ahead w n) g 0 d').heap ++ os).size
      rw [Array.size_append, hz]
      omega
    · show ((putRowK encPl 2 (Sort.ahead w n) g 0 d').heap ++ os)[k]? = _
      rw [Array.getElem?_append_left (by omega)]
      exact heap_mapBlock _ _ _ _ hne
theorem sort_call (g N cap : Nat) (d : Array S37) (w : World) (hH : RowB w g N d) (hsz : d.size ≤ 1099511627776) :
    Calls Try.prog 83 #[.slice (some ⟨g, 0, none⟩) d.size cap, .func (.func 84) #[] #[]] w fun e w' => e = .returned (.tuple #[]) ∧ RowB w' g N (sortPl d).toArray ∧ Kg g w w' := by
  have eg : ∀ args w, (callFunc 84 args).run Try.prog w = .ok (.enter 84 args) w := enters_of Try.func84 (by kernel_rfl) rfl
  have h := AnyQ.slices_SortFunc_total Try.sortP 2 Try.isAgg37 Try.sizeOf37 encPl (fun _ => rfl) (fun x v hv => by simp [encPl] at hv; rcases hv with rfl | rfl <;> rfl) cmpPl swoPl 84 #[] g 0 cap d w eg (fun _ _ _ _ x y => cmpPlace_call cmpI x y _) (holdsK_of hH) hH.lt (by omega) totPl
  change Calls Try.prog 83 _ _ _ at h
  refine h.mono fun e w' => ?_
  rintro ⟨rfl, n, os, rfl⟩
  have e : (d.toList.mergeSort fun x y => !(ltOf cmpPl) y x) = sortPl d := by
    unfold sortPl
    congr 1
    funext x y
    rw [ltOf_cmp]
  rw [e]
  exact ⟨rfl, rowB_sorted hH (by simp [sortPl])⟩
theorem sort_none (p : Option Addr) (c : Nat) (w : World) : Calls Try.prog 83 #[.slice p 0 c, .func (.func 84) #[] #[]] w fun e w' => e = .returned (.tuple #[]) ∧ w' = w := by
  have h := AnyF.slices_SortFunc_none (P := Try.prog) (ρ := Try.sortP_ren) { Try.sortP with } p c (.func (.func 84) #[] #[]) w
  exact h
end Go.Proofs.Ytkoimmeghdbodaa.Print
namespace Go.Proofs.Ytkoimmeghdbodaa.Print
open Go.RowKit Go.Lib Go.Sort Go.Proofs.YtkoimmeghdbodaaW.PrintWords Go.Proofs.YtkoimmeghdbodaaW.PrintLast Go.Proofs.YtkoimmeghdbodaaW.PrintMore Go.Proofs.Ytkoimmeghdbodaa.Pure
theorem rowB_of_R {w : World} {base : Nat} {ok : Nat → Prop} {v : Value} {xs : List S37} (h : Kd.R k37 37 w base ok v xs) (hne : 0 < xs.length) : ∃ g cap, v = .slice (some ⟨g, 0, none⟩) xs.length cap ∧ base ≤ g ∧ xs.length ≤ cap ∧ cap ≤ maxLen ∧ RowB w g (cap * 2) xs.toArray := by
  obtain ⟨_, inner, hown, hr⟩ := h
  rcases hown.2 with ⟨_, h0⟩ | ⟨g, cap, cur, rfl, hb, hh, hnc, hcm, hcs, ht⟩
  · omega
  · refine ⟨g, cap, rfl, hb, hnc, hcm, cur, hh, hcs, by simp; omega, fun i hi => ?_⟩
    have hi' : i < xs.length := by simpa using hi
    have e := k37_openM (hr.2 i xs[i] (List.getElem?_eq_getElem hi'))
    have ex : xs.toArray[i]! = xs[i] := by simp [hi']
    rw [ex]
    have h0 : ((inner.drop (i * 2)).take 2)[0]? = some (.int .i64 xs[i].f0) := by
      rw [show (k37.sz) = 2 from rfl] at e
      rw [e]; rfl
    have h1 : ((inner.drop (i * 2)).take 2)[1]? = some (.int .i64 xs[i].f1) := by
      rw [show (k37.sz) = 2 from rfl] at e
      rw [e]; rfl
    rw [List.getElem?_take_of_lt (by omega), List.getElem?_drop, ← ht, List.getElem?_take_of_lt (by show _ < xs.length * 2; omega)] at h0 h1
    simp only [Nat.add_zero, Array.getElem?_toList] at h0 h1
    exact ⟨h0, h1⟩
theorem r_of_rowB {w : World} {base g cap : Nat} {d : Array S37} (h : RowB w g (cap * 2) d) (hb : base ≤ g) (hc : d.size ≤ cap) (hm : cap ≤ maxLen) : Kd.R k37 37 w base (fun _ => True) (.slice (some ⟨g, 0, none⟩) d.size cap) d.toList := by
  obtain ⟨cur, h1, h2, h3, h4⟩ := h
  have hl : d.toList.length = d.size := by simp
  refine ⟨fun _ _ => trivial, cur.toList.take (d.size * 2), ⟨?_, Or.inr ⟨g, cap, cur, by rw [hl], hb, h1, by rw [hl]; exact hc, hm, h2, by rw [hl]; rfl⟩⟩, ?_, fun j p hj => ?_⟩
  · rw [List.length_take, hl]
    simp
    show min (d.size * 2) cur.size = d.size * 2
    omega
  · rw [List.length_take, hl]
    simp
    show min (d.size * 2) cur.size = d.size * 2
    omega
  · have hj' : j < d.size := by
      have := (List.getElem?_eq_some_iff.1 hj).1
      simpa using this
    have ep : p = d[j]! := by
      rw [getElem!_pos d j hj']
      have := (List.getElem?_eq_some_iff.1 hj).2
      rw [← this]
      simp
    obtain ⟨c0, c1⟩ := h4 j hj'
    have e : ((cur.toList.take (d.size * 2)).drop (j * k37.sz)).take k37.sz = [.int .i64 p.f0, .int .i64 p.f1] := by
      rw [show k37.sz = 2 from rfl, ep]
      refine List.ext_getElem? fun i => ?_
      rcases i with _ | _ | i
      · rw [List.getElem?_take_of_lt (by omega), List.getElem?_drop, List.getElem?_take_of_lt (by omega)]
        simpa using c0
      · rw [List.getElem?_take_of_lt (by omega), List.getElem?_drop, List.getElem?_take_of_lt (by omega)]
        simpa using c1
      · rw [List.getElem?_eq_none (by simp; omega), List.getElem?_eq_none (by simp)]
    rw [e]
    exact k37_mkM _ _ _ p
set_option maxHeartbeats 1000000 in
theorem compact_none (p : Option Addr) (c : Nat) (w : World) : Calls Try.prog 85 #[.slice p 0 c] w fun e w' => e = .returned (.slice p 0 c) ∧ w' = w := by
  go_enter Try.func85, Try.ntmps85
  go_wp2
  go_ret
  exact ⟨rfl, rfl⟩
def placesAll (ps : List S29) : List S37 := ps.flatMap (fun p => p.f2)
def compactPl (l : List S37) : List S37 := compactUpTo (sortPl l.toArray).toArray (sortPl l.toArray).length
theorem compactPl_nil : compactPl [] = [] := by simp [compactPl, sortPl, compactUpTo]
def rootPl (n tx : Int) (vs : List S65) : List S37 := if rootB n tx vs = true then compactPl (placesAll (ptrs vs)) else []
theorem take29 (l : List S29) (i : Nat) (h : i < l.length) : l.take (i + 1) = l.take i ++ [l.getD i z29] := by
  rw [List.take_add_one]
  simp [List.getD, h]
theorem placesAll_len {ps : List S29} (h : ∀ p ∈ ps, p.f2.length ≤ 4) : ∀ i : Nat, i ≤ ps.length → (placesAll (ps.take i)).length ≤ 4 * i := by
  intro i
  induction i with
  | zero => intro _; simp [placesAll]
  | succ i ih =>
    intro hi
    have ih := ih (by omega)
    have hp := h _ (getD_mem (z := z29) (i := i) (l := ps) (by omega))
    unfold placesAll at ih ⊢
    rw [take29 ps i (by omega), List.flatMap_append, List.length_append]
    simp only [List.flatMap_cons, List.flatMap_nil, List.append_nil]
    omega
theorem compactUpTo_len (d : Array S37) (m : Nat) : (compactUpTo d m).length ≤ m := by
  unfold compactUpTo
  rw [List.length_map]
  exact Nat.le_trans (List.length_filter_le _ _) (by simp)
set_option maxHeartbeats 8000000 in
set_option maxRecDepth 100000 in
theorem rootPlaces_call (n tx : Int) (A0 : Option Addr) (c0 : Nat) (l0 : List S65) (w : World) (hr0 : Kd.C k65 w A0 l0.length l0) (hc0 : l0.length ≤ c0) (hsz : ∀ x ∈ l0, ∀ y ∈ x.f1, y.f2.length ≤ 1048576) :
    Calls Try.prog 41 #[.int .i64 n, .agg #[.int .i64 tx, .slice A0 l0.length c0]] w fun e w' => ∃ v, e = .returned v ∧ Kd.R k37 37 w' w.heap.size (fun _ => True) v (rootPl n tx l0) ∧ Below w.heap.size w w' := by
  have hu57 := Try.underlying57
  have hu29 := Try.underlying29
  have hu37 := Try.underlying37
  have HB := Az.mk (Below.refl w.heap.size w)
  have hsm : impl_RootOk.f n tx l0 = some (rootB n tx l0) := by
    unfold impl_RootOk.f
    rw [if_pos]
    exact List.all_eq_true.2 fun x hx => List.all_eq_true.2 fun y hy => decide_eq_true (hsz x hx y hy)
  have HRO := Az.mk (fun (W : World) (hb : Below w.heap.size w W) => impl_RootOk.calls n tx A0 c0 l0 (rootB n tx l0) W (Kd.C_below hr0 hb) hc0 hsm)
  cases hB : rootB n tx l0 with
  | false =>
    have HE : Az (rootPl n tx l0 = []) := ⟨by unfold rootPl; rw [hB]; rfl⟩
    rw [hB] at HRO
    clear hr0 hc0 hsz hsm hB
    go_enter Try.func41, Try.ntmps41
    go_wp2_with (first | ((with_reducible refine zqg (N := 3) rfl ?_); refine zqb ?hg (N := 3) ?hd (cs := #[.int .i64 tx, .slice A0 l0.length c0]) (t := 57) ?hr ?_; (case hd => rfl); (case hg => rfl); (case hr => first | (go_simp; done) | (go_simp; rfl)); intro gb hg w5 hbox hb; have n0_ := Az.mk (below_step zB hb); have BR := Az.mk (show Blk w5 gb #[.int .i64 tx, .slice A0 l0.length c0] 57 from hbox); clear HB; have HB := n0_; clear n0_ hbox hb hg; have hcz_0 := (BR.out.cell 0).trans rfl; have hcz_1 := (BR.out.cell 1).trans rfl) | (go_at_call 38; refine (HRO.out _ zB).mono ?_; rintro e w6 ⟨rfl, hb9⟩; have BRn := Az.mk (BR.out.below hb9); clear BR; have BR := BRn; clear BRn hcz_0 hcz_1; have hcz_0 := (BR.out.cell 0).trans rfl; have hcz_1 := (BR.out.cell 1).trans rfl; have n0_ := Az.mk (below_step zB hb9); clear HB; have HB := n0_; clear n0_ hb9) | go_in)
    go_ret
    exact ⟨_, rfl, by rw [HE.out]; exact Kd.R_nil _ _ _ _ _, zB⟩
  | true =>
    have hB2 := hB
    unfold rootB at hB2
    simp only [Bool.and_eq_true, decide_eq_true_iff] at hB2
    have hvg := vols_good hB2.2.2.2.1
    obtain ⟨kp, hkp⟩ := ptrs_some tx l0 hvg.1 hvg.2.1
    have HPT := Az.mk (fun (W : World) (hb : Below w.heap.size w W) => impl_Root_ptrs.calls kp tx (fun k_ => k_ < w.heap.size) A0 c0 l0 (ptrs l0) W (Kd.V_mk hc0 (Kd.F_below (Kd.C_F k65_heap hr0) hb)) hkp)
    have hpl : (ptrs l0).length ≤ 12 := by
      have := ptrs_take_len hvg.2.1 l0.length (Nat.le_refl _)
      rw [List.take_length] at this
      have := hvg.1
      omega
    have hpg : ∀ p ∈ ptrs l0, p.f2.length ≤ 4 := fun p hp => (good_places hB2.1 (of_decide_eq_true (hvg.2.2 p hp)).2).1
    have HE : Az (rootPl n tx l0 = compactPl (placesAll (ptrs l0))) := ⟨by unfold rootPl; rw [hB]; rfl⟩
    rw [hB] at HRO
    generalize rootPl n tx l0 = res at HE ⊢
    generalize ptrs l0 = ps at HPT hpl hpg HE ⊢
    have HPL := Az.mk hpl
    have HPG := Az.mk hpg
    clear hr0 hc0 hsz hsm hB hB2 hvg hkp hpl hpg
    go_enter Try.func41, Try.ntmps41
    go_wp2_with (first | ((with_reducible refine zqg (N := 3) rfl ?_); refine zqb ?hg (N := 3) ?hd (cs := #[.int .i64 tx, .slice A0 l0.length c0]) (t := 57) ?hr ?_; (case hd => rfl); (case hg => rfl); (case hr => first | (go_simp; done) | (go_simp; rfl)); intro gb hg w5 hbox hb; have n0_ := Az.mk (below_step zB hb); have BR := Az.mk (show Blk w5 gb #[.int .i64 tx, .slice A0 l0.length c0] 57 from hbox); clear HB; have HB := n0_; clear n0_ hbox hb hg; have hcz_0 := (BR.out.cell 0).trans rfl; have hcz_1 := (BR.out.cell 1).trans rfl) | (go_at_call 38; refine (HRO.out _ zB).mono ?_; rintro e w6 ⟨rfl, hb9⟩; have BRn := Az.mk (BR.out.below hb9); clear BR; have BR := BRn; clear BRn hcz_0 hcz_1; have hcz_0 := (BR.out.cell 0).trans rfl; have hcz_1 := (BR.out.cell 1).trans rfl; have n0_ := Az.mk (below_step zB hb9); clear HB; have HB := n0_; clear n0_ hb9) | (go_at_call 79; refine (HPT.out _ zB).mono ?_; rintro e w10 ⟨v, rfl, hN, hb9⟩; obtain ⟨A1, c1, rfl, hl1, hC1⟩ := Kd.N_reads hN; have HC1 := Az.mk hC1; clear hN hl1 hC1 hcz_0 hcz_1; have n0_ := Az.mk (below_step zB hb9); clear HB; have HB := n0_; clear n0_ hb9) | go_in)
    have HW10 := Az.mk HB.out.size
    have HB10 := Az.mk HB.out
    have HS0 := Az.mk (Below.refl w10.heap.size w10)
    clear HB
    go_loopg [5, 15] ps.length (fun kq v5 v15 wr => ∃ (i : Nat), v15 = .int .i64 (i : Int) ∧ Az (i + kq = ps.length) ∧ Az (Kd.R k37 37 wr w10.heap.size (fun _ => True) v5 (placesAll (ps.take i))) ∧ Az (Below w10.heap.size w10 wr))
    case atStart => exact ⟨0, rfl, ⟨Nat.zero_add _⟩, ⟨Kd.R_nil _ _ _ _ _⟩, ⟨HS0.out⟩⟩
    case round =>
      obtain ⟨i, rfl, HI, HR, HB⟩ := hrel
      by_cases e1 : i < ps.length
      · have e1b : decide ((i : Int) < (ps.length : Int)) = true := decide_eq_true (by omega)
        have p1 := eq_true (show (0 : Int) ≤ (i : Int) by omega)
        have q1 := eq_true (show (i : Int) < (ps.length : Int) by omega)
        have HW1 : Az (wrap64 ((i : Int) + 1) = ((i + 1 : Nat) : Int)) := ⟨by rw [Pure.wrap_ok (by have := HPL.out; omega)]; omega⟩
        have hC := Kd.C_below HC1.out HB.out
        obtain ⟨ad, A2, c2, eA, hx_0, hx_1, hx_2, hl2, hC2⟩ := at_T29 hC (i : Int) (by omega) (by omega)
        subst eA
        simp only [Int.toNat_natCast, rd_T29] at hx_0 hx_1 hx_2 hl2 hC2
        have hlen := placesAll_len HPG.out i (by omega)
        have hsn : placesAll (ps.take (i + 1)) = placesAll (ps.take i) ++ (ps.getD i z29).f2 := by
          unfold placesAll
          rw [take29 ps i e1, List.flatMap_append]
          simp
        have hp4 := HPG.out _ (getD_mem (z := z29) e1)
        obtain ⟨p, hE⟩ : ∃ p, p = ps.getD i z29 := ⟨_, rfl⟩
        rw [← hE] at hx_0 hx_1 hx_2 hl2 hC2 hsn hp4
        have HSN := Az.mk hsn
        have HLN : Az ((placesAll (ps.take i)).length + p.f2.length ≤ 1000) := ⟨by have := HPL.out; omega⟩
        have HC2 := Az.mk (Kd.C_alloc hC2 (Obj.cells #[Value.int .i64 p.f0, Value.int .i64 p.f1, Value.slice A2 p.f2.length c2] 29))
        have HR2 := Az.mk (Kd.R_alloc HR.out (Obj.cells #[Value.int .i64 p.f0, Value.int .i64 p.f1, Value.slice A2 p.f2.length c2] 29))
        have HB2 := Az.mk (zq2 HB.out (Obj.cells #[Value.int .i64 p.f0, Value.int .i64 p.f1, Value.slice A2 p.f2.length c2] 29))
        clear hE hC2 hC hlen hsn hp4 hl2
        go_wp2_with (first | ((with_reducible refine zqg (N := 22) rfl ?_); refine Kd.R_append_rows k37 (Rr := k37.K (wr.alloc (Obj.cells #[Value.int .i64 p.f0, Value.int .i64 p.f1, Value.slice A2 p.f2.length c2] 29))) (w0 := w10) w10.heap.size rfl (.tmp 19) (.tmp 21) 27 37 (.agg #[.int .i64 0, .int .i64 0]) 16 rfl Try.underlying27 info37 rfl (by decide) (by omega) u5 (placesAll (ps.take i)) p.f2 A2 p.f2.length c2 (fun _ => True) (fun k => some k ≠ u5.ownBlock) rfl rfl HR2.out HC2.out (fun x cs h => by rw [k37_open h]; exact k37_mkM _ _ _ x) (fun k hk => ⟨trivial, hk⟩) (fun _ _ => trivial) HB2.out HB2.out.size (by have := HLN.out; omega) ?_; intro v1 w1 hR1 hB1 hg1 hat1) | go_in)
        have R1 := Az.mk hR1
        have R2 := Az.mk hB1
        clear hR1 hB1 hg1 hat1
        go_wp2
        go_roundg (ps.length - (i + 1))
        case measure => have := HI.out; omega
        case rel => exact ⟨i + 1, by rw [← HW1.out], ⟨by have := HI.out; omega⟩, ⟨by rw [HSN.out]; exact R1.out⟩, R2⟩
      · have e1b : decide ((i : Int) < (ps.length : Int)) = false := decide_eq_false (by omega)
        have hi : i = ps.length := by have := HI.out; omega
        have hlen := placesAll_len HPG.out i (by omega)
        subst hi
        rw [List.take_length] at HR hlen
        have hBW : Below w.heap.size w wr := HB10.out.trans (HB.out.mono HW10.out)
        have HBW := Az.mk hBW
        clear HB hBW
        generalize placesAll ps = L at HR HE hlen
        by_cases hL : L = []
        · subst hL
          obtain ⟨A, c, rfl⟩ := Kd.R_slice HR.out
          clear hlen
          go_wp2_with (first | (go_at_call 83; refine (sort_none A c _).mono ?_; rintro e w11 ⟨rfl, rfl⟩) | (go_at_call 85; refine (compact_none A c _).mono ?_; rintro e w12 ⟨rfl, rfl⟩) | go_in)
          go_ret
          exact ⟨.slice A 0 c, rfl, by rw [HE.out, compactPl_nil]; exact Kd.R_lower HR.out HW10.out, HBW.out⟩
        · have hpos : 0 < L.length := List.length_pos_iff.2 hL
          obtain ⟨g, cap, rfl, hg, hnc, hcm, hRow⟩ := rowB_of_R HR.out hpos
          have hz : (sortPl L.toArray).toArray.size = L.length := by simp [sortPl]
          have HSO := Az.mk (fun W (h : RowB W g (cap * 2) L.toArray) => sort_call g (cap * 2) cap L.toArray W h (by have := HPL.out; simp; omega))
          have HCO := Az.mk (fun W (h : RowB W g (cap * 2) (sortPl L.toArray).toArray) => compact_call g (cap * 2) cap (sortPl L.toArray).toArray W h (by rw [hz]; have := HPL.out; omega) (by rw [hz]; exact hnc))
          rw [hz] at HCO
          have HL : Az ((compactUpTo (sortPl L.toArray).toArray L.length) = res ∧ res.length ≤ L.length) := ⟨by
            rw [HE.out]
            unfold compactPl
            have e : (sortPl L.toArray).length = L.length := by simp [sortPl]
            rw [e]
            exact ⟨rfl, compactUpTo_len _ _⟩⟩
          rw [HL.out.1] at HCO
          have HRow := Az.mk hRow
          have HGB : Az (w.heap.size ≤ g) := ⟨Nat.le_trans HW10.out hg⟩
          have HNC := Az.mk hnc
          have HCM := Az.mk hcm
          clear hRow hg hnc hcm hlen hz hL hpos HR HE
          go_wp2_with (first | (go_at_call 83; refine (HSO.out _ HRow.out).mono ?_; rintro e w11 ⟨rfl, hR1, hK1⟩; have R1 := Az.mk hR1; have K1 := Az.mk hK1; clear hR1 hK1) | (go_at_call 85; refine (HCO.out _ R1.out).mono ?_; rintro e w12 ⟨rfl, hR2, hK2⟩; have R2 := Az.mk hR2; have K2 := Az.mk hK2; clear hR2 hK2) | go_in)
          go_ret
          refine ⟨_, rfl, ?_, HBW.out.trans ((K1.out.trans K2.out).below HGB.out HBW.out.size)⟩
          have h := r_of_rowB R2.out HGB.out (by have := HL.out.2; have := HNC.out; simp; omega) HCM.out
          rw [List.toList_toArray] at h
          exact h
end Go.Proofs.Ytkoimmeghdbodaa.Print
namespace Go.Proofs.Ytkoimmeghdbodaa.Print
open Go.RowKit Go.Lib Go.Maps Go.WideMaps Go.Proofs.YtkoimmeghdbodaaW.PrintWords Go.Proofs.YtkoimmeghdbodaaW.PrintLast Go.Proofs.YtkoimmeghdbodaaW.PrintMore Go.Proofs.Ytkoimmeghdbodaa.Pure
def kI (d : Nat) : Lit := .int .i64 (d : Int)
def zS : DataW Value := .held (.slice none 0 0)
structure Gm (w : World) (B b n : Nat) (D : DataW Value) (V : Nat → Value) (L : Nat → List S37) : Prop where
  own : w.ownsMap Try.prog 3 RE b n D
  at_ : ∀ d, d < 4 → D.atKey (kI d) zS = .held (V d)
  row : ∀ d, d < 4 → Kd.R k37 37 w B (fun k => some k = (V d).ownBlock) (V d) (L d)
  apart : ∀ d e, d < 4 → e < 4 → d ≠ e → ∀ k, (V d).ownBlock = some k → (V e).ownBlock ≠ some k
end Go.Proofs.Ytkoimmeghdbodaa.Print
namespace Go.Proofs.Ytkoimmeghdbodaa.Print
open Go.RowKit Go.Proofs.YtkoimmeghdbodaaW.PrintWords Go.Proofs.YtkoimmeghdbodaaW.PrintLast Go.Proofs.YtkoimmeghdbodaaW.PrintMore
attribute [local go_sem] max2_int min2_int max_two min_two max_three min_three max_four min_four
def spec_l2All.l0 : Nat → List (S29) → Int → Int → List (S65) → Option ((List (S29)))
 | 0, _, _, _, _ => none
 | k + 1, x3, x4, x425000, x425001 => if x4 < (x425001.length : Int) then (if 0 ≤ x4 then (if x3.length + ((rd_T65 x425001 x4).f1).length < 3518437208883 then (spec_l2All.l0 k (x3 ++ ((rd_T65 x425001 x4).f1)) (wrap64 (x4 + 1)) x425000 x425001) else (none)) else (none)) else (some x3)
def spec_l2All.f (k : Nat) (a0_0 : Int) (l0_1 : List (S65)) : Option ((List (S29))) := spec_l2All.l0 k (([] : List (S29))) 0 a0_0 l0_1
set_option maxHeartbeats 8000000 in
set_option maxRecDepth 100000 in
theorem spec_l2All.calls (k : Nat) (a0_0 : Int) (P0_1_ : Nat → Prop) (A0_1 : Option Addr) (c0_1 : Nat) (l0_1 : List (S65)) (r : List (S29)) (w : World) (hs0_1 : Kd.V k65 65 w w.heap.size (fun k_ => P0_1_ k_) (.slice A0_1 l0_1.length c0_1) l0_1) (h : spec_l2All.f k a0_0 l0_1 = some r) :
  Calls Try.prog 86 #[.agg #[.int .i64 a0_0, .slice A0_1 l0_1.length c0_1]] w fun e w' => ∃ v0_ : Value, e = .returned (v0_) ∧ Kd.N k29 29 w' w.heap.size (fun k_ => (P0_1_ k_ ∨ w.heap.size ≤ k_)) v0_ r ∧ Below w.heap.size w w' := by
 have hu57 := Try.underlying57
 have HO0_1 := Az.mk (show Kd.V k65 65 w w.heap.size (fun k_ => (P0_1_ k_ ∨ w.heap.size ≤ k_)) (.slice A0_1 l0_1.length c0_1) l0_1 from Kd.V_mono hs0_1 (fun k_ hk => .inl hk))
 have HB := Az.mk (Below.refl w.heap.size w)
 have H : (spec_l2All.l0 k (([] : List (S29))) 0 a0_0 l0_1) = some r := h
 clear h
 obtain ⟨y425, hy425⟩ : ∃ y_ : List (S29), y_ = (([] : List (S29))) := ⟨_, rfl⟩
 replace H : (spec_l2All.l0 k y425 0 a0_0 l0_1) = some r := by first | (rw [hy425]; with_reducible exact H) | (have H2_ := (Option.bind_some _ _).symm.trans H; rw [hy425]; with_reducible exact H2_) | (have H2_ := (Option.bind_some _ _).symm.trans H; with_reducible exact H2_) | with_reducible exact H | (rw [hy425]; exact H) | exact H
 have Ny425 := Az.mk hy425
 clear hy425
 have H' := Az.mk H
 clear H
 go_enter Try.func86, Try.ntmps86
 go_wp2_with (first | ((with_reducible refine zqg (N := 1) rfl ?_); refine zqb ?hg (N := 1) ?hd (cs := #[.int .i64 a0_0, .slice A0_1 l0_1.length c0_1]) (t := 57) ?hr ?_; (case hd => rfl); (case hg => rfl); (case hr => first | (go_simp; done) | (go_simp; rfl)); intro gb424 hg w2 hbox hb; have n0_ := Az.mk (Kd.V_below (Kd.V_elderB (by (with_reducible repeat (first | apply Kd.V_alloc | apply Kd.V_drewN | apply Kd.V_drew)); exact HO0_1.out) gb424 (Nat.le_of_eq hg.symm)) hb); have n1_ := Az.mk (below_step zB hb); have n2_ := Az.mk (hbox); have n3_ := Az.mk ((by rw [hg]; exact (below_size zB) : w.heap.size ≤ gb424)); have n4_ := Az.mk ((by rw [hg]; exact (below_size zB) : w.heap.size ≤ gb424)); clear HO0_1; clear HB; have HO0_1 := n0_; have HB := n1_; have BK424 := n2_; have GW424 := n3_; have GE424 := n4_; clear n0_ n1_ n2_ n3_ n4_; clear hb hbox hg) | ((with_reducible refine zqg (N := 5) rfl ?_); refine Kd.N_lit k29 _ 29 ?hg (N' := 5) ?hd (xs := ([] : List (S29))) (inner := []) (ok := (fun k_ => (P0_1_ k_ ∨ w.heap.size ≤ k_) ∧ k_ ≠ gb424)) (okp := (fun k_ => (P0_1_ k_ ∨ w.heap.size ≤ k_) ∧ k_ ≠ gb424)) ?hr ?hp (fun _ hk => hk) ((show ∀ k_, w2.heap.size ≤ k_ → (fun k_ => (P0_1_ k_ ∨ w.heap.size ≤ k_) ∧ k_ ≠ gb424) k_ from fun k_ hk => ⟨(.inr (Nat.le_trans (below_size (by repeat (first | (with_reducible first | exact HB.out | apply zq2 | apply zq1 | apply zqd | refine zq3 ?_ GE424.out) | exact HB.out))) hk)), Kd.freshB (g := gb424) (o := .cells #[.int .i64 a0_0, .slice A0_1 l0_1.length c0_1] 57 (0, 0)) (by (with_reducible repeat (first | refine zq6 ?_ _ | refine zq8 ?_ | refine zq7 ?_ _)); exact BK424.out) k_ hk⟩) _ (Nat.le_refl _)) (Below.refl _ _) (Nat.le_refl _) (by simp) ?_; (case hd => rfl); (case hg => rfl); (case hr => first | (go_simp; done) | (go_simp; rfl)); (case hp => exact (Reps.none _ _)); intro v426 w3 ho4 hb hg_ hnew_; clear hg_ hnew_; (first | rw [← Ny425.out] at ho4 | (simp only [Int.reduceToNat] at ho4; rw [← Ny425.out] at ho4)); have n0_ := Az.mk (Kd.V_elder' (by (with_reducible repeat (first | apply Kd.V_alloc | apply Kd.V_drewN | apply Kd.V_drew)); exact HO0_1.out) (Kd.N_base ho4) hb); have n1_ := Az.mk (Kd.N_lower ho4 (below_size (by repeat (first | (with_reducible first | exact HB.out | apply zq2 | apply zq1 | apply zqd | refine zq3 ?_ GE424.out) | exact HB.out)))); have n2_ := Az.mk (blk_below (g := gb424) (o := .cells #[.int .i64 a0_0, .slice A0_1 l0_1.length c0_1] 57 (0, 0)) (by (with_reducible repeat (first | refine zq6 ?_ _ | refine zq8 ?_ | refine zq7 ?_ _)); exact BK424.out) hb); have n3_ := Az.mk (below_step (by repeat (first | (with_reducible first | exact HB.out | apply zq2 | apply zq1 | apply zqd | refine zq3 ?_ GE424.out) | exact HB.out)) hb); clear HO0_1; clear BK424; clear HB; have HO0_1 := n0_; have HO427 := n1_; have BK424 := n2_; have HB := n3_; clear n0_ n1_ n2_ n3_; clear hb ho4))
 go_loopg [3, 4] k (fun kq v3 v4 w' => ∃ (x3_1 : List (S29)) (x4_1 : Int), v4 = .int .i64 x4_1 ∧ Az (spec_l2All.l0 kq x3_1 x4_1 a0_0 l0_1 = some r) ∧ Az (kq ≤ k) ∧ Az (Kd.N k29 29 w' w.heap.size (fun k_ => (P0_1_ k_ ∨ w.heap.size ≤ k_) ∧ k_ ≠ gb424) v3 x3_1) ∧ Az (Kd.V k65 65 w' w.heap.size (fun k_ => (P0_1_ k_ ∨ w.heap.size ≤ k_) ∧ some k_ ≠ (v3 : Value).ownBlock ∧ k_ ≠ gb424) (.slice A0_1 l0_1.length c0_1) l0_1) ∧ Az (w'.heap[gb424]? = some (.cells #[.int .i64 a0_0, (.slice A0_1 l0_1.length c0_1)] 57 (0, 0))) ∧ Az (Below w.heap.size w w'))
 case atStart => exact ⟨(y425), (0), (by first | rfl | (simp; done) | (simp [*]; done)), H', ⟨Nat.le_refl _⟩, ⟨by (with_reducible repeat (first | apply Kd.N_alloc | apply Kd.N_drewN | apply Kd.N_drew)); exact HO427.out⟩, ⟨by (with_reducible repeat (first | apply Kd.V_alloc | apply Kd.V_drewN | apply Kd.V_drew)); exact Kd.V_mono HO0_1.out (fun _ hk => ⟨hk.1.1, ⟨hk.2, hk.1.2⟩⟩)⟩, ⟨by (with_reducible repeat (first | refine zq6 ?_ _ | refine zq8 ?_ | refine zq7 ?_ _)); exact BK424.out⟩, ⟨by repeat (first | (with_reducible first | exact HB.out | apply zq2 | apply zq1 | apply zqd | refine zq3 ?_ GE424.out) | exact HB.out)⟩⟩
 case round =>
  clear H'
  try clear p2
  obtain ⟨x3_1, x4_1, rfl, HA, HK1, HO_3, HO_425001, BK424, HB⟩ := hrel
  cases gk with
  | zero => exact absurd HA.out (by simp [spec_l2All.l0])
  | succ k1 =>
   have H := HA.out
   clear HA
   simp only [spec_l2All.l0] at H
   by_cases c5 : x4_1 < (l0_1.length : Int)
   ·rw [if_pos c5] at H
    have c5b0 : decide (x4_1 < (l0_1.length : Int)) = true := decide_eq_true c5
    clear c5
    by_cases c6 : 0 ≤ x4_1
    ·rw [if_pos c6] at H
     have c6b0 : decide (0 ≤ x4_1) = true := decide_eq_true c6
     clear c6
     by_cases c7 : x3_1.length + ((rd_T65 l0_1 x4_1).f1).length < 3518437208883
     ·rw [if_pos c7] at H
      have LMc7 := Az.mk c7
      clear c7
      obtain ⟨y429, hy429⟩ : ∃ y_ : List (S29), y_ = (x3_1 ++ ((rd_T65 l0_1 x4_1).f1)) := ⟨_, rfl⟩
      replace H : (spec_l2All.l0 k1 y429 (wrap64 (x4_1 + 1)) a0_0 l0_1) = some r := by first | (rw [hy429]; with_reducible exact H) | (have H2_ := (Option.bind_some _ _).symm.trans H; rw [hy429]; with_reducible exact H2_) | (have H2_ := (Option.bind_some _ _).symm.trans H; with_reducible exact H2_) | with_reducible exact H | (rw [hy429]; exact H) | exact H
      have Ny429 := Az.mk hy429
      clear hy429
      have H' := Az.mk H
      clear H
      have hcz8_0 : wr.cell? ⟨gb424, 0, none⟩ = some (.int .i64 a0_0) := (zq4 BK424.out 0).trans rfl
      have hcz8_1 : wr.cell? ⟨gb424, 1, none⟩ = some (.slice A0_1 l0_1.length c0_1) := (zq4 BK424.out 1).trans rfl
      have hfz8_0 := zq5 BK424.out 0
      have hfz8_1 := zq5 BK424.out 1
      have p428 : 0 ≤ (x4_1 : Int) := of_decide_eq_true (by first | (with_reducible assumption) | assumption)
      have q428 : x4_1 < (l0_1.length : Int) := of_decide_eq_true (by first | (with_reducible assumption) | assumption)
      obtain ⟨ad428, A428_1, c428_1, e428, hx428_0, hx428_1, hl428_1, hi428_1⟩ := at_T65 (Kd.V_reads' HO_425001.out).2.2 x4_1 p428 q428
      cases e428
      obtain ⟨ce428, hce428, hMe428, hcc428⟩ := Kd.V_get HO_425001.out z65 x4_1 p428 (by first | exact q428 | exact of_decide_eq_true (by first | (with_reducible assumption) | assumption) | (have e_ := (Kd.V_reads' HO_425001.out).1; omega))
      obtain ⟨ua428_1, uc428_1, rfl, ul428_1, ge428_1⟩ := k65_openF hMe428
      have hv428_1 := hcc428 1 _ rfl
      rw [add_field _ _ 1 (by omega)] at hv428_1
      replace hv428_1 := Option.some.inj (hv428_1.symm.trans hx428_1)
      injection hv428_1 with hva_ hvn_ hvc_
      rw [hva_] at ge428_1
      rw [hvc_] at ul428_1
      have HL428_1 := Az.mk (show Kd.V k29 29 _ w.heap.size _ _ ((rd_T65 l0_1 x4_1).f1) from Kd.V_mk ul428_1 ge428_1)
      clear hva_ hvn_ hvc_ ge428_1 ul428_1
      clear hcc428 hce428
      have HR428_1 := Az.mk hi428_1
      have HC428_1 := Az.mk hl428_1
      clear hi428_1 hl428_1
      replace p428 := eq_true p428
      replace q428 := eq_true q428
      go_wp2_with (first | ((with_reducible refine gate_builtin (b := .append) (xs := #[.tmp 13, .tmp 19]) rfl ?_); at_builtin; refine Kd.N_append_rows k29 (w0 := w) w.heap.size rfl (.tmp 13) (.tmp 19) 63 29 (.agg #[(.int .i64 0), (.int .i64 0), (.slice none 0 0)]) 40 rfl Try.underlying63 info29 rfl (by decide) (by omega) u3 x3_1 ((rd_T65 l0_1 x4_1).f1) _ _ _ (fun k_ => (P0_1_ k_ ∨ w.heap.size ≤ k_) ∧ k_ ≠ gb424) (fun k_ => ((fun k_ => (P0_1_ k_ ∨ w.heap.size ≤ k_) ∧ k_ ≠ gb424)) k_ ∧ some k_ ≠ (u3 : Value).ownBlock) rfl rfl ?aO ?aR (fun _ hk => hk) ?aF ?aB ?aS ?aL ?_; (case aR => exact (by skip; exact Kd.V_F (Kd.V_mono (ok' := (fun k_ => ((fun k_ => (P0_1_ k_ ∨ w.heap.size ≤ k_) ∧ k_ ≠ gb424)) k_ ∧ some k_ ≠ (u3 : Value).ownBlock)) (HL428_1.out) (fun k_ hk => ⟨⟨hk.1, hk.2.2⟩, hk.2.1⟩)))); (case aB => exact (by repeat (first | (with_reducible first | exact HB.out | apply zq2 | apply zq1 | apply zqd | refine zq3 ?_ GE424.out) | exact HB.out))); (case aF => exact (fun k_ hk => ⟨(.inr (Nat.le_trans (below_size (by repeat (first | (with_reducible first | exact HB.out | apply zq2 | apply zq1 | apply zqd | refine zq3 ?_ GE424.out) | exact HB.out))) hk)), Kd.freshB (g := gb424) (o := .cells #[.int .i64 a0_0, .slice (some ad428) l0_1.length c0_1] 57 (0, 0)) (by (with_reducible repeat (first | refine zq6 ?_ _ | refine zq8 ?_ | refine zq7 ?_ _)); exact BK424.out) k_ hk⟩)); (case aO => exact (by (with_reducible repeat (first | apply Kd.N_alloc | apply Kd.N_drewN | apply Kd.N_drew)); exact HO_3.out)); (case aS => exact (below_size (by repeat (first | (with_reducible first | exact HB.out | apply zq2 | apply zq1 | apply zqd | refine zq3 ?_ GE424.out) | exact HB.out)))); (case aL => have := LMc7.out; omega); intro v430 w9 ho hb hg hat; rw [← Ny429.out] at ho; have n0_ := Az.mk (Kd.V_afterv (ok := (fun k_ => (P0_1_ k_ ∨ w.heap.size ≤ k_) ∧ k_ ≠ gb424)) (by (with_reducible repeat (first | apply Kd.V_alloc | apply Kd.V_drewN | apply Kd.V_drew)); exact Kd.V_mono HO_425001.out (fun _ hk => ⟨⟨hk.1, hk.2.2⟩, hk.2.1⟩)) hg hat); have n1_ := Az.mk (blk_grown (g := gb424) (o := .cells #[.int .i64 a0_0, .slice (some ad428) l0_1.length c0_1] 57 (0, 0)) (by (with_reducible repeat (first | refine zq6 ?_ _ | refine zq8 ?_ | refine zq7 ?_ _)); exact BK424.out) hg (Kd.N_ne HO_3.out BK424.out (by decide))); have n2_ := Az.mk (Kd.V_afterv (ok := (fun k_ => (P0_1_ k_ ∨ w.heap.size ≤ k_) ∧ k_ ≠ gb424)) (by (with_reducible repeat (first | apply Kd.V_alloc | apply Kd.V_drewN | apply Kd.V_drew)); exact Kd.V_mono HL428_1.out (fun _ hk => ⟨⟨hk.1, hk.2.2⟩, hk.2.1⟩)) hg hat); have n3_ := Az.mk (hb); have n4_ := Az.mk (ho); clear HO_425001; clear BK424; clear HL428_1; clear HB; clear HO_3; have HO_425001 := n0_; have BK424 := n1_; have HL428_1 := n2_; have HB := n3_; have HO431 := n4_; clear n0_ n1_ n2_ n3_ n4_; clear ho hb hg hat))
      go_roundg k1
      case measure => have := HK1.out; omega
      case rel => exact ⟨(y429), (wrap64 (x4_1 + 1)), (by first | rfl | (simp; done) | (simp [*]; done)), H', ⟨by have := HK1.out; omega⟩, ⟨by (with_reducible repeat (first | apply Kd.N_alloc | apply Kd.N_drewN | apply Kd.N_drew)); exact HO431.out⟩, ⟨by (with_reducible repeat (first | apply Kd.V_alloc | apply Kd.V_drewN | apply Kd.V_drew)); exact Kd.V_mono HO_425001.out (fun _ hk => ⟨hk.1.1, ⟨hk.2, hk.1.2⟩⟩)⟩, ⟨by (with_reducible repeat (first | refine zq6 ?_ _ | refine zq8 ?_ | refine zq7 ?_ _)); exact BK424.out⟩, ⟨by repeat (first | (with_reducible first | exact HB.out | apply zq2 | apply zq1 | apply zqd | refine zq3 ?_ GE424.out) | exact HB.out)⟩⟩
     ·rw [if_neg c7] at H
      exact absurd H (by simp)
    ·rw [if_neg c6] at H
     exact absurd H (by simp)
   ·rw [if_neg c5] at H
    have c5b0 : decide (x4_1 < (l0_1.length : Int)) = false := decide_eq_false c5
    clear c5
    obtain rfl := Option.some.inj H
    have hcz10_0 : wr.cell? ⟨gb424, 0, none⟩ = some (.int .i64 a0_0) := (zq4 BK424.out 0).trans rfl
    have hcz10_1 : wr.cell? ⟨gb424, 1, none⟩ = some (.slice A0_1 l0_1.length c0_1) := (zq4 BK424.out 1).trans rfl
    have hfz10_0 := zq5 BK424.out 0
    have hfz10_1 := zq5 BK424.out 1
    go_wp2
    go_ret
    exact ⟨_, by first | rfl | (simp [errW_none, errW_some] <;> rfl) | (simp [*, errW_none, errW_some] <;> rfl), by (with_reducible repeat (first | apply Kd.N_alloc | apply Kd.N_drewN | apply Kd.N_drew)); exact Kd.N_mono HO_3.out (fun _ hk => hk.1), by repeat (first | (with_reducible first | exact HB.out | apply zq2 | apply zq1 | apply zqd | refine zq3 ?_ GE424.out) | exact HB.out)⟩
end Go.Proofs.Ytkoimmeghdbodaa.Print
namespace Go.Proofs.Ytkoimmeghdbodaa.Print
open Go.RowKit Go.Proofs.YtkoimmeghdbodaaW.PrintWords Go.Proofs.YtkoimmeghdbodaaW.PrintLast Go.Proofs.YtkoimmeghdbodaaW.PrintMore
attribute [local go_sem] max2_int min2_int max_two min_two max_three min_three max_four min_four
attribute [local go_sem high] eqA37
mutual
def spec_l2Meet.l0 : Nat → Int → Int → Int → List (S37) → Int → Int → List (S37) → Option (Bool)
 | 0, _, _, _, _, _, _, _ => none
 | k + 1, x5, x433000, x433001, x433002, x434000, x434001, x434002 => if x5 < (x433002.length : Int) then (spec_l2Meet.l1 k x5 0 x433000 x433001 x433002 x434000 x434001 x434002) else (some false)
def spec_l2Meet.l1 : Nat → Int → Int → Int → Int → List (S37) → Int → Int → List (S37) → Option (Bool)
 | 0, _, _, _, _, _, _, _, _ => none
 | k + 1, x5, x6, x433000, x433001, x433002, x434000, x434001, x434002 => if x6 < (x434002.length : Int) then (if 0 ≤ x5 then (if x5 < (x433002.length : Int) then (if 0 ≤ x6 then (if (((rd_T37 x433002 x5).f0) == ((rd_T37 x434002 x6).f0) && (((rd_T37 x433002 x5).f1) == ((rd_T37 x434002 x6).f1))) = true then (some true) else (spec_l2Meet.l1 k x5 (wrap64 (x6 + 1)) x433000 x433001 x433002 x434000 x434001 x434002)) else (none)) else (none)) else (none)) else (spec_l2Meet.l0 k (wrap64 (x5 + 1)) x433000 x433001 x433002 x434000 x434001 x434002)
end
def spec_l2Meet.f (k : Nat) (a0_0 : Int) (a0_1 : Int) (l0_2 : List (S37)) (a1_0 : Int) (a1_1 : Int) (l1_2 : List (S37)) : Option (Bool) := spec_l2Meet.l0 k 0 a0_0 a0_1 l0_2 a1_0 a1_1 l1_2
set_option maxHeartbeats 8000000 in
set_option maxRecDepth 100000 in
theorem spec_l2Meet.calls (k : Nat) (a0_0 : Int) (a0_1 : Int) (A0_2 : Option Addr) (c0_2 : Nat) (l0_2 : List (S37)) (a1_0 : Int) (a1_1 : Int) (A1_2 : Option Addr) (c1_2 : Nat) (l1_2 : List (S37)) (r : Bool) (w : World) (hr0_2 : Kd.C k37 w A0_2 l0_2.length l0_2) (hc0_2 : l0_2.length ≤ c0_2) (hr1_2 : Kd.C k37 w A1_2 l1_2.length l1_2) (hc1_2 : l1_2.length ≤ c1_2) (h : spec_l2Meet.f k a0_0 a0_1 l0_2 a1_0 a1_1 l1_2 = some r) :
  Calls Try.prog 87 #[.agg #[.int .i64 a0_0, .int .i64 a0_1, .slice A0_2 l0_2.length c0_2], .agg #[.int .i64 a1_0, .int .i64 a1_1, .slice A1_2 l1_2.length c1_2]] w fun e w' => e = .returned (.bool r) ∧ Below w.heap.size w w' := by
 have hu29 := Try.underlying29
 have hu37 := Try.underlying37
 have HR0_2 := Az.mk hr0_2
 have HC0_2 := Az.mk hc0_2
 clear hr0_2 hc0_2
 have HR1_2 := Az.mk hr1_2
 have HC1_2 := Az.mk hc1_2
 clear hr1_2 hc1_2
 have HB := Az.mk (Below.refl w.heap.size w)
 have H : (spec_l2Meet.l0 k 0 a0_0 a0_1 l0_2 a1_0 a1_1 l1_2) = some r := h
 clear h
 have H' := Az.mk H
 clear H
 go_enter Try.func87, Try.ntmps87
 go_wp2_with (first | ((with_reducible refine zqg (N := 2) rfl ?_); refine zqb ?hg (N := 2) ?hd (cs := #[.int .i64 a0_0, .int .i64 a0_1, .slice A0_2 l0_2.length c0_2]) (t := 29) ?hr ?_; (case hd => rfl); (case hg => rfl); (case hr => first | (go_simp; done) | (go_simp; rfl)); intro gb432 hg w3 hbox hb; have n0_ := Az.mk (below_step zB hb); have n1_ := Az.mk (hbox); have n2_ := Az.mk ((by rw [hg]; exact (below_size zB) : w.heap.size ≤ gb432)); have n3_ := Az.mk ((by rw [hg]; exact (below_size zB) : w.heap.size ≤ gb432)); clear HB; have HB := n0_; have BK432 := n1_; have GW432 := n2_; have GE432 := n3_; clear n0_ n1_ n2_ n3_; clear hb hbox hg) | ((with_reducible refine zqg (N := 3) rfl ?_); refine zqb ?hg (N := 3) ?hd (cs := #[.int .i64 a1_0, .int .i64 a1_1, .slice A1_2 l1_2.length c1_2]) (t := 29) ?hr ?_; (case hd => rfl); (case hg => rfl); (case hr => first | (go_simp; done) | (go_simp; rfl)); intro gb433 hg w4 hbox hb; have n0_ := Az.mk (blk_below (g := gb432) (o := .cells #[.int .i64 a0_0, .int .i64 a0_1, .slice A0_2 l0_2.length c0_2] 29 (0, 0)) (by (with_reducible repeat (first | refine zq6 ?_ _ | refine zq8 ?_ | refine zq7 ?_ _)); exact BK432.out) hb); have n1_ := Az.mk (below_step (by repeat (first | (with_reducible first | exact HB.out | apply zq2 | apply zq1 | apply zqd | refine zq3 ?_ GE432.out) | exact HB.out)) hb); have n2_ := Az.mk (hbox); have n3_ := Az.mk ((by rw [hg]; exact (below_size (by repeat (first | (with_reducible first | exact HB.out | apply zq2 | apply zq1 | apply zqd | refine zq3 ?_ GE432.out) | exact HB.out))) : w.heap.size ≤ gb433)); have n4_ := Az.mk ((by rw [hg]; exact (below_size (by repeat (first | (with_reducible first | exact HB.out | apply zq2 | apply zq1 | apply zqd | refine zq3 ?_ GE432.out) | exact HB.out))) : w.heap.size ≤ gb433)); have n5_ := Az.mk ((by rw [hg]; exact Nat.ne_of_lt (blk_lt (g := gb432) (o := .cells #[.int .i64 a0_0, .int .i64 a0_1, .slice A0_2 l0_2.length c0_2] 29 (0, 0)) (by (with_reducible repeat (first | refine zq6 ?_ _ | refine zq8 ?_ | refine zq7 ?_ _)); exact BK432.out)) : gb432 ≠ gb433)); have n6_ := Az.mk ((by rw [hg]; exact Nat.ne_of_gt (blk_lt (g := gb432) (o := .cells #[.int .i64 a0_0, .int .i64 a0_1, .slice A0_2 l0_2.length c0_2] 29 (0, 0)) (by (with_reducible repeat (first | refine zq6 ?_ _ | refine zq8 ?_ | refine zq7 ?_ _)); exact BK432.out)) : gb433 ≠ gb432)); clear BK432; clear HB; have BK432 := n0_; have HB := n1_; have BK433 := n2_; have GW433 := n3_; have GE433 := n4_; have NB432_433 := n5_; have NB433_432 := n6_; clear n0_ n1_ n2_ n3_ n4_ n5_ n6_; clear hb hbox hg))
 repeat (go_quiet (first | ((with_reducible refine zqg (N := 2) rfl ?_); refine zqb ?hg (N := 2) ?hd (cs := #[.int .i64 a0_0, .int .i64 a0_1, .slice A0_2 l0_2.length c0_2]) (t := 29) ?hr ?_; (case hd => rfl); (case hg => rfl); (case hr => first | (go_simp; done) | (go_simp; rfl)); intro gb432 hg w3 hbox hb; have n0_ := Az.mk (below_step zB hb); have n1_ := Az.mk (hbox); have n2_ := Az.mk ((by rw [hg]; exact (below_size zB) : w.heap.size ≤ gb432)); have n3_ := Az.mk ((by rw [hg]; exact (below_size zB) : w.heap.size ≤ gb432)); clear HB; have HB := n0_; have BK432 := n1_; have GW432 := n2_; have GE432 := n3_; clear n0_ n1_ n2_ n3_; clear hb hbox hg) | ((with_reducible refine zqg (N := 3) rfl ?_); refine zqb ?hg (N := 3) ?hd (cs := #[.int .i64 a1_0, .int .i64 a1_1, .slice A1_2 l1_2.length c1_2]) (t := 29) ?hr ?_; (case hd => rfl); (case hg => rfl); (case hr => first | (go_simp; done) | (go_simp; rfl)); intro gb433 hg w4 hbox hb; have n0_ := Az.mk (blk_below (g := gb432) (o := .cells #[.int .i64 a0_0, .int .i64 a0_1, .slice A0_2 l0_2.length c0_2] 29 (0, 0)) (by (with_reducible repeat (first | refine zq6 ?_ _ | refine zq8 ?_ | refine zq7 ?_ _)); exact BK432.out) hb); have n1_ := Az.mk (below_step (by repeat (first | (with_reducible first | exact HB.out | apply zq2 | apply zq1 | apply zqd | refine zq3 ?_ GE432.out) | exact HB.out)) hb); have n2_ := Az.mk (hbox); have n3_ := Az.mk ((by rw [hg]; exact (below_size (by repeat (first | (with_reducible first | exact HB.out | apply zq2 | apply zq1 | apply zqd | refine zq3 ?_ GE432.out) | exact HB.out))) : w.heap.size ≤ gb433)); have n4_ := Az.mk ((by rw [hg]; exact (below_size (by repeat (first | (with_reducible first | exact HB.out | apply zq2 | apply zq1 | apply zqd | refine zq3 ?_ GE432.out) | exact HB.out))) : w.heap.size ≤ gb433)); have n5_ := Az.mk ((by rw [hg]; exact Nat.ne_of_lt (blk_lt (g := gb432) (o := .cells #[.int .i64 a0_0, .int .i64 a0_1, .slice A0_2 l0_2.length c0_2] 29 (0, 0)) (by (with_reducible repeat (first | refine zq6 ?_ _ | refine zq8 ?_ | refine zq7 ?_ _)); exact BK432.out)) : gb432 ≠ gb433)); have n6_ := Az.mk ((by rw [hg]; exact Nat.ne_of_gt (blk_lt (g := gb432) (o := .cells #[.int .i64 a0_0, .int .i64 a0_1, .slice A0_2 l0_2.length c0_2] 29 (0, 0)) (by (with_reducible repeat (first | refine zq6 ?_ _ | refine zq8 ?_ | refine zq7 ?_ _)); exact BK432.out)) : gb433 ≠ gb432)); clear BK432; clear HB; have BK432 := n0_; have HB := n1_; have BK433 := n2_; have GW433 := n3_; have GE433 := n4_; have NB432_433 := n5_; have NB433_432 := n6_; clear n0_ n1_ n2_ n3_ n4_ n5_ n6_; clear hb hbox hg)); try go_wp2_with (first | ((with_reducible refine zqg (N := 2) rfl ?_); refine zqb ?hg (N := 2) ?hd (cs := #[.int .i64 a0_0, .int .i64 a0_1, .slice A0_2 l0_2.length c0_2]) (t := 29) ?hr ?_; (case hd => rfl); (case hg => rfl); (case hr => first | (go_simp; done) | (go_simp; rfl)); intro gb432 hg w3 hbox hb; have n0_ := Az.mk (below_step zB hb); have n1_ := Az.mk (hbox); have n2_ := Az.mk ((by rw [hg]; exact (below_size zB) : w.heap.size ≤ gb432)); have n3_ := Az.mk ((by rw [hg]; exact (below_size zB) : w.heap.size ≤ gb432)); clear HB; have HB := n0_; have BK432 := n1_; have GW432 := n2_; have GE432 := n3_; clear n0_ n1_ n2_ n3_; clear hb hbox hg) | ((with_reducible refine zqg (N := 3) rfl ?_); refine zqb ?hg (N := 3) ?hd (cs := #[.int .i64 a1_0, .int .i64 a1_1, .slice A1_2 l1_2.length c1_2]) (t := 29) ?hr ?_; (case hd => rfl); (case hg => rfl); (case hr => first | (go_simp; done) | (go_simp; rfl)); intro gb433 hg w4 hbox hb; have n0_ := Az.mk (blk_below (g := gb432) (o := .cells #[.int .i64 a0_0, .int .i64 a0_1, .slice A0_2 l0_2.length c0_2] 29 (0, 0)) (by (with_reducible repeat (first | refine zq6 ?_ _ | refine zq8 ?_ | refine zq7 ?_ _)); exact BK432.out) hb); have n1_ := Az.mk (below_step (by repeat (first | (with_reducible first | exact HB.out | apply zq2 | apply zq1 | apply zqd | refine zq3 ?_ GE432.out) | exact HB.out)) hb); have n2_ := Az.mk (hbox); have n3_ := Az.mk ((by rw [hg]; exact (below_size (by repeat (first | (with_reducible first | exact HB.out | apply zq2 | apply zq1 | apply zqd | refine zq3 ?_ GE432.out) | exact HB.out))) : w.heap.size ≤ gb433)); have n4_ := Az.mk ((by rw [hg]; exact (below_size (by repeat (first | (with_reducible first | exact HB.out | apply zq2 | apply zq1 | apply zqd | refine zq3 ?_ GE432.out) | exact HB.out))) : w.heap.size ≤ gb433)); have n5_ := Az.mk ((by rw [hg]; exact Nat.ne_of_lt (blk_lt (g := gb432) (o := .cells #[.int .i64 a0_0, .int .i64 a0_1, .slice A0_2 l0_2.length c0_2] 29 (0, 0)) (by (with_reducible repeat (first | refine zq6 ?_ _ | refine zq8 ?_ | refine zq7 ?_ _)); exact BK432.out)) : gb432 ≠ gb433)); have n6_ := Az.mk ((by rw [hg]; exact Nat.ne_of_gt (blk_lt (g := gb432) (o := .cells #[.int .i64 a0_0, .int .i64 a0_1, .slice A0_2 l0_2.length c0_2] 29 (0, 0)) (by (with_reducible repeat (first | refine zq6 ?_ _ | refine zq8 ?_ | refine zq7 ?_ _)); exact BK432.out)) : gb433 ≠ gb432)); clear BK432; clear HB; have BK432 := n0_; have HB := n1_; have BK433 := n2_; have GW433 := n3_; have GE433 := n4_; have NB432_433 := n5_; have NB433_432 := n6_; clear n0_ n1_ n2_ n3_ n4_ n5_ n6_; clear hb hbox hg)))
 go_loopg [5] k (fun kq v5 w' => ∃ (x5_1 : Int), v5 = .int .i64 x5_1 ∧ Az (spec_l2Meet.l0 kq x5_1 a0_0 a0_1 l0_2 a1_0 a1_1 l1_2 = some r) ∧ Az (kq ≤ k) ∧ Az (w'.heap[gb432]? = some (.cells #[.int .i64 a0_0, .int .i64 a0_1, (.slice A0_2 l0_2.length c0_2)] 29 (0, 0))) ∧ Az (w'.heap[gb433]? = some (.cells #[.int .i64 a1_0, .int .i64 a1_1, (.slice A1_2 l1_2.length c1_2)] 29 (0, 0))) ∧ Az (Below w.heap.size w w'))
 case atStart => exact ⟨(0), (by first | rfl | (simp; done) | (simp [*]; done)), H', ⟨Nat.le_refl _⟩, ⟨by (with_reducible repeat (first | refine zq6 ?_ _ | refine zq8 ?_ | refine zq7 ?_ _)); exact BK432.out⟩, ⟨by (with_reducible repeat (first | refine zq6 ?_ _ | refine zq8 ?_ | refine zq7 ?_ _)); exact BK433.out⟩, ⟨by repeat (first | (with_reducible first | exact HB.out | apply zq2 | apply zq1 | apply zqd | refine zq3 ?_ GE432.out | refine zq3 ?_ GE433.out) | exact HB.out)⟩⟩
 case round =>
  clear H'
  try clear c1
  try clear p2
  obtain ⟨x5_1, rfl, HA, HK1, BK432, BK433, HB⟩ := hrel
  cases gk with
  | zero => exact absurd HA.out (by simp [spec_l2Meet.l0])
  | succ k1 =>
   have H := HA.out
   clear HA
   simp only [spec_l2Meet.l0] at H
   by_cases c5 : x5_1 < (l0_2.length : Int)
   ·rw [if_pos c5] at H
    have c5b0 : decide (x5_1 < (l0_2.length : Int)) = true := decide_eq_true c5
    clear c5
    have H' := Az.mk H
    clear H
    have hnb6 := NB432_433.out
    have hnc6 := NB433_432.out
    have hcz7_0 : wr.cell? ⟨gb432, 0, none⟩ = some (.int .i64 a0_0) := (zq4 BK432.out 0).trans rfl
    have hcz7_1 : wr.cell? ⟨gb432, 1, none⟩ = some (.int .i64 a0_1) := (zq4 BK432.out 1).trans rfl
    have hcz7_2 : wr.cell? ⟨gb432, 2, none⟩ = some (.slice A0_2 l0_2.length c0_2) := (zq4 BK432.out 2).trans rfl
    have hfz7_0 := zq5 BK432.out 0
    have hfz7_1 := zq5 BK432.out 1
    have hfz7_2 := zq5 BK432.out 2
    go_wp2
    repeat (go_quiet (fail); try go_wp2)
    go_loopg [6] k1 (fun kq v6 w' => ∃ (x6_2 : Int), v6 = .int .i64 x6_2 ∧ Az (spec_l2Meet.l1 kq x5_1 x6_2 a0_0 a0_1 l0_2 a1_0 a1_1 l1_2 = some r) ∧ Az (kq ≤ k1) ∧ Az (w'.heap[gb432]? = some (.cells #[.int .i64 a0_0, .int .i64 a0_1, (.slice A0_2 l0_2.length c0_2)] 29 (0, 0))) ∧ Az (w'.heap[gb433]? = some (.cells #[.int .i64 a1_0, .int .i64 a1_1, (.slice A1_2 l1_2.length c1_2)] 29 (0, 0))) ∧ Az (Below w.heap.size w w'))
    case atStart => exact ⟨(0), (by first | rfl | (simp; done) | (simp [*]; done)), H', ⟨Nat.le_refl _⟩, ⟨by (with_reducible repeat (first | refine zq6 ?_ _ | refine zq8 ?_ | refine zq7 ?_ _)); exact BK432.out⟩, ⟨by (with_reducible repeat (first | refine zq6 ?_ _ | refine zq8 ?_ | refine zq7 ?_ _)); exact BK433.out⟩, ⟨by repeat (first | (with_reducible first | exact HB.out | apply zq2 | apply zq1 | apply zqd | refine zq3 ?_ GE432.out | refine zq3 ?_ GE433.out) | exact HB.out)⟩⟩
    case round =>
     clear H'
     try clear c1
     try clear p2
     try clear c5
     try clear c5b0
     try clear c6
     try clear hcz7_0
     try clear hcz7_1
     try clear hcz7_2
     try clear hfz7_0
     try clear hfz7_1
     try clear hfz7_2
     try clear p2
     obtain ⟨x6_2, rfl, HA, HK2, BK432, BK433, HB⟩ := hrel
     cases gk with
     | zero => exact absurd HA.out (by simp [spec_l2Meet.l1])
     | succ k2 =>
      have H := HA.out
      clear HA
      simp only [spec_l2Meet.l1] at H
      by_cases c8 : x6_2 < (l1_2.length : Int)
      ·rw [if_pos c8] at H
       have c8b0 : decide (x6_2 < (l1_2.length : Int)) = true := decide_eq_true c8
       clear c8
       by_cases c9 : 0 ≤ x5_1
       ·rw [if_pos c9] at H
        have c9b0 : decide (0 ≤ x5_1) = true := decide_eq_true c9
        clear c9
        by_cases c10 : x5_1 < (l0_2.length : Int)
        ·rw [if_pos c10] at H
         have c10b0 : decide (x5_1 < (l0_2.length : Int)) = true := decide_eq_true c10
         clear c10
         by_cases c11 : 0 ≤ x6_2
         ·rw [if_pos c11] at H
          have c11b0 : decide (0 ≤ x6_2) = true := decide_eq_true c11
          clear c11
          by_cases c12 : (((rd_T37 l0_2 x5_1).f0) == ((rd_T37 l1_2 x6_2).f0) && (((rd_T37 l0_2 x5_1).f1) == ((rd_T37 l1_2 x6_2).f1))) = true
          ·rw [if_pos c12] at H
           have c12b0 : (((rd_T37 l0_2 x5_1).f0) == ((rd_T37 l1_2 x6_2).f0) && (((rd_T37 l0_2 x5_1).f1) == ((rd_T37 l1_2 x6_2).f1))) = true := c12
           (try (have c12b1 : decide (((rd_T37 l0_2 x5_1).f0) = ((rd_T37 l1_2 x6_2).f0) && (((rd_T37 l0_2 x5_1).f1) == ((rd_T37 l1_2 x6_2).f1))) = true := by simpa using c12))
           (try (have c12b2 : (((rd_T37 l0_2 x5_1).f0) == ((rd_T37 l1_2 x6_2).f0) && (((rd_T37 l0_2 x5_1).f1) == ((rd_T37 l1_2 x6_2).f1))) = true := by simpa using c12))
           clear c12
           obtain rfl := Option.some.inj H
           have hnb13 := NB433_432.out
           have hnc13 := NB432_433.out
           have hcz14_0 : wr.cell? ⟨gb433, 0, none⟩ = some (.int .i64 a1_0) := (zq4 BK433.out 0).trans rfl
           have hcz14_1 : wr.cell? ⟨gb433, 1, none⟩ = some (.int .i64 a1_1) := (zq4 BK433.out 1).trans rfl
           have hcz14_2 : wr.cell? ⟨gb433, 2, none⟩ = some (.slice A1_2 l1_2.length c1_2) := (zq4 BK433.out 2).trans rfl
           have hfz14_0 := zq5 BK433.out 0
           have hfz14_1 := zq5 BK433.out 1
           have hfz14_2 := zq5 BK433.out 2
           have hcz15_0 : wr.cell? ⟨gb432, 0, none⟩ = some (.int .i64 a0_0) := (zq4 BK432.out 0).trans rfl
           have hcz15_1 : wr.cell? ⟨gb432, 1, none⟩ = some (.int .i64 a0_1) := (zq4 BK432.out 1).trans rfl
           have hcz15_2 : wr.cell? ⟨gb432, 2, none⟩ = some (.slice A0_2 l0_2.length c0_2) := (zq4 BK432.out 2).trans rfl
           have hfz15_0 := zq5 BK432.out 0
           have hfz15_1 := zq5 BK432.out 1
           have hfz15_2 := zq5 BK432.out 2
           have p434 : 0 ≤ (x5_1 : Int) := of_decide_eq_true (by first | (with_reducible assumption) | assumption)
           have q434 : x5_1 < (l0_2.length : Int) := of_decide_eq_true (by first | (with_reducible assumption) | assumption)
           obtain ⟨ad434, e434, hx434_0, hx434_1⟩ := at_T37 HR0_2.out x5_1 p434 q434
           cases e434
           replace hx434_0 := (HB.out.cell (World.block_lt_of_cell? w _ hx434_0)).trans hx434_0
           replace hx434_1 := (HB.out.cell (World.block_lt_of_cell? w _ hx434_1)).trans hx434_1
           replace p434 := eq_true p434
           replace q434 := eq_true q434
           have p435 : 0 ≤ (x6_2 : Int) := of_decide_eq_true (by first | (with_reducible assumption) | assumption)
           have q435 : x6_2 < (l1_2.length : Int) := of_decide_eq_true (by first | (with_reducible assumption) | assumption)
           obtain ⟨ad435, e435, hx435_0, hx435_1⟩ := at_T37 HR1_2.out x6_2 p435 q435
           cases e435
           replace hx435_0 := (HB.out.cell (World.block_lt_of_cell? w _ hx435_0)).trans hx435_0
           replace hx435_1 := (HB.out.cell (World.block_lt_of_cell? w _ hx435_1)).trans hx435_1
           replace p435 := eq_true p435
           replace q435 := eq_true q435
           go_wp2
           repeat (go_quiet (fail); try go_wp2)
           go_ret
           exact ⟨by first | rfl | (simp [errW_none, errW_some] <;> rfl) | (simp [*, errW_none, errW_some] <;> rfl), by repeat (first | (with_reducible first | exact HB.out | apply zq2 | apply zq1 | apply zqd | refine zq3 ?_ GE432.out | refine zq3 ?_ GE433.out) | exact HB.out)⟩
          ·rw [if_neg c12] at H
           have c12b0 : (((rd_T37 l0_2 x5_1).f0) == ((rd_T37 l1_2 x6_2).f0) && (((rd_T37 l0_2 x5_1).f1) == ((rd_T37 l1_2 x6_2).f1))) = false := by simpa using c12
           (try (have c12b1 : decide (((rd_T37 l0_2 x5_1).f0) = ((rd_T37 l1_2 x6_2).f0) && (((rd_T37 l0_2 x5_1).f1) == ((rd_T37 l1_2 x6_2).f1))) = false := by simpa using c12))
           (try (have c12b2 : (((rd_T37 l0_2 x5_1).f0) == ((rd_T37 l1_2 x6_2).f0) && (((rd_T37 l0_2 x5_1).f1) == ((rd_T37 l1_2 x6_2).f1))) = false := by simpa using c12))
           (try (have c12b3 : ¬ (((rd_T37 l0_2 x5_1).f0) = ((rd_T37 l1_2 x6_2).f0) && (((rd_T37 l0_2 x5_1).f1) == ((rd_T37 l1_2 x6_2).f1))) := by simpa using c12))
           clear c12
           have H' := Az.mk H
           clear H
           have hnb16 := NB433_432.out
           have hnc16 := NB432_433.out
           have hcz17_0 : wr.cell? ⟨gb433, 0, none⟩ = some (.int .i64 a1_0) := (zq4 BK433.out 0).trans rfl
           have hcz17_1 : wr.cell? ⟨gb433, 1, none⟩ = some (.int .i64 a1_1) := (zq4 BK433.out 1).trans rfl
           have hcz17_2 : wr.cell? ⟨gb433, 2, none⟩ = some (.slice A1_2 l1_2.length c1_2) := (zq4 BK433.out 2).trans rfl
           have hfz17_0 := zq5 BK433.out 0
           have hfz17_1 := zq5 BK433.out 1
           have hfz17_2 := zq5 BK433.out 2
           have hcz18_0 : wr.cell? ⟨gb432, 0, none⟩ = some (.int .i64 a0_0) := (zq4 BK432.out 0).trans rfl
           have hcz18_1 : wr.cell? ⟨gb432, 1, none⟩ = some (.int .i64 a0_1) := (zq4 BK432.out 1).trans rfl
           have hcz18_2 : wr.cell? ⟨gb432, 2, none⟩ = some (.slice A0_2 l0_2.length c0_2) := (zq4 BK432.out 2).trans rfl
           have hfz18_0 := zq5 BK432.out 0
           have hfz18_1 := zq5 BK432.out 1
           have hfz18_2 := zq5 BK432.out 2
           have p434 : 0 ≤ (x5_1 : Int) := of_decide_eq_true (by first | (with_reducible assumption) | assumption)
           have q434 : x5_1 < (l0_2.length : Int) := of_decide_eq_true (by first | (with_reducible assumption) | assumption)
           obtain ⟨ad434, e434, hx434_0, hx434_1⟩ := at_T37 HR0_2.out x5_1 p434 q434
           cases e434
           replace hx434_0 := (HB.out.cell (World.block_lt_of_cell? w _ hx434_0)).trans hx434_0
           replace hx434_1 := (HB.out.cell (World.block_lt_of_cell? w _ hx434_1)).trans hx434_1
           replace p434 := eq_true p434
           replace q434 := eq_true q434
           have p435 : 0 ≤ (x6_2 : Int) := of_decide_eq_true (by first | (with_reducible assumption) | assumption)
           have q435 : x6_2 < (l1_2.length : Int) := of_decide_eq_true (by first | (with_reducible assumption) | assumption)
           obtain ⟨ad435, e435, hx435_0, hx435_1⟩ := at_T37 HR1_2.out x6_2 p435 q435
           cases e435
           replace hx435_0 := (HB.out.cell (World.block_lt_of_cell? w _ hx435_0)).trans hx435_0
           replace hx435_1 := (HB.out.cell (World.block_lt_of_cell? w _ hx435_1)).trans hx435_1
           replace p435 := eq_true p435
           replace q435 := eq_true q435
           go_wp2
           repeat (go_quiet (fail); try go_wp2)
           go_roundg k2
           case measure => have := HK1.out; have := HK2.out; omega
           case rel => exact ⟨(wrap64 (x6_2 + 1)), (by first | rfl | (simp; done) | (simp [*]; done)), H', ⟨by have := HK1.out; have := HK2.out; omega⟩, ⟨by (with_reducible repeat (first | refine zq6 ?_ _ | refine zq8 ?_ | refine zq7 ?_ _)); exact BK432.out⟩, ⟨by (with_reducible repeat (first | refine zq6 ?_ _ | refine zq8 ?_ | refine zq7 ?_ _)); exact BK433.out⟩, ⟨by repeat (first | (with_reducible first | exact HB.out | apply zq2 | apply zq1 | apply zqd | refine zq3 ?_ GE432.out | refine zq3 ?_ GE433.out) | exact HB.out)⟩⟩
         ·rw [if_neg c11] at H
          exact absurd H (by simp)
        ·rw [if_neg c10] at H
         exact absurd H (by simp)
       ·rw [if_neg c9] at H
        exact absurd H (by simp)
      ·rw [if_neg c8] at H
       have c8b0 : decide (x6_2 < (l1_2.length : Int)) = false := decide_eq_false c8
       clear c8
       have H' := Az.mk H
       clear H
       have hnb19 := NB433_432.out
       have hnc19 := NB432_433.out
       have hcz20_0 : wr.cell? ⟨gb433, 0, none⟩ = some (.int .i64 a1_0) := (zq4 BK433.out 0).trans rfl
       have hcz20_1 : wr.cell? ⟨gb433, 1, none⟩ = some (.int .i64 a1_1) := (zq4 BK433.out 1).trans rfl
       have hcz20_2 : wr.cell? ⟨gb433, 2, none⟩ = some (.slice A1_2 l1_2.length c1_2) := (zq4 BK433.out 2).trans rfl
       have hfz20_0 := zq5 BK433.out 0
       have hfz20_1 := zq5 BK433.out 1
       have hfz20_2 := zq5 BK433.out 2
       go_wp2
       repeat (go_quiet (fail); try go_wp2)
       go_roundg k2
       case measure => have := HK1.out; have := HK2.out; omega
       case rel => exact ⟨(wrap64 (x5_1 + 1)), (by first | rfl | (simp; done) | (simp [*]; done)), H', ⟨by have := HK1.out; have := HK2.out; omega⟩, ⟨by (with_reducible repeat (first | refine zq6 ?_ _ | refine zq8 ?_ | refine zq7 ?_ _)); exact BK432.out⟩, ⟨by (with_reducible repeat (first | refine zq6 ?_ _ | refine zq8 ?_ | refine zq7 ?_ _)); exact BK433.out⟩, ⟨by repeat (first | (with_reducible first | exact HB.out | apply zq2 | apply zq1 | apply zqd | refine zq3 ?_ GE432.out | refine zq3 ?_ GE433.out) | exact HB.out)⟩⟩
   ·rw [if_neg c5] at H
    have c5b0 : decide (x5_1 < (l0_2.length : Int)) = false := decide_eq_false c5
    clear c5
    obtain rfl := Option.some.inj H
    have hnb21 := NB432_433.out
    have hnc21 := NB433_432.out
    have hcz22_0 : wr.cell? ⟨gb432, 0, none⟩ = some (.int .i64 a0_0) := (zq4 BK432.out 0).trans rfl
    have hcz22_1 : wr.cell? ⟨gb432, 1, none⟩ = some (.int .i64 a0_1) := (zq4 BK432.out 1).trans rfl
    have hcz22_2 : wr.cell? ⟨gb432, 2, none⟩ = some (.slice A0_2 l0_2.length c0_2) := (zq4 BK432.out 2).trans rfl
    have hfz22_0 := zq5 BK432.out 0
    have hfz22_1 := zq5 BK432.out 1
    have hfz22_2 := zq5 BK432.out 2
    go_wp2
    repeat (go_quiet (fail); try go_wp2)
    go_ret
    exact ⟨by first | rfl | (simp [errW_none, errW_some] <;> rfl) | (simp [*, errW_none, errW_some] <;> rfl), by repeat (first | (with_reducible first | exact HB.out | apply zq2 | apply zq1 | apply zqd | refine zq3 ?_ GE432.out | refine zq3 ?_ GE433.out) | exact HB.out)⟩
end Go.Proofs.Ytkoimmeghdbodaa.Print
namespace Go.Proofs.Ytkoimmeghdbodaa.Print
open Go.RowKit Go.Proofs.YtkoimmeghdbodaaW.PrintWords Go.Proofs.YtkoimmeghdbodaaW.PrintLast Go.Proofs.YtkoimmeghdbodaaW.PrintMore
attribute [local go_sem] max2_int min2_int max_two min_two max_three min_three max_four min_four
def spec_l2Name.l0 : Nat → ByteArray → Int → Option (Bool)
 | 0, _, _ => none
 | k + 1, x0, x3 => if x3 < (x0.size : Int) then (if 0 ≤ x3 then (if (bt x0 x3) < 97 then (some false) else (if (bt x0 x3) > 122 then (some false) else (spec_l2Name.l0 k x0 (wrap64 (x3 + 1))))) else (none)) else (some true)
def spec_l2Name.f (k : Nat) (a0 : ByteArray) : Option (Bool) := (spec_l6In.f (a0.size : Int) 1 3).bind fun t436 => (if t436 = true then (spec_l2Name.l0 k a0 0) else (some false))
set_option maxHeartbeats 8000000 in
set_option maxRecDepth 100000 in
theorem spec_l2Name.calls (k : Nat) (a0 : ByteArray) (r : Bool) (w : World) (h : spec_l2Name.f k a0 = some r) :
  Calls Try.prog 98 #[.string a0] w fun e w' => e = .returned (.bool r) ∧ Drawn0 w w' := by
 have H : ((spec_l6In.f (a0.size : Int) 1 3).bind fun t436 => (if t436 = true then (spec_l2Name.l0 k a0 0) else (some false))) = some r := h
 clear h
 replace H := Option.bind_eq_some_iff.mp H
 obtain ⟨t436, A20, H⟩ := H
 replace H : (if t436 = true then (spec_l2Name.l0 k a0 0) else (some false)) = some r := H
 have A2 := Az.mk A20
 clear A20
 by_cases c3 : t436 = true
 ·subst c3
  have H1 : (spec_l2Name.l0 k a0 0) = some r := by rw [if_pos rfl] at H; exact H
  clear H
  have H := H1
  clear H1
  have H' := Az.mk H
  clear H
  go_enter Try.func98, Try.ntmps98
  go_wp2_with (first | ((with_reducible refine gate_callee (f := 75) rfl ?_); refine zq9 (some 6) rfl rfl Try.func75 (by kernel_rfl) rfl #[.int .i64 (a0.size : Int), .int .i64 1, .int .i64 3] rfl (by (try simp only [List.map_toArray, List.map_cons, List.map_nil]); first | done | rfl | (simp only [List.length_drop, List.length_take]; rfl)) ?_; (with_reducible refine (spec_l6In.calls (a0.size : Int) 1 3 true _ A2.out).mono ?_); rintro e w' ⟨rfl, ⟨nd, rfl⟩⟩; refine ⟨_, rfl, ?_⟩))
  go_loopg [3] k (fun kq v3 w' => ∃ (x3_1 : Int), v3 = .int .i64 x3_1 ∧ Az (spec_l2Name.l0 kq a0 x3_1 = some r) ∧ Az (kq ≤ k) ∧ Drawn0 w w')
  case atStart => exact ⟨(0), (by first | rfl | (simp; done) | (simp [*]; done)), H', ⟨Nat.le_refl _⟩, by repeat (first | exact Drawn0.refl _ | apply Drawn0.step)⟩
  case round =>
   clear H'
   try clear p2
   try clear c3
   obtain ⟨x3_1, rfl, HA, HK1, ⟨m1, rfl⟩⟩ := hrel
   cases gk with
   | zero => exact absurd HA.out (by simp [spec_l2Name.l0])
   | succ k1 =>
    have H := HA.out
    clear HA
    simp only [spec_l2Name.l0] at H
    by_cases c4 : x3_1 < (a0.size : Int)
    ·rw [if_pos c4] at H
     have c4b0 : decide (x3_1 < (a0.size : Int)) = true := decide_eq_true c4
     clear c4
     by_cases c5 : 0 ≤ x3_1
     ·rw [if_pos c5] at H
      have c5b0 : decide (0 ≤ x3_1) = true := decide_eq_true c5
      clear c5
      by_cases c7 : (bt a0 x3_1) < 97
      ·rw [if_pos c7] at H
       have c7b0 : decide ((bt a0 x3_1) < 97) = true := decide_eq_true c7
       clear c7
       obtain rfl := Option.some.inj H
       have p6 : 0 ≤ (x3_1 : Int) := of_decide_eq_true (by first | (with_reducible assumption) | assumption)
       have q6 : x3_1 < (a0.size : Int) := of_decide_eq_true (by first | (with_reducible assumption) | assumption)
       have hx6 := bt_at a0 x3_1
       replace p6 := eq_true p6
       replace q6 := eq_true q6
       go_wp2
       go_ret
       exact ⟨by first | rfl | (simp; done) | (simp [*]; done), by repeat (first | exact Drawn0.refl _ | apply Drawn0.step)⟩
      ·rw [if_neg c7] at H
       have c7b0 : decide ((bt a0 x3_1) < 97) = false := decide_eq_false c7
       clear c7
       by_cases c9 : (bt a0 x3_1) > 122
       ·rw [if_pos c9] at H
        have c9b0 : decide (122 < (bt a0 x3_1)) = true := decide_eq_true c9
        clear c9
        obtain rfl := Option.some.inj H
        have p6 : 0 ≤ (x3_1 : Int) := of_decide_eq_true (by first | (with_reducible assumption) | assumption)
        have q6 : x3_1 < (a0.size : Int) := of_decide_eq_true (by first | (with_reducible assumption) | assumption)
        have hx6 := bt_at a0 x3_1
        replace p6 := eq_true p6
        replace q6 := eq_true q6
        have p8 : 0 ≤ (x3_1 : Int) := of_decide_eq_true (by first | (with_reducible assumption) | assumption)
        have q8 : x3_1 < (a0.size : Int) := of_decide_eq_true (by first | (with_reducible assumption) | assumption)
        have hx8 := bt_at a0 x3_1
        replace p8 := eq_true p8
        replace q8 := eq_true q8
        go_wp2
        go_ret
        exact ⟨by first | rfl | (simp; done) | (simp [*]; done), by repeat (first | exact Drawn0.refl _ | apply Drawn0.step)⟩
       ·rw [if_neg c9] at H
        have c9b0 : decide (122 < (bt a0 x3_1)) = false := decide_eq_false c9
        clear c9
        have H' := Az.mk H
        clear H
        have p6 : 0 ≤ (x3_1 : Int) := of_decide_eq_true (by first | (with_reducible assumption) | assumption)
        have q6 : x3_1 < (a0.size : Int) := of_decide_eq_true (by first | (with_reducible assumption) | assumption)
        have hx6 := bt_at a0 x3_1
        replace p6 := eq_true p6
        replace q6 := eq_true q6
        have p8 : 0 ≤ (x3_1 : Int) := of_decide_eq_true (by first | (with_reducible assumption) | assumption)
        have q8 : x3_1 < (a0.size : Int) := of_decide_eq_true (by first | (with_reducible assumption) | assumption)
        have hx8 := bt_at a0 x3_1
        replace p8 := eq_true p8
        replace q8 := eq_true q8
        go_wp2
        go_roundg k1
        case measure => have := HK1.out; omega
        case rel => exact ⟨(wrap64 (x3_1 + 1)), (by first | rfl | (simp; done) | (simp [*]; done)), H', ⟨by have := HK1.out; omega⟩, by repeat (first | exact Drawn0.refl _ | apply Drawn0.step)⟩
     ·rw [if_neg c5] at H
      exact absurd H (by simp)
    ·rw [if_neg c4] at H
     have c4b0 : decide (x3_1 < (a0.size : Int)) = false := decide_eq_false c4
     clear c4
     obtain rfl := Option.some.inj H
     go_wp2
     go_ret
     exact ⟨by first | rfl | (simp; done) | (simp [*]; done), by repeat (first | exact Drawn0.refl _ | apply Drawn0.step)⟩
 ·replace c3 := Bool.eq_false_iff.mpr c3
  subst c3
  have H1 : (some false) = some r := by rw [if_neg (show ¬ (false = true) by decide)] at H; exact H
  clear H
  have H := H1
  clear H1
  obtain rfl := Option.some.inj H
  go_enter Try.func98, Try.ntmps98
  go_wp2_with (first | ((with_reducible refine gate_callee (f := 75) rfl ?_); refine zq9 (some 6) rfl rfl Try.func75 (by kernel_rfl) rfl #[.int .i64 (a0.size : Int), .int .i64 1, .int .i64 3] rfl (by (try simp only [List.map_toArray, List.map_cons, List.map_nil]); first | done | rfl | (simp only [List.length_drop, List.length_take]; rfl)) ?_; (with_reducible refine (spec_l6In.calls (a0.size : Int) 1 3 false _ A2.out).mono ?_); rintro e w' ⟨rfl, ⟨nd, rfl⟩⟩; refine ⟨_, rfl, ?_⟩))
  go_ret
  exact ⟨by first | rfl | (simp; done) | (simp [*]; done), by repeat (first | exact Drawn0.refl _ | apply Drawn0.step)⟩
end Go.Proofs.Ytkoimmeghdbodaa.Print
