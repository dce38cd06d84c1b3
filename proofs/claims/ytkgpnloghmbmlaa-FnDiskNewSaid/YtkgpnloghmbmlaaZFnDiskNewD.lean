/- Proved, with what follows on it: the row of the law FnDiskNew. Conditions: the row's alone. Texts of this session and words that the kit's print laid for this seat, merged and cut by shrink.py, a program of this session. -/
import Derived.Below
import Derived.ChangeOld
import Derived.OpenShut
import Derived.ProofKit
import Derived.ShutString
import Derived.SizedLaws
import Derived.WalkKit
import Derived.Test.YtkgpnloghmbmlaaRows
import Derived.Test.YtkgpnloghmbmlaaZFnDiskNewC
namespace Go.Proofs.Ytkgpnloghmbmlaa.Print
open Go.RowKit Go.Proofs.YtkgpnloghmbmlaaW.PrintWords Go.Proofs.YtkgpnloghmbmlaaW.PrintLast Go.Proofs.YtkgpnloghmbmlaaW.PrintMore Go.Proofs.Ytkgpnloghmbmlaa.Drv
set_option linter.unusedVariables false
set_option linter.unusedSimpArgs false
def impl_DiskNew.f (a0 : Int) : Option (Int × List ByteArray × List ByteArray × List Bool × List S54) :=
  if 0 ≤ a0 ∧ a0 ≤ 2 then some (a0, List.replicate 12 ByteArray.empty, List.replicate 2 ByteArray.empty, List.replicate 12 false, []) else some (0, [], [], [], [])
set_option maxHeartbeats 4000000 in
set_option maxRecDepth 100000 in
theorem impl_DiskNew.calls (a0 : Int) (r1 : Int) (r2 : List ByteArray) (r3 : List ByteArray) (r4 : List Bool) (r5 : List (S54)) (w : World) (h : impl_DiskNew.f a0 = some (r1, r2, r3, r4, r5)) :
    Calls Try.prog 17 #[.int .i64 a0] w fun e w' => ∃ v1_ v2_ v3_ v4_ : Value, e = .returned (.agg #[.int .i64 r1, v1_, v2_, v3_, v4_]) ∧ Kd.R Kd.string 9 w' w.heap.size (fun k_ => some k_ ≠ (v2_ : Value).ownBlock) v1_ r2 ∧ Kd.R Kd.string 9 w' w.heap.size (fun k_ => some k_ ≠ (v1_ : Value).ownBlock) v2_ r3 ∧ Kd.R Kd.bool 4 w' w.heap.size (fun _ => True) v3_ r4 ∧ Kd.R k54 54 w' w.heap.size (fun _ => True) v4_ r5 ∧ Below w.heap.size w w' := by
  have hu28 := Try.underlying28
  have hu80 := Try.underlying80
  have hu75 := Try.underlying75
  have HP : Aside0 (impl_isState.f a0 = some (decide (0 ≤ a0 ∧ a0 ≤ 2))) := ⟨by
    unfold impl_isState.f
    by_cases h1 : a0 ≥ 0
    · rw [if_pos h1]
      congr 1
      rw [Bool.eq_iff_iff, decide_eq_true_iff, decide_eq_true_iff]
      omega
    · rw [if_neg h1, decide_eq_false (by omega)]⟩
  have HB := Aside0.mk (Below.refl w.heap.size w)
  by_cases c : 0 ≤ a0 ∧ a0 ≤ 2
  · rw [impl_DiskNew.f, if_pos c] at h
    simp only [Option.some.injEq, Prod.mk.injEq] at h
    obtain ⟨rfl, rfl, rfl, rfl, rfl⟩ := h
    rw [decide_eq_true c] at HP
    clear c
    go_enter Try.func17, Try.ntmps17
    go_wp2_with (first | ((with_reducible refine gate_dst (N := 2) rfl ?_); refine box_event ?hg (N := 2) ?hd (cs := #[.int .i64 0, .slice none 0 0, .slice none 0 0, .slice none 0 0, .slice none 0 0]) (t := 28) ?hr ?_; (case hd => rfl); (case hg => rfl); (case hr => first | (go_simp; done) | (go_simp; rfl)); intro gr hg w1 hbox hb; have n0_ := Aside0.mk (below_step (by repeat (first | (with_reducible first | exact HB.out | apply below_alloc | apply pw_below_drewN | apply below_drew1) | exact HB.out)) hb); have n1_ := Aside0.mk hbox; have HGR : Aside0 (w.heap.size ≤ gr) := ⟨by rw [hg]; exact (below_size (by repeat (first | (with_reducible first | exact HB.out | apply below_alloc | apply pw_below_drewN | apply below_drew1) | exact HB.out)))⟩; clear HB; have HB := n0_; have BK := n1_; clear n0_ n1_ hb hbox hg; have hcz_0 : w1.cell? ⟨gr, 0, none⟩ = some (.int .i64 0) := (blk_cell BK.out 0).trans rfl; have hcz_1 : w1.cell? ⟨gr, 1, none⟩ = some (.slice none 0 0) := (blk_cell BK.out 1).trans rfl; have hcz_2 : w1.cell? ⟨gr, 2, none⟩ = some (.slice none 0 0) := (blk_cell BK.out 2).trans rfl; have hcz_3 : w1.cell? ⟨gr, 3, none⟩ = some (.slice none 0 0) := (blk_cell BK.out 3).trans rfl; have hcz_4 : w1.cell? ⟨gr, 4, none⟩ = some (.slice none 0 0) := (blk_cell BK.out 4).trans rfl; have hfz_0 := blk_frozen BK.out 0; have hfz_1 := blk_frozen BK.out 1; have hfz_2 := blk_frozen BK.out 2; have hfz_3 := blk_frozen BK.out 3; have hfz_4 := blk_frozen BK.out 4) | (go_at_call 49; refine (impl_isState.calls _ _ _ HP.out).mono ?_; rintro e w7 ⟨rfl, ⟨nd, rfl⟩⟩) | ((with_reducible refine gate_dst (N := 10) rfl ?_); refine box_event ?hg (N := 10) ?hd (cs := #[.int .i64 a0, .bool false, .bool false, .bool false, .bool false, .bool false, .bool false, .bool false, .bool false, .bool false, .bool false, .bool false, .bool false, .string (⟨#[]⟩ : ByteArray), .string (⟨#[]⟩ : ByteArray), .string (⟨#[]⟩ : ByteArray), .string (⟨#[]⟩ : ByteArray), .string (⟨#[]⟩ : ByteArray), .string (⟨#[]⟩ : ByteArray), .string (⟨#[]⟩ : ByteArray), .string (⟨#[]⟩ : ByteArray), .string (⟨#[]⟩ : ByteArray), .string (⟨#[]⟩ : ByteArray), .string (⟨#[]⟩ : ByteArray), .string (⟨#[]⟩ : ByteArray), .string (⟨#[]⟩ : ByteArray), .string (⟨#[]⟩ : ByteArray), .pointer none]) (t := 80) ?hr ?_; (case hd => rfl); (case hg => rfl); (case hr => first | (go_simp; done) | (go_simp; rfl)); intro gd hg w5 hbox hb; have n0_ := Aside0.mk (below_step (by repeat (first | (with_reducible first | exact HB.out | apply below_alloc | apply pw_below_drewN | apply below_drew1) | exact HB.out)) hb); have n1_ := Aside0.mk (blk_below (g := gr) (o := .cells #[.int .i64 0, .slice none 0 0, .slice none 0 0, .slice none 0 0, .slice none 0 0] 28 (0, 0)) (by (with_reducible repeat (first | refine blk_drewN ?_ _ | refine blk_drew ?_ | refine blk_alloc ?_ _)); exact BK.out) hb); have HD : Aside0 (Drv w5 gd a0 (List.replicate 12 false) (List.replicate 12 ByteArray.empty) (List.replicate 2 ByteArray.empty) []) := ⟨⟨hbox, trivial, rfl, rfl, rfl⟩⟩; have HG5 : Aside0 (gr < w5.heap.size) := ⟨blk_lt n1_.out⟩; have HS5 : Aside0 (w.heap.size ≤ w5.heap.size) := ⟨below_size n0_.out⟩; clear HB BK; have HB := n0_; have BK := n1_; clear n0_ n1_ hb hbox hg) | (go_at_call 50; refine (disk_calls gd a0 (List.replicate 12 false) (List.replicate 12 ByteArray.empty) (List.replicate 2 ByteArray.empty) [] _ HD.out (by simp)).mono ?_; rintro e w9 ⟨v1, v2, v3, v4, rfl, ho1, ho2, ho3, ho4, hb⟩; obtain ⟨A1, c1, rfl⟩ := Kd.R_slice ho1; obtain ⟨A2, c2, rfl⟩ := Kd.R_slice ho2; obtain ⟨A3, c3, rfl⟩ := Kd.R_slice ho3; obtain ⟨A4, c4, rfl⟩ := Kd.R_slice ho4; have n0_ := Aside0.mk (below_step HB.out hb); have n1_ := Aside0.mk (blk_below (g := gr) (o := .cells #[.int .i64 0, .slice none 0 0, .slice none 0 0, .slice none 0 0, .slice none 0 0] 28 (0, 0)) BK.out hb); have HO1 := Aside0.mk ho1; have HO2 := Aside0.mk ho2; have HO3 := Aside0.mk ho3; have HO4 := Aside0.mk ho4; clear HB BK; have HB := n0_; have BK := n1_; clear n0_ n1_ ho1 ho2 ho3 ho4 hb; have hcz_0 : w9.cell? ⟨gr, 0, none⟩ = some (.int .i64 0) := (blk_cell BK.out 0).trans rfl; have hcz_1 : w9.cell? ⟨gr, 1, none⟩ = some (.slice none 0 0) := (blk_cell BK.out 1).trans rfl; have hcz_2 : w9.cell? ⟨gr, 2, none⟩ = some (.slice none 0 0) := (blk_cell BK.out 2).trans rfl; have hcz_3 : w9.cell? ⟨gr, 3, none⟩ = some (.slice none 0 0) := (blk_cell BK.out 3).trans rfl; have hcz_4 : w9.cell? ⟨gr, 4, none⟩ = some (.slice none 0 0) := (blk_cell BK.out 4).trans rfl; have hfz_0 := blk_frozen BK.out 0; have hfz_1 := blk_frozen BK.out 1; have hfz_2 := blk_frozen BK.out 2; have hfz_3 := blk_frozen BK.out 3; have hfz_4 := blk_frozen BK.out 4))
    have hset : ∀ {W : World} (h : Below w.heap.size w W) (j : Nat) (u : Value), Below w.heap.size w (W.setCell ⟨gr, j, none⟩ u) := fun h j u => below_set h HGR.out
    refine bodyPost_ret (results_cell_row rfl _ _ gr 28 #[.int .i64 a0, .slice A1 12 c1, .slice A2 2 c2, .slice A3 12 c3, .slice A4 0 c4] (0, 0) _ rfl (by
      refine blk_put (cs := #[.int .i64 a0, .slice A1 12 c1, .slice A2 2 c2, .slice A3 12 c3, .slice none 0 0]) ?_ 4 _ rfl
      refine blk_put (cs := #[.int .i64 a0, .slice A1 12 c1, .slice A2 2 c2, .slice none 0 0, .slice none 0 0]) ?_ 3 _ rfl
      refine blk_put (cs := #[.int .i64 a0, .slice A1 12 c1, .slice none 0 0, .slice none 0 0, .slice none 0 0]) ?_ 2 _ rfl
      refine blk_put (cs := #[.int .i64 a0, .slice none 0 0, .slice none 0 0, .slice none 0 0, .slice none 0 0]) ?_ 1 _ rfl
      refine blk_put (cs := #[.int .i64 0, .slice none 0 0, .slice none 0 0, .slice none 0 0, .slice none 0 0]) ?_ 0 _ rfl
      exact BK.out) Try.underlying28 rfl (by kernel_rfl)) rfl ?_
    exact ⟨_, _, _, _, rfl, Kd.R_lower (R_setOwn (R_setOwn (R_setOwn (R_setOwn (R_setOwn HO1.out HG5.out 0 _) HG5.out 1 _) HG5.out 2 _) HG5.out 3 _) HG5.out 4 _) HS5.out,
      Kd.R_lower (R_setOwn (R_setOwn (R_setOwn (R_setOwn (R_setOwn HO2.out HG5.out 0 _) HG5.out 1 _) HG5.out 2 _) HG5.out 3 _) HG5.out 4 _) HS5.out,
      Kd.R_lower (R_setOwn (R_setOwn (R_setOwn (R_setOwn (R_setOwn HO3.out HG5.out 0 _) HG5.out 1 _) HG5.out 2 _) HG5.out 3 _) HG5.out 4 _) HS5.out,
      Kd.R_lower (R_setOwn (R_setOwn (R_setOwn (R_setOwn (R_setOwn HO4.out HG5.out 0 _) HG5.out 1 _) HG5.out 2 _) HG5.out 3 _) HG5.out 4 _) HS5.out,
      hset (hset (hset (hset (hset HB.out 0 _) 1 _) 2 _) 3 _) 4 _⟩
  · rw [impl_DiskNew.f, if_neg c] at h
    simp only [Option.some.injEq, Prod.mk.injEq] at h
    obtain ⟨rfl, rfl, rfl, rfl, rfl⟩ := h
    rw [decide_eq_false c] at HP
    clear c
    go_enter Try.func17, Try.ntmps17
    go_wp2_with (first | ((with_reducible refine gate_dst (N := 2) rfl ?_); refine box_event ?hg (N := 2) ?hd (cs := #[.int .i64 0, .slice none 0 0, .slice none 0 0, .slice none 0 0, .slice none 0 0]) (t := 28) ?hr ?_; (case hd => rfl); (case hg => rfl); (case hr => first | (go_simp; done) | (go_simp; rfl)); intro gr hg w1 hbox hb; have n0_ := Aside0.mk (below_step (by repeat (first | (with_reducible first | exact HB.out | apply below_alloc | apply pw_below_drewN | apply below_drew1) | exact HB.out)) hb); have n1_ := Aside0.mk hbox; have HGR : Aside0 (w.heap.size ≤ gr) := ⟨by rw [hg]; exact (below_size (by repeat (first | (with_reducible first | exact HB.out | apply below_alloc | apply pw_below_drewN | apply below_drew1) | exact HB.out)))⟩; clear HB; have HB := n0_; have BK := n1_; clear n0_ n1_ hb hbox hg; have hcz_0 : w1.cell? ⟨gr, 0, none⟩ = some (.int .i64 0) := (blk_cell BK.out 0).trans rfl; have hcz_1 : w1.cell? ⟨gr, 1, none⟩ = some (.slice none 0 0) := (blk_cell BK.out 1).trans rfl; have hcz_2 : w1.cell? ⟨gr, 2, none⟩ = some (.slice none 0 0) := (blk_cell BK.out 2).trans rfl; have hcz_3 : w1.cell? ⟨gr, 3, none⟩ = some (.slice none 0 0) := (blk_cell BK.out 3).trans rfl; have hcz_4 : w1.cell? ⟨gr, 4, none⟩ = some (.slice none 0 0) := (blk_cell BK.out 4).trans rfl; have hfz_0 := blk_frozen BK.out 0; have hfz_1 := blk_frozen BK.out 1; have hfz_2 := blk_frozen BK.out 2; have hfz_3 := blk_frozen BK.out 3; have hfz_4 := blk_frozen BK.out 4) | (go_at_call 49; refine (impl_isState.calls _ _ _ HP.out).mono ?_; rintro e w7 ⟨rfl, ⟨nd, rfl⟩⟩))
    have hset : ∀ {W : World} (h : Below w.heap.size w W) (j : Nat) (u : Value), Below w.heap.size w (W.setCell ⟨gr, j, none⟩ u) := fun h j u => below_set h HGR.out
    refine bodyPost_ret (results_cell_row rfl _ _ gr 28 #[.int .i64 0, .slice none 0 0, .slice none 0 0, .slice none 0 0, .slice none 0 0] (0, 0) _ rfl (by
      refine blk_put (cs := #[.int .i64 0, .slice none 0 0, .slice none 0 0, .slice none 0 0, .slice none 0 0]) ?_ 4 _ rfl
      refine blk_put (cs := #[.int .i64 0, .slice none 0 0, .slice none 0 0, .slice none 0 0, .slice none 0 0]) ?_ 3 _ rfl
      refine blk_put (cs := #[.int .i64 0, .slice none 0 0, .slice none 0 0, .slice none 0 0, .slice none 0 0]) ?_ 2 _ rfl
      refine blk_put (cs := #[.int .i64 0, .slice none 0 0, .slice none 0 0, .slice none 0 0, .slice none 0 0]) ?_ 1 _ rfl
      refine blk_put (cs := #[.int .i64 0, .slice none 0 0, .slice none 0 0, .slice none 0 0, .slice none 0 0]) ?_ 0 _ rfl
      exact (by (with_reducible repeat (first | refine blk_drewN ?_ _ | refine blk_drew ?_ | refine blk_alloc ?_ _)); exact BK.out)) Try.underlying28 rfl (by kernel_rfl)) rfl ?_
    exact ⟨_, _, _, _, rfl, Kd.R_nil _ _ _ _ _, Kd.R_nil _ _ _ _ _, Kd.R_nil _ _ _ _ _, Kd.R_nil _ _ _ _ _, hset (hset (hset (hset (hset (by repeat (first | (with_reducible first | exact HB.out | apply below_alloc | apply pw_below_drewN | apply below_drew1) | exact HB.out)) 0 _) 1 _) 2 _) 3 _) 4 _⟩
end Go.Proofs.Ytkgpnloghmbmlaa.Print
namespace Go.Proofs.Ytkgpnloghmbmlaa.Print
open Go.RowKit Go.Proofs.YtkgpnloghmbmlaaW.PrintWords Go.Proofs.YtkgpnloghmbmlaaW.PrintLast Go.Proofs.YtkgpnloghmbmlaaW.PrintMore Go.Proofs.Ytkgpnloghmbmlaa.Drv
set_option linter.unusedVariables false
set_option linter.unusedSimpArgs false
def seenStep (i : Int) (t : ByteArray) (p : S54) : ByteArray := if p.f0 = false ∧ p.f1 = i then p.f2 else t
def seenF (sl : List ByteArray) (wt : List S54) (i : Nat) : ByteArray := wt.foldl (seenStep i) (sl.getD i ByteArray.empty)
set_option maxHeartbeats 4000000 in
set_option maxRecDepth 100000 in
theorem seen_calls (g : Nat) (st : Int) (sp : List Bool) (sl rg : List ByteArray) (ns : List (Nat × Pt)) (ws : List S54) (a : Nat) (w : World) (hD : Drv w g st sp sl rg ns) (hn : ns.length ≤ 40) (ha : a < 12) (hws : ns.map (·.2) = ws) :
    Calls Try.prog 53 #[.pointer (some ⟨g, 0, none⟩), .int .i64 (a : Int)] w fun e w' => e = .returned (.string (seenF sl ws a)) ∧ Below w.heap.size w w' := by
  have hu80 := Try.underlying80
  have hu54 := Try.underlying54
  have hu76 := Try.underlying76
  have HCW := Aside0.mk (fun (W : World) (hb : Below w.heap.size w W) => hws ▸ waits_calls g st sp sl rg ns W (hD.below hb) hn)
  have HLEN : Aside0 (ws.length ≤ 40) := ⟨by rw [← hws, List.length_map]; exact hn⟩
  obtain ⟨tx, htx⟩ : ∃ t, t = sl.getD a ByteArray.empty := ⟨_, rfl⟩
  have hsl : w.cell? ⟨g, 13 + a, none⟩ = some (.string tx) := by rw [htx]; exact (blk_cell hD.blk (13 + a)).trans (dc_sl hD.lsp hD.lsl ha)
  have hsl2 : w.cell? ((⟨g, 13, none⟩ : Addr).add a) = some (.string tx) := by rw [show (⟨g, 13, none⟩ : Addr).add a = ⟨g, 13 + a, none⟩ by (unfold Addr.add; split <;> simp_all)]; exact hsl
  have HTX := Aside0.mk htx
  have ha0 : (0 : Int) ≤ (a : Int) := by omega
  have ha1 : (a : Int) < 12 := by omega
  have HA := Aside0.mk ha
  clear hD hn hws htx ha
  replace ha0 := eq_true ha0
  replace ha1 := eq_true ha1
  have HB := Aside0.mk (Below.refl w.heap.size w)
  go_enter Try.func53, Try.ntmps53
  go_wp2_with (first | (go_at_call 90; refine (HCW.out _ (by repeat (first | (with_reducible first | exact HB.out | apply below_alloc | apply pw_below_drewN | apply below_drew1) | exact HB.out))).mono ?_; rintro e w9 ⟨v9, rfl, ho, hb⟩; obtain ⟨A9, c9, rfl⟩ := Kd.R_slice ho; obtain ⟨_, hc9, hr9⟩ := Kd.R_reads' ho; have n0_ := Aside0.mk (below_step (by repeat (first | (with_reducible first | exact HB.out | apply below_alloc | apply pw_below_drewN | apply below_drew1) | exact HB.out)) hb); clear HB; have HB := n0_; have HB9 := Aside0.mk (Below.refl w9.heap.size w9); have HR9 := Aside0.mk hr9; clear n0_ hb ho hc9 hr9))
  clear hsl hsl2
  go_loopg [5, 17] ws.length (fun kq v5 v17 w' => ∃ (i : Nat), v17 = .int .i64 (i : Int) ∧ v5 = .string ((ws.take i).foldl (seenStep a) tx) ∧ Aside0 (i + kq = ws.length) ∧ Aside0 (Below w.heap.size w w') ∧ Aside0 (Below w9.heap.size w9 w'))
  case atStart => exact ⟨0, rfl, rfl, ⟨Nat.zero_add _⟩, ⟨(by repeat (first | (with_reducible first | exact HB.out | apply below_alloc | apply pw_below_drewN | apply below_drew1) | exact HB.out))⟩, ⟨(by repeat (first | (with_reducible first | exact HB9.out | apply below_alloc | apply pw_below_drewN | apply below_drew1) | exact HB9.out))⟩⟩
  case round =>
    obtain ⟨i, rfl, rfl, HI, HB, HB9⟩ := hrel
    by_cases c1 : i < ws.length
    · have c1b0 : decide ((i : Int) < (ws.length : Int)) = true := decide_eq_true (by omega)
      have p1 : (0 : Int) ≤ (i : Int) := by omega
      have q1 : (i : Int) < (ws.length : Int) := by omega
      have hm := HLEN.out
      have HWR := Aside0.mk (show wrap64 ((i : Int) + 1) = ((i + 1 : Nat) : Int) by unfold wrap64; omega)
      have HC1 := Aside0.mk c1
      clear hm
      obtain ⟨ad, e1, hx_0, hx_1, hx_2⟩ := at_T54 HR9.out (i : Int) p1 q1
      cases e1
      simp only [Int.toNat_natCast, rd_T54] at hx_0 hx_1 hx_2
      replace hx_0 := (HB9.out.cell (World.block_lt_of_cell? w9 _ hx_0)).trans hx_0
      replace hx_1 := (HB9.out.cell (World.block_lt_of_cell? w9 _ hx_1)).trans hx_1
      replace hx_2 := (HB9.out.cell (World.block_lt_of_cell? w9 _ hx_2)).trans hx_2
      replace p1 := eq_true p1
      replace q1 := eq_true q1
      clear c1
      obtain ⟨x, hE⟩ : ∃ x, x = ws.getD i z54 := ⟨_, rfl⟩
      rw [← hE] at hx_0 hx_1 hx_2
      obtain ⟨tv, htv⟩ : ∃ t, t = (ws.take i).foldl (seenStep a) tx := ⟨_, rfl⟩
      have hst : (ws.take (i + 1)).foldl (seenStep a) tx = seenStep a tv x := by
        rw [List.take_succ_eq_append_getElem HC1.out, List.foldl_append, htv, hE]
        have h1 := HC1.out
        simp [List.getD, h1]
      have hgo : x.f0 = false ∧ x.f1 = (a : Int) ∨ ¬ (x.f0 = false ∧ x.f1 = (a : Int)) := Classical.em _
      rw [← htv]
      have HST0 := Aside0.mk hst
      clear hst hE htv
      obtain ⟨f0, f1, f2⟩ := x
      simp only at hx_0 hx_1 hx_2
      cases f0 with
      | true =>
        have HST : Aside0 ((ws.take (i + 1)).foldl (seenStep a) tx = tv) := ⟨by rw [HST0.out, seenStep, if_neg (fun h => by cases h.1)]⟩
        clear HST0 hgo
        go_wp2_with (first | ((with_reducible refine gate_dst (N := 7) rfl ?_); refine box_event ?hg (N := 7) ?hd (cs := #[.bool false, .int .i64 0, .string ⟨#[]⟩]) (t := 54) ?hr ?_; (case hd => rfl); (case hg => rfl); (case hr => first | (go_simp; done) | (go_simp; rfl)); intro gp hg w20 hbox hb; have n0_ := Aside0.mk (below_step (by repeat (first | (with_reducible first | exact HB.out | apply below_alloc | apply pw_below_drewN | apply below_drew1) | exact HB.out)) hb); have n1_ := Aside0.mk (below_step (by repeat (first | (with_reducible first | exact HB9.out | apply below_alloc | apply pw_below_drewN | apply below_drew1) | exact HB9.out)) hb); have HGP : Aside0 (w.heap.size ≤ gp) := ⟨by rw [hg]; exact (below_size (by repeat (first | (with_reducible first | exact HB.out | apply below_alloc | apply pw_below_drewN | apply below_drew1) | exact HB.out)))⟩; have HGP9 : Aside0 (w9.heap.size ≤ gp) := ⟨by rw [hg]; exact (below_size (by repeat (first | (with_reducible first | exact HB9.out | apply below_alloc | apply pw_below_drewN | apply below_drew1) | exact HB9.out)))⟩; clear HB HB9; have HB := n0_; have HB9 := n1_; have BP := Aside0.mk hbox; clear n0_ n1_ hb hbox hg; have hcp_0 : w20.cell? ⟨gp, 0, none⟩ = some (.bool false) := (blk_cell BP.out 0).trans rfl; have hcp_1 : w20.cell? ⟨gp, 1, none⟩ = some (.int .i64 0) := (blk_cell BP.out 1).trans rfl; have hcp_2 : w20.cell? ⟨gp, 2, none⟩ = some (.string ⟨#[]⟩) := (blk_cell BP.out 2).trans rfl; have hfp_0 := blk_frozen BP.out 0; have hfp_1 := blk_frozen BP.out 1; have hfp_2 := blk_frozen BP.out 2))
        go_roundg (gk - 1)
        case measure => have := HI.out; have := HC1.out; omega
        case rel => exact ⟨i + 1, by rw [← HWR.out], by rw [HST.out], ⟨by have := HI.out; have := HC1.out; omega⟩, ⟨(by repeat (first | (with_reducible first | exact HB.out | apply below_alloc | apply pw_below_drewN | apply below_drew1 | refine below_set ?_ HGP.out) | exact HB.out))⟩, ⟨(by repeat (first | (with_reducible first | exact HB9.out | apply below_alloc | apply pw_below_drewN | apply below_drew1 | refine below_set ?_ HGP9.out) | exact HB9.out))⟩⟩
      | false =>
       by_cases h1 : f1 = (a : Int)
       · subst h1
         have HST : Aside0 ((ws.take (i + 1)).foldl (seenStep a) tx = f2) := ⟨by rw [HST0.out, seenStep, if_pos ⟨rfl, rfl⟩]⟩
         clear HST0 hgo
         go_wp2_with (first | ((with_reducible refine gate_dst (N := 7) rfl ?_); refine box_event ?hg (N := 7) ?hd (cs := #[.bool false, .int .i64 0, .string ⟨#[]⟩]) (t := 54) ?hr ?_; (case hd => rfl); (case hg => rfl); (case hr => first | (go_simp; done) | (go_simp; rfl)); intro gp hg w20 hbox hb; have n0_ := Aside0.mk (below_step (by repeat (first | (with_reducible first | exact HB.out | apply below_alloc | apply pw_below_drewN | apply below_drew1) | exact HB.out)) hb); have n1_ := Aside0.mk (below_step (by repeat (first | (with_reducible first | exact HB9.out | apply below_alloc | apply pw_below_drewN | apply below_drew1) | exact HB9.out)) hb); have HGP : Aside0 (w.heap.size ≤ gp) := ⟨by rw [hg]; exact (below_size (by repeat (first | (with_reducible first | exact HB.out | apply below_alloc | apply pw_below_drewN | apply below_drew1) | exact HB.out)))⟩; have HGP9 : Aside0 (w9.heap.size ≤ gp) := ⟨by rw [hg]; exact (below_size (by repeat (first | (with_reducible first | exact HB9.out | apply below_alloc | apply pw_below_drewN | apply below_drew1) | exact HB9.out)))⟩; clear HB HB9; have HB := n0_; have HB9 := n1_; have BP := Aside0.mk hbox; clear n0_ n1_ hb hbox hg; have hcp_0 : w20.cell? ⟨gp, 0, none⟩ = some (.bool false) := (blk_cell BP.out 0).trans rfl; have hcp_1 : w20.cell? ⟨gp, 1, none⟩ = some (.int .i64 0) := (blk_cell BP.out 1).trans rfl; have hcp_2 : w20.cell? ⟨gp, 2, none⟩ = some (.string ⟨#[]⟩) := (blk_cell BP.out 2).trans rfl; have hfp_0 := blk_frozen BP.out 0; have hfp_1 := blk_frozen BP.out 1; have hfp_2 := blk_frozen BP.out 2))
         go_roundg (gk - 1)
         case measure => have := HI.out; have := HC1.out; omega
         case rel => exact ⟨i + 1, by rw [← HWR.out], by rw [HST.out], ⟨by have := HI.out; have := HC1.out; omega⟩, ⟨(by repeat (first | (with_reducible first | exact HB.out | apply below_alloc | apply pw_below_drewN | apply below_drew1 | refine below_set ?_ HGP.out) | exact HB.out))⟩, ⟨(by repeat (first | (with_reducible first | exact HB9.out | apply below_alloc | apply pw_below_drewN | apply below_drew1 | refine below_set ?_ HGP9.out) | exact HB9.out))⟩⟩
       · have HST : Aside0 ((ws.take (i + 1)).foldl (seenStep a) tx = tv) := ⟨by rw [HST0.out, seenStep, if_neg (fun h => h1 h.2)]⟩
         have h1b : (f1 == (a : Int)) = false := by rw [beq_eq_false_iff_ne]; exact h1
         clear HST0 hgo h1
         go_wp2_with (first | ((with_reducible refine gate_dst (N := 7) rfl ?_); refine box_event ?hg (N := 7) ?hd (cs := #[.bool false, .int .i64 0, .string ⟨#[]⟩]) (t := 54) ?hr ?_; (case hd => rfl); (case hg => rfl); (case hr => first | (go_simp; done) | (go_simp; rfl)); intro gp hg w20 hbox hb; have n0_ := Aside0.mk (below_step (by repeat (first | (with_reducible first | exact HB.out | apply below_alloc | apply pw_below_drewN | apply below_drew1) | exact HB.out)) hb); have n1_ := Aside0.mk (below_step (by repeat (first | (with_reducible first | exact HB9.out | apply below_alloc | apply pw_below_drewN | apply below_drew1) | exact HB9.out)) hb); have HGP : Aside0 (w.heap.size ≤ gp) := ⟨by rw [hg]; exact (below_size (by repeat (first | (with_reducible first | exact HB.out | apply below_alloc | apply pw_below_drewN | apply below_drew1) | exact HB.out)))⟩; have HGP9 : Aside0 (w9.heap.size ≤ gp) := ⟨by rw [hg]; exact (below_size (by repeat (first | (with_reducible first | exact HB9.out | apply below_alloc | apply pw_below_drewN | apply below_drew1) | exact HB9.out)))⟩; clear HB HB9; have HB := n0_; have HB9 := n1_; have BP := Aside0.mk hbox; clear n0_ n1_ hb hbox hg; have hcp_0 : w20.cell? ⟨gp, 0, none⟩ = some (.bool false) := (blk_cell BP.out 0).trans rfl; have hcp_1 : w20.cell? ⟨gp, 1, none⟩ = some (.int .i64 0) := (blk_cell BP.out 1).trans rfl; have hcp_2 : w20.cell? ⟨gp, 2, none⟩ = some (.string ⟨#[]⟩) := (blk_cell BP.out 2).trans rfl; have hfp_0 := blk_frozen BP.out 0; have hfp_1 := blk_frozen BP.out 1; have hfp_2 := blk_frozen BP.out 2))
         go_roundg (gk - 1)
         case measure => have := HI.out; have := HC1.out; omega
         case rel => exact ⟨i + 1, by rw [← HWR.out], by rw [HST.out], ⟨by have := HI.out; have := HC1.out; omega⟩, ⟨(by repeat (first | (with_reducible first | exact HB.out | apply below_alloc | apply pw_below_drewN | apply below_drew1 | refine below_set ?_ HGP.out) | exact HB.out))⟩, ⟨(by repeat (first | (with_reducible first | exact HB9.out | apply below_alloc | apply pw_below_drewN | apply below_drew1 | refine below_set ?_ HGP9.out) | exact HB9.out))⟩⟩
    · have c1b0 : decide ((i : Int) < (ws.length : Int)) = false := decide_eq_false (by omega)
      have c1b1 : decide (i < ws.length) = false := decide_eq_false c1
      have HF : Aside0 ((ws.take i).foldl (seenStep a) tx = seenF sl ws a) := ⟨by rw [show i = ws.length by have := HI.out; omega, List.take_length, HTX.out]; rfl⟩
      go_wp2
      go_ret
      exact ⟨by first | rfl | (rw [HF.out]; rfl) | (rw [HF.out]), (by repeat (first | (with_reducible first | exact HB.out | apply below_alloc | apply pw_below_drewN | apply below_drew1) | exact HB.out))⟩
end Go.Proofs.Ytkgpnloghmbmlaa.Print
namespace Go.Proofs.Ytkgpnloghmbmlaa.Print
open Go.RowKit Go.Proofs.YtkgpnloghmbmlaaW.PrintWords Go.Proofs.YtkgpnloghmbmlaaW.PrintLast Go.Proofs.YtkgpnloghmbmlaaW.PrintMore Go.Proofs.Ytkgpnloghmbmlaa.Drv
set_option linter.unusedVariables false
set_option linter.unusedSimpArgs false
theorem readDisk_bad (a0_0 : Int) (A0_1 : Option Addr) (c0_1 : Nat) (l0_1 : List ByteArray) (A0_2 : Option Addr) (c0_2 : Nat) (l0_2 : List ByteArray) (A0_3 : Option Addr) (c0_3 : Nat) (l0_3 : List Bool) (A0_4 : Option Addr) (c0_4 : Nat) (l0_4 : List (S54)) (w : World) (hr0_1 : Kd.C Kd.string w A0_1 l0_1.length l0_1) (hc0_1 : l0_1.length ≤ c0_1) (hr0_2 : Kd.C Kd.string w A0_2 l0_2.length l0_2) (hc0_2 : l0_2.length ≤ c0_2) (hr0_3 : Kd.C Kd.bool w A0_3 l0_3.length l0_3) (hc0_3 : l0_3.length ≤ c0_3) (hr0_4 : Kd.C k54 w A0_4 l0_4.length l0_4) (hc0_4 : l0_4.length ≤ c0_4) (hg : ¬ Good a0_0 l0_1 l0_2 l0_3 l0_4) :
    Calls Try.prog 52 #[.agg #[.int .i64 a0_0, .slice A0_1 l0_1.length c0_1, .slice A0_2 l0_2.length c0_2, .slice A0_3 l0_3.length c0_3, .slice A0_4 l0_4.length c0_4]] w fun e w' => e = .returned (.tuple #[.pointer none, .bool false]) ∧ Below w.heap.size w w' :=
  (readDisk_calls a0_0 A0_1 c0_1 l0_1 A0_2 c0_2 l0_2 A0_3 c0_3 l0_3 A0_4 c0_4 l0_4 w hr0_1 hc0_1 hr0_2 hc0_2 hr0_3 hc0_3 hr0_4 hc0_4).mono fun e w' h => by
    rcases h with h | h
    · exact h.2
    · exact absurd h.1 hg
theorem readDisk_good (a0_0 : Int) (A0_1 : Option Addr) (c0_1 : Nat) (l0_1 : List ByteArray) (A0_2 : Option Addr) (c0_2 : Nat) (l0_2 : List ByteArray) (A0_3 : Option Addr) (c0_3 : Nat) (l0_3 : List Bool) (A0_4 : Option Addr) (c0_4 : Nat) (l0_4 : List (S54)) (w : World) (hr0_1 : Kd.C Kd.string w A0_1 l0_1.length l0_1) (hc0_1 : l0_1.length ≤ c0_1) (hr0_2 : Kd.C Kd.string w A0_2 l0_2.length l0_2) (hc0_2 : l0_2.length ≤ c0_2) (hr0_3 : Kd.C Kd.bool w A0_3 l0_3.length l0_3) (hc0_3 : l0_3.length ≤ c0_3) (hr0_4 : Kd.C k54 w A0_4 l0_4.length l0_4) (hc0_4 : l0_4.length ≤ c0_4) (hg : Good a0_0 l0_1 l0_2 l0_3 l0_4) :
    Calls Try.prog 52 #[.agg #[.int .i64 a0_0, .slice A0_1 l0_1.length c0_1, .slice A0_2 l0_2.length c0_2, .slice A0_3 l0_3.length c0_3, .slice A0_4 l0_4.length c0_4]] w fun e w' => ∃ g ns, e = .returned (.tuple #[.pointer (some ⟨g, 0, none⟩), .bool true]) ∧ Drv w' g a0_0 l0_3 l0_1 l0_2 ns ∧ ns.map (·.2) = l0_4 ∧ Below w.heap.size w w' :=
  (readDisk_calls a0_0 A0_1 c0_1 l0_1 A0_2 c0_2 l0_2 A0_3 c0_3 l0_3 A0_4 c0_4 l0_4 w hr0_1 hc0_1 hr0_2 hc0_2 hr0_3 hc0_3 hr0_4 hc0_4).mono fun e w' h => by
    rcases h with h | ⟨_, g, ns, h1, _, h3, h4, h5⟩
    · exact absurd hg h.1
    · exact ⟨g, ns, h1, h3, h4, h5⟩
def goodT (st : Int) (sl rg : List ByteArray) (sp : List Bool) (wt : List S54) : Bool :=
  decide (Shaped st sl rg sp wt) && (!(wt.any fun x => !putB x) && (((List.range 12).all fun i => !badSlot (sl.getD i ByteArray.empty) (sp.getD i false)) && (!(rg.any fun x : ByteArray => decide ((x.size : Int) > 700)) && (decide (st ≠ 1) || (sl.all (fun x => x.size == 0) && (rg.all (fun x => x.size == 0) && decide (wt.length = 0)))))))
theorem goodT_iff (st : Int) (sl rg : List ByteArray) (sp : List Bool) (wt : List S54) : goodT st sl rg sp wt = true ↔ Good st sl rg sp wt := by
  unfold goodT
  simp only [Bool.and_eq_true, Bool.or_eq_true, Bool.not_eq_true', decide_eq_true_iff, List.all_eq_true, List.mem_range]
  constructor
  · rintro ⟨h1, h2, h3, h4, h5⟩
    refine ⟨h1, h2, fun i hi => h3 i hi, h4, fun h => ?_⟩
    rcases h5 with h5 | h5
    · exact absurd h h5
    · exact ⟨List.all_eq_true.2 h5.1, List.all_eq_true.2 h5.2.1, h5.2.2⟩
  · intro h
    refine ⟨h.sh, h.wa, fun i hi => h.so i hi, h.ro, ?_⟩
    by_cases e : st = 1
    · exact Or.inr ⟨List.all_eq_true.1 (h.go e).1, List.all_eq_true.1 (h.go e).2.1, (h.go e).2.2⟩
    · exact Or.inl e
instance (st : Int) (sl rg : List ByteArray) (sp : List Bool) (wt : List S54) : Decidable (Good st sl rg sp wt) := decidable_of_iff _ (goodT_iff st sl rg sp wt)
def goodB (a0_0 : Int) (l0_1 l0_2 : List ByteArray) (l0_3 : List Bool) (l0_4 : List S54) : Bool := decide (Good a0_0 l0_1 l0_2 l0_3 l0_4)
def impl_DiskOk.f (a0_0 : Int) (l0_1 l0_2 : List ByteArray) (l0_3 : List Bool) (l0_4 : List S54) : Option Bool := some (goodB a0_0 l0_1 l0_2 l0_3 l0_4)
set_option maxHeartbeats 4000000 in
set_option maxRecDepth 100000 in
theorem impl_DiskOk.calls (a0_0 : Int) (A0_1 : Option Addr) (c0_1 : Nat) (l0_1 : List ByteArray) (A0_2 : Option Addr) (c0_2 : Nat) (l0_2 : List ByteArray) (A0_3 : Option Addr) (c0_3 : Nat) (l0_3 : List Bool) (A0_4 : Option Addr) (c0_4 : Nat) (l0_4 : List (S54)) (r : Bool) (w : World) (hr0_1 : Kd.C Kd.string w A0_1 l0_1.length l0_1) (hc0_1 : l0_1.length ≤ c0_1) (hr0_2 : Kd.C Kd.string w A0_2 l0_2.length l0_2) (hc0_2 : l0_2.length ≤ c0_2) (hr0_3 : Kd.C Kd.bool w A0_3 l0_3.length l0_3) (hc0_3 : l0_3.length ≤ c0_3) (hr0_4 : Kd.C k54 w A0_4 l0_4.length l0_4) (hc0_4 : l0_4.length ≤ c0_4) (h : impl_DiskOk.f a0_0 l0_1 l0_2 l0_3 l0_4 = some r) :
    Calls Try.prog 21 #[.agg #[.int .i64 a0_0, .slice A0_1 l0_1.length c0_1, .slice A0_2 l0_2.length c0_2, .slice A0_3 l0_3.length c0_3, .slice A0_4 l0_4.length c0_4]] w fun e w' => e = .returned (.bool r) ∧ Below w.heap.size w w' := by
  have hu28 := Try.underlying28
  by_cases hg : Good a0_0 l0_1 l0_2 l0_3 l0_4
  · obtain rfl : true = r := by simpa [impl_DiskOk.f, goodB, hg] using h
    have HGD := Aside0.mk (fun (W : World) (hb : Below w.heap.size w W) => readDisk_good a0_0 A0_1 c0_1 l0_1 A0_2 c0_2 l0_2 A0_3 c0_3 l0_3 A0_4 c0_4 l0_4 W (Kd.C_below hr0_1 hb) hc0_1 (Kd.C_below hr0_2 hb) hc0_2 (Kd.C_below hr0_3 hb) hc0_3 (Kd.C_below hr0_4 hb) hc0_4 hg)
    have HB := Aside0.mk (Below.refl w.heap.size w)
    clear hr0_1 hc0_1 hr0_2 hc0_2 hr0_3 hc0_3 hr0_4 hc0_4 h hg
    go_enter Try.func21, Try.ntmps21
    go_wp2_with (first | ((with_reducible refine gate_dst (N := 1) rfl ?_); refine box_event ?hg (N := 1) ?hd (cs := #[.int .i64 a0_0, .slice A0_1 l0_1.length c0_1, .slice A0_2 l0_2.length c0_2, .slice A0_3 l0_3.length c0_3, .slice A0_4 l0_4.length c0_4]) (t := 28) ?hr ?_; (case hd => rfl); (case hg => rfl); (case hr => first | (go_simp; done) | (go_simp; rfl)); intro gb hg w1 hbox hb; have n0_ := Aside0.mk (below_step (by repeat (first | (with_reducible first | exact HB.out | apply below_alloc | apply pw_below_drewN | apply below_drew1) | exact HB.out)) hb); have n1_ := Aside0.mk hbox; clear HB; have HB := n0_; have BK := n1_; clear n0_ n1_ hb hbox hg; have hcz_0 : w1.cell? ⟨gb, 0, none⟩ = some (.int .i64 a0_0) := (blk_cell BK.out 0).trans rfl; have hcz_1 : w1.cell? ⟨gb, 1, none⟩ = some (.slice A0_1 l0_1.length c0_1) := (blk_cell BK.out 1).trans rfl; have hcz_2 : w1.cell? ⟨gb, 2, none⟩ = some (.slice A0_2 l0_2.length c0_2) := (blk_cell BK.out 2).trans rfl; have hcz_3 : w1.cell? ⟨gb, 3, none⟩ = some (.slice A0_3 l0_3.length c0_3) := (blk_cell BK.out 3).trans rfl; have hcz_4 : w1.cell? ⟨gb, 4, none⟩ = some (.slice A0_4 l0_4.length c0_4) := (blk_cell BK.out 4).trans rfl) | (go_at_call 52; refine (HGD.out _ (by repeat (first | (with_reducible first | exact HB.out | apply below_alloc | apply pw_below_drewN | apply below_drew1) | exact HB.out))).mono ?_; rintro e w9 ⟨gd, ns, rfl, hd, hns, hb⟩; have n0_ := Aside0.mk (below_step (by repeat (first | (with_reducible first | exact HB.out | apply below_alloc | apply pw_below_drewN | apply below_drew1) | exact HB.out)) hb); have HD := Aside0.mk hd; have HNS := Aside0.mk hns; clear HB; have HB := n0_; clear n0_ hb hd hns))
    go_ret
    exact ⟨rfl, (by repeat (first | (with_reducible first | exact HB.out | apply below_alloc | apply pw_below_drewN | apply below_drew1) | exact HB.out))⟩
  · obtain rfl : false = r := by simpa [impl_DiskOk.f, goodB, hg] using h
    have HBAD := Aside0.mk (fun (W : World) (hb : Below w.heap.size w W) => readDisk_bad a0_0 A0_1 c0_1 l0_1 A0_2 c0_2 l0_2 A0_3 c0_3 l0_3 A0_4 c0_4 l0_4 W (Kd.C_below hr0_1 hb) hc0_1 (Kd.C_below hr0_2 hb) hc0_2 (Kd.C_below hr0_3 hb) hc0_3 (Kd.C_below hr0_4 hb) hc0_4 hg)
    have HB := Aside0.mk (Below.refl w.heap.size w)
    clear hr0_1 hc0_1 hr0_2 hc0_2 hr0_3 hc0_3 hr0_4 hc0_4 h hg
    go_enter Try.func21, Try.ntmps21
    go_wp2_with (first | ((with_reducible refine gate_dst (N := 1) rfl ?_); refine box_event ?hg (N := 1) ?hd (cs := #[.int .i64 a0_0, .slice A0_1 l0_1.length c0_1, .slice A0_2 l0_2.length c0_2, .slice A0_3 l0_3.length c0_3, .slice A0_4 l0_4.length c0_4]) (t := 28) ?hr ?_; (case hd => rfl); (case hg => rfl); (case hr => first | (go_simp; done) | (go_simp; rfl)); intro gb hg w1 hbox hb; have n0_ := Aside0.mk (below_step (by repeat (first | (with_reducible first | exact HB.out | apply below_alloc | apply pw_below_drewN | apply below_drew1) | exact HB.out)) hb); have n1_ := Aside0.mk hbox; clear HB; have HB := n0_; have BK := n1_; clear n0_ n1_ hb hbox hg; have hcz_0 : w1.cell? ⟨gb, 0, none⟩ = some (.int .i64 a0_0) := (blk_cell BK.out 0).trans rfl; have hcz_1 : w1.cell? ⟨gb, 1, none⟩ = some (.slice A0_1 l0_1.length c0_1) := (blk_cell BK.out 1).trans rfl; have hcz_2 : w1.cell? ⟨gb, 2, none⟩ = some (.slice A0_2 l0_2.length c0_2) := (blk_cell BK.out 2).trans rfl; have hcz_3 : w1.cell? ⟨gb, 3, none⟩ = some (.slice A0_3 l0_3.length c0_3) := (blk_cell BK.out 3).trans rfl; have hcz_4 : w1.cell? ⟨gb, 4, none⟩ = some (.slice A0_4 l0_4.length c0_4) := (blk_cell BK.out 4).trans rfl) | (go_at_call 52; refine (HBAD.out _ (by repeat (first | (with_reducible first | exact HB.out | apply below_alloc | apply pw_below_drewN | apply below_drew1) | exact HB.out))).mono ?_; rintro e w9 ⟨rfl, hb⟩; have n0_ := Aside0.mk (below_step (by repeat (first | (with_reducible first | exact HB.out | apply below_alloc | apply pw_below_drewN | apply below_drew1) | exact HB.out)) hb); clear HB; have HB := n0_; clear n0_ hb))
    go_ret
    exact ⟨rfl, (by repeat (first | (with_reducible first | exact HB.out | apply below_alloc | apply pw_below_drewN | apply below_drew1) | exact HB.out))⟩
end Go.Proofs.Ytkgpnloghmbmlaa.Print
namespace Go.Proofs.Ytkgpnloghmbmlaa.Print
open Go.RowKit Go.Proofs.YtkgpnloghmbmlaaW.PrintWords Go.Proofs.YtkgpnloghmbmlaaW.PrintLast Go.Proofs.YtkgpnloghmbmlaaW.PrintMore Go.Proofs.Ytkgpnloghmbmlaa.Drv
set_option linter.unusedVariables false
set_option linter.unusedSimpArgs false
def impl_DiskRead.f (a0_0 : Int) (l0_1 l0_2 : List ByteArray) (l0_3 : List Bool) (l0_4 : List S54) (a1 : Int) : Option (ByteArray × Bool) :=
  some (if Good a0_0 l0_1 l0_2 l0_3 l0_4 ∧ 0 ≤ a1 ∧ a1 < 12 then (seenF l0_1 l0_4 a1.toNat, (seenF l0_1 l0_4 a1.toNat).toList != []) else (⟨#[]⟩, false))
set_option maxHeartbeats 4000000 in
set_option maxRecDepth 100000 in
theorem impl_DiskRead.calls (a0_0 : Int) (A0_1 : Option Addr) (c0_1 : Nat) (l0_1 : List ByteArray) (A0_2 : Option Addr) (c0_2 : Nat) (l0_2 : List ByteArray) (A0_3 : Option Addr) (c0_3 : Nat) (l0_3 : List Bool) (A0_4 : Option Addr) (c0_4 : Nat) (l0_4 : List (S54)) (a1 : Int) (r1 : ByteArray) (r2 : Bool) (w : World) (hr0_1 : Kd.C Kd.string w A0_1 l0_1.length l0_1) (hc0_1 : l0_1.length ≤ c0_1) (hr0_2 : Kd.C Kd.string w A0_2 l0_2.length l0_2) (hc0_2 : l0_2.length ≤ c0_2) (hr0_3 : Kd.C Kd.bool w A0_3 l0_3.length l0_3) (hc0_3 : l0_3.length ≤ c0_3) (hr0_4 : Kd.C k54 w A0_4 l0_4.length l0_4) (hc0_4 : l0_4.length ≤ c0_4) (h : impl_DiskRead.f a0_0 l0_1 l0_2 l0_3 l0_4 a1 = some (r1, r2)) :
    Calls Try.prog 20 #[.agg #[.int .i64 a0_0, .slice A0_1 l0_1.length c0_1, .slice A0_2 l0_2.length c0_2, .slice A0_3 l0_3.length c0_3, .slice A0_4 l0_4.length c0_4], .int .i64 a1] w fun e w' => e = .returned (.tuple #[.string r1, .bool r2]) ∧ Below w.heap.size w w' := by
  have hu28 := Try.underlying28
  by_cases hg : Good a0_0 l0_1 l0_2 l0_3 l0_4
  · have HGD := Aside0.mk (fun (W : World) (hb : Below w.heap.size w W) => readDisk_good a0_0 A0_1 c0_1 l0_1 A0_2 c0_2 l0_2 A0_3 c0_3 l0_3 A0_4 c0_4 l0_4 W (Kd.C_below hr0_1 hb) hc0_1 (Kd.C_below hr0_2 hb) hc0_2 (Kd.C_below hr0_3 hb) hc0_3 (Kd.C_below hr0_4 hb) hc0_4 hg)
    have HLEN := Aside0.mk hg.sh.2.2.2.2
    have HB := Aside0.mk (Below.refl w.heap.size w)
    clear hr0_1 hc0_1 hr0_2 hc0_2 hr0_3 hc0_3 hr0_4 hc0_4
    by_cases c0 : a1 < 0
    · obtain ⟨rfl, rfl⟩ : (⟨#[]⟩ : ByteArray) = r1 ∧ false = r2 := by
        have := Option.some.inj h
        rw [if_neg (by omega)] at this
        exact Prod.mk.inj this
      have c0b : decide (a1 < 0) = true := decide_eq_true c0
      clear h hg c0
      go_enter Try.func20, Try.ntmps20
      go_wp2_with (first | ((with_reducible refine gate_dst (N := 2) rfl ?_); refine box_event ?hg (N := 2) ?hd (cs := #[.int .i64 a0_0, .slice A0_1 l0_1.length c0_1, .slice A0_2 l0_2.length c0_2, .slice A0_3 l0_3.length c0_3, .slice A0_4 l0_4.length c0_4]) (t := 28) ?hr ?_; (case hd => rfl); (case hg => rfl); (case hr => first | (go_simp; done) | (go_simp; rfl)); intro gb hg w1 hbox hb; have n0_ := Aside0.mk (below_step (by repeat (first | (with_reducible first | exact HB.out | apply below_alloc | apply pw_below_drewN | apply below_drew1) | exact HB.out)) hb); have n1_ := Aside0.mk hbox; clear HB; have HB := n0_; have BK := n1_; clear n0_ n1_ hb hbox hg; have hcz_0 : w1.cell? ⟨gb, 0, none⟩ = some (.int .i64 a0_0) := (blk_cell BK.out 0).trans rfl; have hcz_1 : w1.cell? ⟨gb, 1, none⟩ = some (.slice A0_1 l0_1.length c0_1) := (blk_cell BK.out 1).trans rfl; have hcz_2 : w1.cell? ⟨gb, 2, none⟩ = some (.slice A0_2 l0_2.length c0_2) := (blk_cell BK.out 2).trans rfl; have hcz_3 : w1.cell? ⟨gb, 3, none⟩ = some (.slice A0_3 l0_3.length c0_3) := (blk_cell BK.out 3).trans rfl; have hcz_4 : w1.cell? ⟨gb, 4, none⟩ = some (.slice A0_4 l0_4.length c0_4) := (blk_cell BK.out 4).trans rfl) | (go_at_call 52; refine (HGD.out _ (by repeat (first | (with_reducible first | exact HB.out | apply below_alloc | apply pw_below_drewN | apply below_drew1) | exact HB.out))).mono ?_; rintro e w9 ⟨gd, ns, rfl, hd, hns, hb⟩; have n0_ := Aside0.mk (below_step (by repeat (first | (with_reducible first | exact HB.out | apply below_alloc | apply pw_below_drewN | apply below_drew1) | exact HB.out)) hb); have HD := Aside0.mk hd; have HNS := Aside0.mk hns; clear HB; have HB := n0_; clear n0_ hb hd hns))
      go_ret2
      exact ⟨rfl, (by repeat (first | (with_reducible first | exact HB.out | apply below_alloc | apply pw_below_drewN | apply below_drew1) | exact HB.out))⟩
    · have c0b : decide (a1 < 0) = false := decide_eq_false c0
      by_cases c2 : a1 ≥ 12
      · obtain ⟨rfl, rfl⟩ : (⟨#[]⟩ : ByteArray) = r1 ∧ false = r2 := by
          have := Option.some.inj h
          rw [if_neg (by omega)] at this
          exact Prod.mk.inj this
        have c2b : decide (a1 ≥ 12) = true := decide_eq_true c2
        have c2c : decide (12 ≤ a1) = true := decide_eq_true c2
        clear h hg c0 c2
        go_enter Try.func20, Try.ntmps20
        go_wp2_with (first | ((with_reducible refine gate_dst (N := 2) rfl ?_); refine box_event ?hg (N := 2) ?hd (cs := #[.int .i64 a0_0, .slice A0_1 l0_1.length c0_1, .slice A0_2 l0_2.length c0_2, .slice A0_3 l0_3.length c0_3, .slice A0_4 l0_4.length c0_4]) (t := 28) ?hr ?_; (case hd => rfl); (case hg => rfl); (case hr => first | (go_simp; done) | (go_simp; rfl)); intro gb hg w1 hbox hb; have n0_ := Aside0.mk (below_step (by repeat (first | (with_reducible first | exact HB.out | apply below_alloc | apply pw_below_drewN | apply below_drew1) | exact HB.out)) hb); have n1_ := Aside0.mk hbox; clear HB; have HB := n0_; have BK := n1_; clear n0_ n1_ hb hbox hg; have hcz_0 : w1.cell? ⟨gb, 0, none⟩ = some (.int .i64 a0_0) := (blk_cell BK.out 0).trans rfl; have hcz_1 : w1.cell? ⟨gb, 1, none⟩ = some (.slice A0_1 l0_1.length c0_1) := (blk_cell BK.out 1).trans rfl; have hcz_2 : w1.cell? ⟨gb, 2, none⟩ = some (.slice A0_2 l0_2.length c0_2) := (blk_cell BK.out 2).trans rfl; have hcz_3 : w1.cell? ⟨gb, 3, none⟩ = some (.slice A0_3 l0_3.length c0_3) := (blk_cell BK.out 3).trans rfl; have hcz_4 : w1.cell? ⟨gb, 4, none⟩ = some (.slice A0_4 l0_4.length c0_4) := (blk_cell BK.out 4).trans rfl) | (go_at_call 52; refine (HGD.out _ (by repeat (first | (with_reducible first | exact HB.out | apply below_alloc | apply pw_below_drewN | apply below_drew1) | exact HB.out))).mono ?_; rintro e w9 ⟨gd, ns, rfl, hd, hns, hb⟩; have n0_ := Aside0.mk (below_step (by repeat (first | (with_reducible first | exact HB.out | apply below_alloc | apply pw_below_drewN | apply below_drew1) | exact HB.out)) hb); have HD := Aside0.mk hd; have HNS := Aside0.mk hns; clear HB; have HB := n0_; clear n0_ hb hd hns))
        go_ret2
        exact ⟨rfl, (by repeat (first | (with_reducible first | exact HB.out | apply below_alloc | apply pw_below_drewN | apply below_drew1) | exact HB.out))⟩
      · obtain ⟨n, rfl⟩ : ∃ n : Nat, a1 = (n : Int) := ⟨a1.toNat, by omega⟩
        obtain ⟨h1, h2⟩ : seenF l0_1 l0_4 n = r1 ∧ ((seenF l0_1 l0_4 n).toList != []) = r2 := by
          have := Option.some.inj h
          rw [if_pos ⟨hg, by omega, by omega⟩] at this
          exact Prod.mk.inj this
        have HAT : Aside0 (n < 12) := ⟨by omega⟩
        have c2b : decide ((n : Int) ≥ 12) = false := decide_eq_false c2
        have c2c : decide (12 ≤ (n : Int)) = false := decide_eq_false (by omega)
        have HR1 := Aside0.mk h1
        have HR2 := Aside0.mk h2
        clear h hg c0 c2 h1 h2
        go_enter Try.func20, Try.ntmps20
        go_wp2_with (first | ((with_reducible refine gate_dst (N := 2) rfl ?_); refine box_event ?hg (N := 2) ?hd (cs := #[.int .i64 a0_0, .slice A0_1 l0_1.length c0_1, .slice A0_2 l0_2.length c0_2, .slice A0_3 l0_3.length c0_3, .slice A0_4 l0_4.length c0_4]) (t := 28) ?hr ?_; (case hd => rfl); (case hg => rfl); (case hr => first | (go_simp; done) | (go_simp; rfl)); intro gb hg w1 hbox hb; have n0_ := Aside0.mk (below_step (by repeat (first | (with_reducible first | exact HB.out | apply below_alloc | apply pw_below_drewN | apply below_drew1) | exact HB.out)) hb); have n1_ := Aside0.mk hbox; clear HB; have HB := n0_; have BK := n1_; clear n0_ n1_ hb hbox hg; have hcz_0 : w1.cell? ⟨gb, 0, none⟩ = some (.int .i64 a0_0) := (blk_cell BK.out 0).trans rfl; have hcz_1 : w1.cell? ⟨gb, 1, none⟩ = some (.slice A0_1 l0_1.length c0_1) := (blk_cell BK.out 1).trans rfl; have hcz_2 : w1.cell? ⟨gb, 2, none⟩ = some (.slice A0_2 l0_2.length c0_2) := (blk_cell BK.out 2).trans rfl; have hcz_3 : w1.cell? ⟨gb, 3, none⟩ = some (.slice A0_3 l0_3.length c0_3) := (blk_cell BK.out 3).trans rfl; have hcz_4 : w1.cell? ⟨gb, 4, none⟩ = some (.slice A0_4 l0_4.length c0_4) := (blk_cell BK.out 4).trans rfl) | (go_at_call 52; refine (HGD.out _ (by repeat (first | (with_reducible first | exact HB.out | apply below_alloc | apply pw_below_drewN | apply below_drew1) | exact HB.out))).mono ?_; rintro e w9 ⟨gd, ns, rfl, hd, hns, hb⟩; have n0_ := Aside0.mk (below_step (by repeat (first | (with_reducible first | exact HB.out | apply below_alloc | apply pw_below_drewN | apply below_drew1) | exact HB.out)) hb); have HD := Aside0.mk hd; have HNS := Aside0.mk hns; clear HB; have HB := n0_; clear n0_ hb hd hns) | (go_at_call 53; refine (seen_calls gd a0_0 l0_3 l0_1 l0_2 ns l0_4 n _ (by (with_reducible repeat (first | refine drv_drewN ?_ _ | refine drv_drew ?_)); exact HD.out) (by have h1 := HLEN.out; have h2 := congrArg List.length HNS.out; rw [List.length_map] at h2; omega) HAT.out HNS.out).mono ?_; rintro e w12 ⟨rfl, hb⟩; have n0_ := Aside0.mk (below_step (by repeat (first | (with_reducible first | exact HB.out | apply below_alloc | apply pw_below_drewN | apply below_drew1) | exact HB.out)) hb); clear HB; have HB := n0_; clear n0_ hb))
        go_ret2
        exact ⟨by rw [← HR2.out, ← HR1.out]; first | rfl | (simp; done) | (simp; generalize (seenF l0_1 l0_4 n).toList = t; cases t <;> rfl), (by repeat (first | (with_reducible first | exact HB.out | apply below_alloc | apply pw_below_drewN | apply below_drew1) | exact HB.out))⟩
  · have HBAD := Aside0.mk (fun (W : World) (hb : Below w.heap.size w W) => readDisk_bad a0_0 A0_1 c0_1 l0_1 A0_2 c0_2 l0_2 A0_3 c0_3 l0_3 A0_4 c0_4 l0_4 W (Kd.C_below hr0_1 hb) hc0_1 (Kd.C_below hr0_2 hb) hc0_2 (Kd.C_below hr0_3 hb) hc0_3 (Kd.C_below hr0_4 hb) hc0_4 hg)
    have HB := Aside0.mk (Below.refl w.heap.size w)
    obtain ⟨rfl, rfl⟩ : (⟨#[]⟩ : ByteArray) = r1 ∧ false = r2 := by
      have := Option.some.inj h
      rw [if_neg (fun hh => hg hh.1)] at this
      exact Prod.mk.inj this
    clear hr0_1 hc0_1 hr0_2 hc0_2 hr0_3 hc0_3 hr0_4 hc0_4 h hg
    go_enter Try.func20, Try.ntmps20
    go_wp2_with (first | ((with_reducible refine gate_dst (N := 2) rfl ?_); refine box_event ?hg (N := 2) ?hd (cs := #[.int .i64 a0_0, .slice A0_1 l0_1.length c0_1, .slice A0_2 l0_2.length c0_2, .slice A0_3 l0_3.length c0_3, .slice A0_4 l0_4.length c0_4]) (t := 28) ?hr ?_; (case hd => rfl); (case hg => rfl); (case hr => first | (go_simp; done) | (go_simp; rfl)); intro gb hg w1 hbox hb; have n0_ := Aside0.mk (below_step (by repeat (first | (with_reducible first | exact HB.out | apply below_alloc | apply pw_below_drewN | apply below_drew1) | exact HB.out)) hb); have n1_ := Aside0.mk hbox; clear HB; have HB := n0_; have BK := n1_; clear n0_ n1_ hb hbox hg; have hcz_0 : w1.cell? ⟨gb, 0, none⟩ = some (.int .i64 a0_0) := (blk_cell BK.out 0).trans rfl; have hcz_1 : w1.cell? ⟨gb, 1, none⟩ = some (.slice A0_1 l0_1.length c0_1) := (blk_cell BK.out 1).trans rfl; have hcz_2 : w1.cell? ⟨gb, 2, none⟩ = some (.slice A0_2 l0_2.length c0_2) := (blk_cell BK.out 2).trans rfl; have hcz_3 : w1.cell? ⟨gb, 3, none⟩ = some (.slice A0_3 l0_3.length c0_3) := (blk_cell BK.out 3).trans rfl; have hcz_4 : w1.cell? ⟨gb, 4, none⟩ = some (.slice A0_4 l0_4.length c0_4) := (blk_cell BK.out 4).trans rfl) | (go_at_call 52; refine (HBAD.out _ (by repeat (first | (with_reducible first | exact HB.out | apply below_alloc | apply pw_below_drewN | apply below_drew1) | exact HB.out))).mono ?_; rintro e w9 ⟨rfl, hb⟩; have n0_ := Aside0.mk (below_step (by repeat (first | (with_reducible first | exact HB.out | apply below_alloc | apply pw_below_drewN | apply below_drew1) | exact HB.out)) hb); clear HB; have HB := n0_; clear n0_ hb))
    go_ret2
    exact ⟨rfl, (by repeat (first | (with_reducible first | exact HB.out | apply below_alloc | apply pw_below_drewN | apply below_drew1) | exact HB.out))⟩
end Go.Proofs.Ytkgpnloghmbmlaa.Print
namespace Go.Proofs.Ytkgpnloghmbmlaa.Print
open Go.RowKit Go.Proofs.YtkgpnloghmbmlaaW.PrintWords Go.Proofs.YtkgpnloghmbmlaaW.PrintLast Go.Proofs.YtkgpnloghmbmlaaW.PrintMore
attribute [local go_sem] max2_int min2_int max_two min_two max_three min_three max_four min_four   -- for this text's walks alone
set_option linter.unusedVariables false
set_option linter.unusedSimpArgs false
mutual
def laws_FnDiskNew.j0 : Nat → Int → Bool → Int → List ByteArray → List ByteArray → List Bool → List (S54) → Option (Bool)
  | 0, _, _, _, _, _, _, _ => none
  | k + 1, x3, x25, x451000, x451001, x451002, x451003, x451004 => if x25 = true then ((spec_DiskNew.f x3).bind fun bt465 => ((laws_lpaDisk.f k x451000 x451001 x451002 x451003 x451004 bt465.1 bt465.2.1 bt465.2.2.1 bt465.2.2.2.1 bt465.2.2.2.2).bind fun t478 => (some t478))) else (laws_FnDiskNew.l0 k x3 0 x451000 x451001 x451002 x451003 x451004)
def laws_FnDiskNew.l0 : Nat → Int → Int → Int → List ByteArray → List ByteArray → List Bool → List (S54) → Option (Bool)
  | 0, _, _, _, _, _, _, _ => none
  | k + 1, x3, x5, x451000, x451001, x451002, x451003, x451004 => if x5 < 12 then ((impl_DiskRead.f x451000 x451001 x451002 x451003 x451004 x5).bind fun bt479 => (if bt479.2 = true then (some false) else (laws_FnDiskNew.l0 k x3 (wrap64 (x5 + 1)) x451000 x451001 x451002 x451003 x451004))) else ((impl_DiskOk.f x451000 x451001 x451002 x451003 x451004).bind fun t481 => (if t481 = true then (if x451000 = x3 then (some ((x451004.length : Int) == 0)) else (some false)) else (some false)))
end
def laws_FnDiskNew.f (k : Nat) (l0 : List Int) : Option (Bool) := if (l0.length : Int) > 1048576 then (some true) else ((spec_DrawDiskNew.f k l0).bind fun t436 => ((impl_DiskNew.f t436).bind fun bt437 => ((spec_DiskNew.f t436).bind fun bt451 => ((laws_lpaDisk.f k bt437.1 bt437.2.1 bt437.2.2.1 bt437.2.2.2.1 bt437.2.2.2.2 bt451.1 bt451.2.1 bt451.2.2.1 bt451.2.2.2.1 bt451.2.2.2.2).bind fun t464 => (if t464 = true then (laws_FnDiskNew.j0 k t436 ((bt437.2.1.length : Int) == 0) bt437.1 bt437.2.1 bt437.2.2.1 bt437.2.2.2.1 bt437.2.2.2.2) else (laws_FnDiskNew.j0 k t436 true bt437.1 bt437.2.1 bt437.2.2.1 bt437.2.2.2.1 bt437.2.2.2.2))))))
theorem laws_FnDiskNew.mono_l : ∀ k, (∀ y0 y1 y2 y3 y4 y5 y6, LeO (laws_FnDiskNew.j0 k y0 y1 y2 y3 y4 y5 y6) (laws_FnDiskNew.j0 (k + 1) y0 y1 y2 y3 y4 y5 y6)) ∧ (∀ y0 y1 y2 y3 y4 y5 y6, LeO (laws_FnDiskNew.l0 k y0 y1 y2 y3 y4 y5 y6) (laws_FnDiskNew.l0 (k + 1) y0 y1 y2 y3 y4 y5 y6))
  | 0 => ⟨fun _ _ _ _ _ _ _ r h => by simp [laws_FnDiskNew.j0] at h, fun _ _ _ _ _ _ _ r h => by simp [laws_FnDiskNew.l0] at h⟩
  | k + 1 => by
    obtain ⟨ih0, ih1⟩ := laws_FnDiskNew.mono_l k
    refine ⟨?_, ?_⟩
    · intro y0 y1 y2 y3 y4 y5 y6
      unfold laws_FnDiskNew.j0
      repeat' first
      | (with_reducible exact ih0 _ _ _ _ _ _ _)
      | (with_reducible exact ih1 _ _ _ _ _ _ _)
      | (with_reducible exact laws_lpaDisk.mono _ _ _ _ _ _ _ _ _ _ _)
      | (with_reducible exact spec_DrawDiskNew.mono _ _)
      | (with_reducible exact LeO.refl _)
      | (with_reducible exact LeO.none _)
      | (with_reducible refine LeO.ite ?_ ?_)
      | (with_reducible refine LeO.bind ?_ (fun _ => ?_))
      | exact ih0 _ _ _ _ _ _ _
      | exact ih1 _ _ _ _ _ _ _
      | exact laws_lpaDisk.mono _ _ _ _ _ _ _ _ _ _ _
      | exact spec_DrawDiskNew.mono _ _
      | exact LeO.none _
      | refine LeO.ite ?_ ?_
      | refine LeO.bind ?_ (fun _ => ?_)
    · intro y0 y1 y2 y3 y4 y5 y6
      unfold laws_FnDiskNew.l0
      repeat' first
      | (with_reducible exact ih0 _ _ _ _ _ _ _)
      | (with_reducible exact ih1 _ _ _ _ _ _ _)
      | (with_reducible exact laws_lpaDisk.mono _ _ _ _ _ _ _ _ _ _ _)
      | (with_reducible exact spec_DrawDiskNew.mono _ _)
      | (with_reducible exact LeO.refl _)
      | (with_reducible exact LeO.none _)
      | (with_reducible refine LeO.ite ?_ ?_)
      | (with_reducible refine LeO.bind ?_ (fun _ => ?_))
      | exact ih0 _ _ _ _ _ _ _
      | exact ih1 _ _ _ _ _ _ _
      | exact laws_lpaDisk.mono _ _ _ _ _ _ _ _ _ _ _
      | exact spec_DrawDiskNew.mono _ _
      | exact LeO.none _
      | refine LeO.ite ?_ ?_
      | refine LeO.bind ?_ (fun _ => ?_)
theorem laws_FnDiskNew.mono : ∀ a0 k, LeO (laws_FnDiskNew.f k a0) (laws_FnDiskNew.f (k + 1) a0) := by
  intro a0 k
  obtain ⟨ih0, ih1⟩ := laws_FnDiskNew.mono_l k
  unfold laws_FnDiskNew.f
  repeat' first
      | (with_reducible exact ih0 _ _ _ _ _ _ _)
      | (with_reducible exact ih1 _ _ _ _ _ _ _)
      | (with_reducible exact laws_lpaDisk.mono _ _ _ _ _ _ _ _ _ _ _)
      | (with_reducible exact spec_DrawDiskNew.mono _ _)
      | (with_reducible exact LeO.refl _)
      | (with_reducible exact LeO.none _)
      | (with_reducible refine LeO.ite ?_ ?_)
      | (with_reducible refine LeO.bind ?_ (fun _ => ?_))
      | exact ih0 _ _ _ _ _ _ _
      | exact ih1 _ _ _ _ _ _ _
      | exact laws_lpaDisk.mono _ _ _ _ _ _ _ _ _ _ _
      | exact spec_DrawDiskNew.mono _ _
      | exact LeO.none _
      | refine LeO.ite ?_ ?_
      | refine LeO.bind ?_ (fun _ => ?_)
def laws_FnDiskNew.T5 : Bool × List (List Nat × List Nat) := (true, [([], []), ([], []), ([1], [1]), ([0, 2, 2], [0, 2]), ([3], [3]), ([4, 3], [4]), ([5], [5]), ([6, 5], [5, 6]), ([7, 5], [5, 7]), ([8, 5], [5, 8]), ([5, 9], [5, 9])])
def laws_FnDiskNew.B5 : List Nat := [0, 0, 2, 7, 15, 31, 63, 127, 255, 511, 1023]
theorem laws_FnDiskNew.tab5 : rtab .any (opsOf Try.f3 5) = laws_FnDiskNew.T5 := by kernel_rfl
theorem laws_FnDiskNew.bits5 : waitsOk laws_FnDiskNew.T5.2 laws_FnDiskNew.B5 = true := by kernel_rfl
set_option maxHeartbeats 8000000 in
set_option maxRecDepth 100000 in
theorem laws_FnDiskNew.calls (k : Nat) (A0 : Option Addr) (c0 : Nat) (l0 : List Int) (r : Bool) (w : World) (hr0 : Kd.C (Kd.int .u8) w A0 l0.length l0) (hc0 : l0.length ≤ c0) (h : laws_FnDiskNew.f k l0 = some r) :
    Calls Try.prog 3 #[.slice A0 l0.length c0] w fun e w' => e = .returned (.bool r) ∧ Below w.heap.size w w' := by
  have hu28 := Try.underlying28
  have HR0 := Aside0.mk hr0
  have HC0 := Aside0.mk hc0
  clear hr0 hc0
  have HB := Aside0.mk (Below.refl w.heap.size w)
  have H : (if (l0.length : Int) > 1048576 then (some true) else ((spec_DrawDiskNew.f k l0).bind fun t436 => ((impl_DiskNew.f t436).bind fun bt437 => ((spec_DiskNew.f t436).bind fun bt451 => ((laws_lpaDisk.f k bt437.1 bt437.2.1 bt437.2.2.1 bt437.2.2.2.1 bt437.2.2.2.2 bt451.1 bt451.2.1 bt451.2.2.1 bt451.2.2.2.1 bt451.2.2.2.2).bind fun t464 => (if t464 = true then (laws_FnDiskNew.j0 k t436 ((bt437.2.1.length : Int) == 0) bt437.1 bt437.2.1 bt437.2.2.1 bt437.2.2.2.1 bt437.2.2.2.2) else (laws_FnDiskNew.j0 k t436 true bt437.1 bt437.2.1 bt437.2.2.1 bt437.2.2.2.1 bt437.2.2.2.2))))))) = some r := h
  clear h
  by_cases c2 : (l0.length : Int) > 1048576
  · rw [if_pos c2] at H
    have c2b0 : decide (1048576 < (l0.length : Int)) = true := decide_eq_true c2
    have c2b1 : decide (1048576 < l0.length) = true := decide_eq_true (by omega)
    clear c2
    obtain rfl := Option.some.inj H
    go_enter Try.func3, Try.ntmps3
    go_wp2
    go_ret
    exact ⟨by first | rfl | (simp [errW_none, errW_some] <;> rfl) | (simp [*, errW_none, errW_some] <;> rfl), by repeat (first | (with_reducible first | exact HB.out | apply below_alloc | apply pw_below_drewN | apply below_drew1) | exact HB.out)⟩
  · rw [if_neg c2] at H
    have c2b0 : decide (1048576 < (l0.length : Int)) = false := decide_eq_false c2
    have c2b1 : decide (1048576 < l0.length) = false := decide_eq_false (by omega)
    clear c2
    replace H := Option.bind_eq_some_iff.mp H
    obtain ⟨t436, A30, H⟩ := H
    replace H : ((impl_DiskNew.f t436).bind fun bt437 => ((spec_DiskNew.f t436).bind fun bt451 => ((laws_lpaDisk.f k bt437.1 bt437.2.1 bt437.2.2.1 bt437.2.2.2.1 bt437.2.2.2.2 bt451.1 bt451.2.1 bt451.2.2.1 bt451.2.2.2.1 bt451.2.2.2.2).bind fun t464 => (if t464 = true then (laws_FnDiskNew.j0 k t436 ((bt437.2.1.length : Int) == 0) bt437.1 bt437.2.1 bt437.2.2.1 bt437.2.2.2.1 bt437.2.2.2.2) else (laws_FnDiskNew.j0 k t436 true bt437.1 bt437.2.1 bt437.2.2.1 bt437.2.2.2.1 bt437.2.2.2.2))))) = some r := H
    have A3 := Aside0.mk A30
    clear A30
    replace H := Option.bind_eq_some_iff.mp H
    obtain ⟨⟨t437, t438, t441, t444, t447⟩, A40, H⟩ := H
    replace H : ((spec_DiskNew.f t436).bind fun bt451 => ((laws_lpaDisk.f k t437 t438 t441 t444 t447 bt451.1 bt451.2.1 bt451.2.2.1 bt451.2.2.2.1 bt451.2.2.2.2).bind fun t464 => (if t464 = true then (laws_FnDiskNew.j0 k t436 ((t438.length : Int) == 0) t437 t438 t441 t444 t447) else (laws_FnDiskNew.j0 k t436 true t437 t438 t441 t444 t447)))) = some r := H
    have A4 := Aside0.mk A40
    clear A40
    have HC5 := Aside0.mk H
    clear H
    go_enter Try.func3, Try.ntmps3
    go_upto_region 5 with (first | ((with_reducible refine gate_callee (f := 16) rfl ?_); refine goesL_ (some 12) rfl rfl Try.func16 (by kernel_rfl) rfl #[.slice A0 l0.length c0] rfl (by (try simp only [List.map_toArray, List.map_cons, List.map_nil]); first | done | rfl | (simp only [List.length_drop, List.length_take]; rfl)) ?_; (with_reducible refine (spec_DrawDiskNew.calls k _ _ l0 t436 _ ?side1 ?side2 A3.out).mono ?_); (case side1 => repeat (first | exact HR0.out | (with_reducible refine Kd.C_alloc ?_ _) | (with_reducible refine Kd.C_drewN ?_ _) | (with_reducible refine Kd.C_drew ?_))); (case side2 => exact HC0.out); rintro e w6 ⟨rfl, hb⟩; refine ⟨_, rfl, ?_⟩; have n0_ := Aside0.mk (below_step (by repeat (first | (with_reducible first | exact HB.out | apply below_alloc | apply pw_below_drewN | apply below_drew1) | exact HB.out)) hb); clear HB; have HB := n0_; clear n0_; (try clear hb); (try clear hb2); (try clear hk); (try clear hi)) | ((with_reducible refine gate_callee (f := 17) rfl ?_); refine goesL_ (some 14) rfl rfl Try.func17 (by kernel_rfl) rfl #[.int .i64 t436] rfl (by (try simp only [List.map_toArray, List.map_cons, List.map_nil]); first | done | rfl | (simp only [List.length_drop, List.length_take]; rfl)) ?_; (with_reducible refine (impl_DiskNew.calls t436 t437 t438 t441 t444 t447 _ A4.out).mono ?_); rintro e w7 ⟨v439, v442, v445, v448, rfl, ho0, ho1, ho2, ho3, hb⟩; refine ⟨_, rfl, ?_⟩; have n0_ := Aside0.mk (Kd.R_lower ho0 (below_size (by repeat (first | (with_reducible first | exact HB.out | apply below_alloc | apply pw_below_drewN | apply below_drew1) | exact HB.out)))); have n1_ := Aside0.mk (Kd.R_lower ho1 (below_size (by repeat (first | (with_reducible first | exact HB.out | apply below_alloc | apply pw_below_drewN | apply below_drew1) | exact HB.out)))); have n2_ := Aside0.mk (Kd.R_lower ho2 (below_size (by repeat (first | (with_reducible first | exact HB.out | apply below_alloc | apply pw_below_drewN | apply below_drew1) | exact HB.out)))); have n3_ := Aside0.mk (Kd.R_lower ho3 (below_size (by repeat (first | (with_reducible first | exact HB.out | apply below_alloc | apply pw_below_drewN | apply below_drew1) | exact HB.out)))); have n4_ := Aside0.mk (below_step (by repeat (first | (with_reducible first | exact HB.out | apply below_alloc | apply pw_below_drewN | apply below_drew1) | exact HB.out)) hb); clear HB; have HO440 := n0_; have HO443 := n1_; have HO446 := n2_; have HO449 := n3_; have HB := n4_; clear n0_ n1_ n2_ n3_ n4_; (try clear hb); (try clear hb2); (try clear hk); (try clear hi); (try clear ho0); (try clear ho1); (try clear ho2); (try clear ho3)) | ((with_reducible refine gate_dst (N := 4) rfl ?_); (try (refine gate_guard (by rfl) ?_; dsimp only)); refine box_event ?hg (N := 4) ?hd (cs := #[.int .i64 0, .slice none 0 0, .slice none 0 0, .slice none 0 0, .slice none 0 0]) (t := 28) ?hr ?_; (case hd => rfl); (case hg => rfl); (case hr => first | (go_simp; done) | (go_simp; rfl)); intro gb450 hg w8 hbox hb; have n0_ := Aside0.mk (Kd.R_below (by (with_reducible repeat (first | apply Kd.R_alloc | apply Kd.R_drewN | apply Kd.R_drew)); exact HO440.out) hb); have n1_ := Aside0.mk (Kd.R_below (by (with_reducible repeat (first | apply Kd.R_alloc | apply Kd.R_drewN | apply Kd.R_drew)); exact HO443.out) hb); have n2_ := Aside0.mk (Kd.R_below (by (with_reducible repeat (first | apply Kd.R_alloc | apply Kd.R_drewN | apply Kd.R_drew)); exact HO446.out) hb); have n3_ := Aside0.mk (Kd.R_below (by (with_reducible repeat (first | apply Kd.R_alloc | apply Kd.R_drewN | apply Kd.R_drew)); exact HO449.out) hb); have n4_ := Aside0.mk (below_step (by repeat (first | (with_reducible first | exact HB.out | apply below_alloc | apply pw_below_drewN | apply below_drew1) | exact HB.out)) hb); have n5_ := Aside0.mk (hbox); have n6_ := Aside0.mk ((by rw [hg]; exact (below_size (by repeat (first | (with_reducible first | exact HB.out | apply below_alloc | apply pw_below_drewN | apply below_drew1) | exact HB.out))) : w.heap.size ≤ gb450)); have n7_ := Aside0.mk ((by rw [hg]; exact (below_size (by repeat (first | (with_reducible first | exact HB.out | apply below_alloc | apply pw_below_drewN | apply below_drew1) | exact HB.out))) : w.heap.size ≤ gb450)); clear HO440; clear HO443; clear HO446; clear HO449; clear HB; have HO440 := n0_; have HO443 := n1_; have HO446 := n2_; have HO449 := n3_; have HB := n4_; have BK450 := n5_; have GW450 := n6_; have GE450 := n7_; clear n0_ n1_ n2_ n3_ n4_ n5_ n6_ n7_; clear hb hbox hg; have hcz9_0 : w8.cell? ⟨gb450, 0, none⟩ = some (.int .i64 0) := (blk_cell BK450.out 0).trans rfl; have hcz9_1 : w8.cell? ⟨gb450, 1, none⟩ = some (.slice none 0 0) := (blk_cell BK450.out 1).trans rfl; have hcz9_2 : w8.cell? ⟨gb450, 2, none⟩ = some (.slice none 0 0) := (blk_cell BK450.out 2).trans rfl; have hcz9_3 : w8.cell? ⟨gb450, 3, none⟩ = some (.slice none 0 0) := (blk_cell BK450.out 3).trans rfl; have hcz9_4 : w8.cell? ⟨gb450, 4, none⟩ = some (.slice none 0 0) := (blk_cell BK450.out 4).trans rfl; have hfz9_0 := blk_frozen BK450.out 0; have hfz9_1 := blk_frozen BK450.out 1; have hfz9_2 := blk_frozen BK450.out 2; have hfz9_3 := blk_frozen BK450.out 3; have hfz9_4 := blk_frozen BK450.out 4; obtain ⟨Ao10, co10, eo10⟩ := Kd.R_slice HO440.out; subst eo10; obtain ⟨Ao11, co11, eo11⟩ := Kd.R_slice HO443.out; subst eo11; obtain ⟨Ao12, co12, eo12⟩ := Kd.R_slice HO446.out; subst eo12; obtain ⟨Ao13, co13, eo13⟩ := Kd.R_slice HO449.out; subst eo13))
    (try simp only [Act.put, List.setIfInBounds_toArray, List.set_cons_zero, List.set_cons_succ])
    go_cut [25] (fun v25 wc => ∃ (kq : Nat) (x25_4 : Bool), v25 = .bool x25_4 ∧ Aside0 (laws_FnDiskNew.j0 kq t436 x25_4 t437 t438 t441 t444 t447 = some r) ∧ Aside0 (kq ≤ k) ∧ Aside0 (Kd.R Kd.string 9 wc w.heap.size (fun k_ => some k_ ≠ ((.slice Ao11 t441.length co11) : Value).ownBlock) (.slice Ao10 t438.length co10) t438) ∧ Aside0 (Kd.R Kd.string 9 wc w.heap.size (fun k_ => some k_ ≠ ((.slice Ao10 t438.length co10) : Value).ownBlock) (.slice Ao11 t441.length co11) t441) ∧ Aside0 (Kd.R Kd.bool 4 wc w.heap.size (fun _ => True) (.slice Ao12 t444.length co12) t444) ∧ Aside0 (Kd.R k54 54 wc w.heap.size (fun _ => True) (.slice Ao13 t447.length co13) t447) ∧ Aside0 (wc.heap[gb450]? = some (.cells #[.int .i64 t437, (.slice Ao10 t438.length co10), (.slice Ao11 t441.length co11), (.slice Ao12 t444.length co12), (.slice Ao13 t447.length co13)] 28 (0, 0))) ∧ Aside0 (Below w.heap.size w wc))
    case first =>
      have H := HC5.out
      clear HC5
      replace H := Option.bind_eq_some_iff.mp H
      obtain ⟨⟨t451, t452, t455, t458, t461⟩, A140, H⟩ := H
      replace H : ((laws_lpaDisk.f k t437 t438 t441 t444 t447 t451 t452 t455 t458 t461).bind fun t464 => (if t464 = true then (laws_FnDiskNew.j0 k t436 ((t438.length : Int) == 0) t437 t438 t441 t444 t447) else (laws_FnDiskNew.j0 k t436 true t437 t438 t441 t444 t447))) = some r := H
      have A14 := Aside0.mk A140
      clear A140
      replace H := Option.bind_eq_some_iff.mp H
      obtain ⟨t464, A150, H⟩ := H
      replace H : (if t464 = true then (laws_FnDiskNew.j0 k t436 ((t438.length : Int) == 0) t437 t438 t441 t444 t447) else (laws_FnDiskNew.j0 k t436 true t437 t438 t441 t444 t447)) = some r := H
      have A15 := Aside0.mk A150
      clear A150
      by_cases c16 : t464 = true
      · subst c16
        have H1 : (laws_FnDiskNew.j0 k t436 ((t438.length : Int) == 0) t437 t438 t441 t444 t447) = some r := by rw [if_pos rfl] at H; exact H
        clear H
        have H := H1
        clear H1
        have H' := Aside0.mk H
        clear H
        try go_wp2
        have n0_ : Aside0 (Kd.R Kd.string 9 (((((w8.setCell ⟨gb450, 0, none⟩ (.int .i64 t437)).setCell ⟨gb450, 1, none⟩ (.slice Ao10 t438.length co10)).setCell ⟨gb450, 2, none⟩ (.slice Ao11 t441.length co11)).setCell ⟨gb450, 3, none⟩ (.slice Ao12 t444.length co12)).setCell ⟨gb450, 4, none⟩ (.slice Ao13 t447.length co13)) w.heap.size (fun k_ => some k_ ≠ (.slice Ao11 t441.length co11 : Value).ownBlock) (.slice Ao10 t438.length co10) t438) := ⟨by (with_reducible repeat (first | apply Kd.R_alloc | apply Kd.R_drewN | apply Kd.R_drew)); exact Kd.R_mono (Kd.R_far (p := ⟨gb450, 4, none⟩) (Kd.R_far (p := ⟨gb450, 3, none⟩) (Kd.R_far (p := ⟨gb450, 2, none⟩) (Kd.R_far (p := ⟨gb450, 1, none⟩) (Kd.R_far (p := ⟨gb450, 0, none⟩) (Kd.R_types HO440.out BK450.out (by decide)) (fun _ hk => hk.2) (.int .i64 t437)) (fun _ hk => hk.2) (.slice Ao10 t438.length co10)) (fun _ hk => hk.2) (.slice Ao11 t441.length co11)) (fun _ hk => hk.2) (.slice Ao12 t444.length co12)) (fun _ hk => hk.2) (.slice Ao13 t447.length co13)) (fun _ hk => hk.1)⟩
        have n1_ : Aside0 (Kd.R Kd.string 9 (((((w8.setCell ⟨gb450, 0, none⟩ (.int .i64 t437)).setCell ⟨gb450, 1, none⟩ (.slice Ao10 t438.length co10)).setCell ⟨gb450, 2, none⟩ (.slice Ao11 t441.length co11)).setCell ⟨gb450, 3, none⟩ (.slice Ao12 t444.length co12)).setCell ⟨gb450, 4, none⟩ (.slice Ao13 t447.length co13)) w.heap.size (fun k_ => some k_ ≠ (.slice Ao10 t438.length co10 : Value).ownBlock) (.slice Ao11 t441.length co11) t441) := ⟨by (with_reducible repeat (first | apply Kd.R_alloc | apply Kd.R_drewN | apply Kd.R_drew)); exact Kd.R_mono (Kd.R_far (p := ⟨gb450, 4, none⟩) (Kd.R_far (p := ⟨gb450, 3, none⟩) (Kd.R_far (p := ⟨gb450, 2, none⟩) (Kd.R_far (p := ⟨gb450, 1, none⟩) (Kd.R_far (p := ⟨gb450, 0, none⟩) (Kd.R_types HO443.out BK450.out (by decide)) (fun _ hk => hk.2) (.int .i64 t437)) (fun _ hk => hk.2) (.slice Ao10 t438.length co10)) (fun _ hk => hk.2) (.slice Ao11 t441.length co11)) (fun _ hk => hk.2) (.slice Ao12 t444.length co12)) (fun _ hk => hk.2) (.slice Ao13 t447.length co13)) (fun _ hk => hk.1)⟩
        have n2_ : Aside0 (Kd.R Kd.bool 4 (((((w8.setCell ⟨gb450, 0, none⟩ (.int .i64 t437)).setCell ⟨gb450, 1, none⟩ (.slice Ao10 t438.length co10)).setCell ⟨gb450, 2, none⟩ (.slice Ao11 t441.length co11)).setCell ⟨gb450, 3, none⟩ (.slice Ao12 t444.length co12)).setCell ⟨gb450, 4, none⟩ (.slice Ao13 t447.length co13)) w.heap.size (fun _ => True) (.slice Ao12 t444.length co12) t444) := ⟨by (with_reducible repeat (first | apply Kd.R_alloc | apply Kd.R_drewN | apply Kd.R_drew)); exact Kd.R_mono (Kd.R_far (p := ⟨gb450, 4, none⟩) (Kd.R_far (p := ⟨gb450, 3, none⟩) (Kd.R_far (p := ⟨gb450, 2, none⟩) (Kd.R_far (p := ⟨gb450, 1, none⟩) (Kd.R_far (p := ⟨gb450, 0, none⟩) (Kd.R_types HO446.out BK450.out (by decide)) (fun _ hk => hk.2) (.int .i64 t437)) (fun _ hk => hk.2) (.slice Ao10 t438.length co10)) (fun _ hk => hk.2) (.slice Ao11 t441.length co11)) (fun _ hk => hk.2) (.slice Ao12 t444.length co12)) (fun _ hk => hk.2) (.slice Ao13 t447.length co13)) (fun _ hk => trivial)⟩
        have n3_ : Aside0 (Kd.R k54 54 (((((w8.setCell ⟨gb450, 0, none⟩ (.int .i64 t437)).setCell ⟨gb450, 1, none⟩ (.slice Ao10 t438.length co10)).setCell ⟨gb450, 2, none⟩ (.slice Ao11 t441.length co11)).setCell ⟨gb450, 3, none⟩ (.slice Ao12 t444.length co12)).setCell ⟨gb450, 4, none⟩ (.slice Ao13 t447.length co13)) w.heap.size (fun _ => True) (.slice Ao13 t447.length co13) t447) := ⟨by (with_reducible repeat (first | apply Kd.R_alloc | apply Kd.R_drewN | apply Kd.R_drew)); exact Kd.R_mono (Kd.R_far (p := ⟨gb450, 4, none⟩) (Kd.R_far (p := ⟨gb450, 3, none⟩) (Kd.R_far (p := ⟨gb450, 2, none⟩) (Kd.R_far (p := ⟨gb450, 1, none⟩) (Kd.R_far (p := ⟨gb450, 0, none⟩) (Kd.R_types HO449.out BK450.out (by decide)) (fun _ hk => hk.2) (.int .i64 t437)) (fun _ hk => hk.2) (.slice Ao10 t438.length co10)) (fun _ hk => hk.2) (.slice Ao11 t441.length co11)) (fun _ hk => hk.2) (.slice Ao12 t444.length co12)) (fun _ hk => hk.2) (.slice Ao13 t447.length co13)) (fun _ hk => trivial)⟩
        have n4_ : Aside0 ((((((w8.setCell ⟨gb450, 0, none⟩ (.int .i64 t437)).setCell ⟨gb450, 1, none⟩ (.slice Ao10 t438.length co10)).setCell ⟨gb450, 2, none⟩ (.slice Ao11 t441.length co11)).setCell ⟨gb450, 3, none⟩ (.slice Ao12 t444.length co12)).setCell ⟨gb450, 4, none⟩ (.slice Ao13 t447.length co13)).heap[gb450]? = some (.cells #[.int .i64 t437, .slice Ao10 t438.length co10, .slice Ao11 t441.length co11, .slice Ao12 t444.length co12, .slice Ao13 t447.length co13] 28 (0, 0))) := ⟨by (with_reducible repeat (first | refine blk_drewN ?_ _ | refine blk_drew ?_ | refine blk_alloc ?_ _)); refine blk_put (cs := #[.int .i64 t437, .slice Ao10 t438.length co10, .slice Ao11 t441.length co11, .slice Ao12 t444.length co12, .slice none 0 0]) ?_ 4 _ rfl; (with_reducible repeat (first | refine blk_drewN ?_ _ | refine blk_drew ?_ | refine blk_alloc ?_ _)); refine blk_put (cs := #[.int .i64 t437, .slice Ao10 t438.length co10, .slice Ao11 t441.length co11, .slice none 0 0, .slice none 0 0]) ?_ 3 _ rfl; (with_reducible repeat (first | refine blk_drewN ?_ _ | refine blk_drew ?_ | refine blk_alloc ?_ _)); refine blk_put (cs := #[.int .i64 t437, .slice Ao10 t438.length co10, .slice none 0 0, .slice none 0 0, .slice none 0 0]) ?_ 2 _ rfl; (with_reducible repeat (first | refine blk_drewN ?_ _ | refine blk_drew ?_ | refine blk_alloc ?_ _)); refine blk_put (cs := #[.int .i64 t437, .slice none 0 0, .slice none 0 0, .slice none 0 0, .slice none 0 0]) ?_ 1 _ rfl; (with_reducible repeat (first | refine blk_drewN ?_ _ | refine blk_drew ?_ | refine blk_alloc ?_ _)); refine blk_put (cs := #[.int .i64 0, .slice none 0 0, .slice none 0 0, .slice none 0 0, .slice none 0 0]) ?_ 0 _ rfl; (with_reducible repeat (first | refine blk_drewN ?_ _ | refine blk_drew ?_ | refine blk_alloc ?_ _)); exact BK450.out⟩
        have n5_ : Aside0 (Below w.heap.size w (((((w8.setCell ⟨gb450, 0, none⟩ (.int .i64 t437)).setCell ⟨gb450, 1, none⟩ (.slice Ao10 t438.length co10)).setCell ⟨gb450, 2, none⟩ (.slice Ao11 t441.length co11)).setCell ⟨gb450, 3, none⟩ (.slice Ao12 t444.length co12)).setCell ⟨gb450, 4, none⟩ (.slice Ao13 t447.length co13))) := ⟨by repeat (first | (with_reducible first | exact HB.out | apply below_alloc | apply pw_below_drewN | apply below_drew1 | refine below_set ?_ GE450.out) | exact HB.out)⟩
        (try clear HO440)
        (try clear HO443)
        (try clear HO446)
        (try clear HO449)
        (try clear BK450)
        (try clear HB)
        generalize (((((w8.setCell ⟨gb450, 0, none⟩ (.int .i64 t437)).setCell ⟨gb450, 1, none⟩ (.slice Ao10 t438.length co10)).setCell ⟨gb450, 2, none⟩ (.slice Ao11 t441.length co11)).setCell ⟨gb450, 3, none⟩ (.slice Ao12 t444.length co12)).setCell ⟨gb450, 4, none⟩ (.slice Ao13 t447.length co13)) = w17 at n0_ n1_ n2_ n3_ n4_ n5_ ⊢
        have HO440 := n0_
        have HO443 := n1_
        have HO446 := n2_
        have HO449 := n3_
        have BK450 := n4_
        have HB := n5_
        clear n0_ n1_ n2_ n3_ n4_ n5_
        have n0_ := Aside0.mk (Kd.R_drew HO440.out)
        have n1_ := Aside0.mk (Kd.R_drew HO443.out)
        have n2_ := Aside0.mk (Kd.R_drew HO446.out)
        have n3_ := Aside0.mk (Kd.R_drew HO449.out)
        have n4_ := Aside0.mk (blk_drew BK450.out)
        have n5_ := Aside0.mk (below_drew1 HB.out)
        clear HO440
        clear HO443
        clear HO446
        clear HO449
        clear BK450
        clear HB
        have HO440 := n0_
        have HO443 := n1_
        have HO446 := n2_
        have HO449 := n3_
        have BK450 := n4_
        have HB := n5_
        clear n0_ n1_ n2_ n3_ n4_ n5_
        refine start_ (n := 11) (S := fun w' => w'.cell? ⟨gb450, 0, none⟩ = some (.int .i64 t437) ∧ w'.cell? ⟨gb450, 1, none⟩ = some (.slice Ao10 t438.length co10) ∧ w'.cell? ⟨gb450, 2, none⟩ = some (.slice Ao11 t441.length co11) ∧ w'.cell? ⟨gb450, 3, none⟩ = some (.slice Ao12 t444.length co12) ∧ w'.cell? ⟨gb450, 4, none⟩ = some (.slice Ao13 t447.length co13)) (ds := []) #[false, false, false, false, false, false, false, false, false, false, false] (by kernel_rfl) rfl rfl ⟨(blk_cell BK450.out 0).trans rfl, (blk_cell BK450.out 1).trans rfl, (blk_cell BK450.out 2).trans rfl, (blk_cell BK450.out 3).trans rfl, (blk_cell BK450.out 4).trans rfl⟩ (fun hHeld => ?_); refine with_tabW laws_FnDiskNew.tab5 laws_FnDiskNew.bits5 (fun HT_ HW_ => ?_)
        generalize w17.drew = w18 at HO440 HO443 HO446 HO449 BK450 HB hHeld ⊢
        refine pure_ (i := 1) (N := some 16) (v := ?_) (a' := ?_) #[false, true, false, false, false, false, false, false, false, false, false] rfl rfl (any_of HT_.out (by kernel_rfl)) (fun _ _ _ h => h) (Or.inl ⟨by rfl, ?_⟩) ?_ ?_
        rotate_left
        · intro w'
          go_simp
          with_reducible rfl
        rotate_left
        · simp only [Act.put, List.setIfInBounds_toArray, List.set_cons_zero, List.set_cons_succ, i64_w, i32_w]
          rfl
        refine take_ (i := 0) (N := some 15) (v := ?_) (a' := ?_) #[true, true, false, false, false, false, false, false, false, false, false] rfl rfl (take_ofW HT_.out HW_.out (by kernel_rfl)) (fun _ _ _ h => h) (Or.inl ⟨by rfl, ?_⟩) hHeld ?_ ?_
        rotate_left
        · rintro w' ⟨s0, s1, s2, s3, s4⟩
          go_simp
          with_reducible rfl
        rotate_left
        · simp only [Act.put, List.setIfInBounds_toArray, List.set_cons_zero, List.set_cons_succ, i64_w, i32_w]
          rfl
        refine one_ (i := 2) (N := some 17) #[true, true, true, false, false, false, false, false, false, false, false] rfl rfl (one_of HT_.out (by kernel_rfl)) (by decide) (fun K hK => ?_)
        refine goes_ Try.func19 (by kernel_rfl) rfl #[.int .i64 t436] (by rfl) rfl rfl (by (try simp only [List.map_toArray, List.map_cons, List.map_nil]); first | done | rfl | (simp only [List.length_drop, List.length_take]; rfl)) ?_
        with_reducible refine (spec_DiskNew.calls t436 t451 t452 t455 t458 t461 _ A14.out).mono ?_
        rintro e w19 ⟨v453, v456, v459, v462, rfl, ho0, ho1, ho2, ho3, hb⟩
        refine ⟨_, rfl, ?_⟩
        have n0_ := Aside0.mk (Kd.R_mono (Kd.R_told (Kd.R_told (Kd.R_old (by (with_reducible repeat (first | apply Kd.R_alloc | apply Kd.R_drewN | apply Kd.R_drew)); exact HO440.out) hb) (Kd.R_base ho0)) (Kd.R_base ho1)) (fun _ h_ => h_.1))
        have n1_ := Aside0.mk (Kd.R_mono (Kd.R_told (Kd.R_told (Kd.R_old (by (with_reducible repeat (first | apply Kd.R_alloc | apply Kd.R_drewN | apply Kd.R_drew)); exact HO443.out) hb) (Kd.R_base ho0)) (Kd.R_base ho1)) (fun _ h_ => h_.1))
        have n2_ := Aside0.mk (Kd.R_elder' (by (with_reducible repeat (first | apply Kd.R_alloc | apply Kd.R_drewN | apply Kd.R_drew)); exact HO446.out) (Kd.R_base ho2) hb)
        have n3_ := Aside0.mk (Kd.R_elder' (by (with_reducible repeat (first | apply Kd.R_alloc | apply Kd.R_drewN | apply Kd.R_drew)); exact HO449.out) (Kd.R_base ho3) hb)
        have n4_ := Aside0.mk (Kd.R_lower (Kd.R_new' (Kd.R_new' ho0 (Kd.R_lt (by (with_reducible repeat (first | apply Kd.R_alloc | apply Kd.R_drewN | apply Kd.R_drew)); exact HO440.out))) (Kd.R_lt (by (with_reducible repeat (first | apply Kd.R_alloc | apply Kd.R_drewN | apply Kd.R_drew)); exact HO443.out))) (below_size (by repeat (first | (with_reducible first | exact HB.out | apply below_alloc | apply pw_below_drewN | apply below_drew1 | refine below_set ?_ GE450.out) | exact HB.out))))
        have n5_ := Aside0.mk (Kd.R_lower (Kd.R_new' (Kd.R_new' ho1 (Kd.R_lt (by (with_reducible repeat (first | apply Kd.R_alloc | apply Kd.R_drewN | apply Kd.R_drew)); exact HO440.out))) (Kd.R_lt (by (with_reducible repeat (first | apply Kd.R_alloc | apply Kd.R_drewN | apply Kd.R_drew)); exact HO443.out))) (below_size (by repeat (first | (with_reducible first | exact HB.out | apply below_alloc | apply pw_below_drewN | apply below_drew1 | refine below_set ?_ GE450.out) | exact HB.out))))
        have n6_ := Aside0.mk (Kd.R_lower (Kd.R_new' ho2 (Kd.R_lt (by (with_reducible repeat (first | apply Kd.R_alloc | apply Kd.R_drewN | apply Kd.R_drew)); exact HO446.out))) (below_size (by repeat (first | (with_reducible first | exact HB.out | apply below_alloc | apply pw_below_drewN | apply below_drew1 | refine below_set ?_ GE450.out) | exact HB.out))))
        have n7_ := Aside0.mk (Kd.R_lower (Kd.R_new' ho3 (Kd.R_lt (by (with_reducible repeat (first | apply Kd.R_alloc | apply Kd.R_drewN | apply Kd.R_drew)); exact HO449.out))) (below_size (by repeat (first | (with_reducible first | exact HB.out | apply below_alloc | apply pw_below_drewN | apply below_drew1 | refine below_set ?_ GE450.out) | exact HB.out))))
        have n8_ := Aside0.mk (blk_below (g := gb450) (o := .cells #[.int .i64 t437, .slice Ao10 t438.length co10, .slice Ao11 t441.length co11, .slice Ao12 t444.length co12, .slice Ao13 t447.length co13] 28 (0, 0)) (by (with_reducible repeat (first | refine blk_drewN ?_ _ | refine blk_drew ?_ | refine blk_alloc ?_ _)); exact BK450.out) hb)
        have n9_ := Aside0.mk (below_step (by repeat (first | (with_reducible first | exact HB.out | apply below_alloc | apply pw_below_drewN | apply below_drew1 | refine below_set ?_ GE450.out) | exact HB.out)) hb)
        clear HO440
        clear HO443
        clear HO446
        clear HO449
        clear BK450
        clear HB
        have HO440 := n0_
        have HO443 := n1_
        have HO446 := n2_
        have HO449 := n3_
        have HO454 := n4_
        have HO457 := n5_
        have HO460 := n6_
        have HO463 := n7_
        have BK450 := n8_
        have HB := n9_
        clear n0_ n1_ n2_ n3_ n4_ n5_ n6_ n7_ n8_ n9_
        (try clear hb)
        (try clear hb2)
        (try clear hk)
        (try clear hi)
        (try clear ho0)
        (try clear ho1)
        (try clear ho2)
        (try clear ho3)
        obtain ⟨Ao20, co20, eo20⟩ := Kd.R_slice HO454.out
        (first | subst eo20 | (injection eo20 with f1_ f2_ f3_; have f4_ := f1_.symm; have f5_ := f3_.symm; clear f1_ f2_ f3_; subst f4_; subst f5_))
        obtain ⟨Ao21, co21, eo21⟩ := Kd.R_slice HO457.out
        (first | subst eo21 | (injection eo21 with f1_ f2_ f3_; have f4_ := f1_.symm; have f5_ := f3_.symm; clear f1_ f2_ f3_; subst f4_; subst f5_))
        obtain ⟨Ao22, co22, eo22⟩ := Kd.R_slice HO460.out
        (first | subst eo22 | (injection eo22 with f1_ f2_ f3_; have f4_ := f1_.symm; have f5_ := f3_.symm; clear f1_ f2_ f3_; subst f4_; subst f5_))
        obtain ⟨Ao23, co23, eo23⟩ := Kd.R_slice HO463.out
        (first | subst eo23 | (injection eo23 with f1_ f2_ f3_; have f4_ := f1_.symm; have f5_ := f3_.symm; clear f1_ f2_ f3_; subst f4_; subst f5_))
        refine hK.out _ _ ⟨(blk_cell BK450.out 0).trans rfl, (blk_cell BK450.out 1).trans rfl, (blk_cell BK450.out 2).trans rfl, (blk_cell BK450.out 3).trans rfl, (blk_cell BK450.out 4).trans rfl⟩ (fun hHeld => ?_)
        clear hK K
        refine norm_ (a' := ?_) ?_ ?_
        rotate_left
        · show Act.put _ (some 17) _ = _
          simp only [Act.put, List.setIfInBounds_toArray, List.set_cons_zero, List.set_cons_succ, i64_w, i32_w]
          rfl
        refine one_ (i := 3) (N := some 18) #[true, true, true, true, false, false, false, false, false, false, false] rfl rfl (one_of HT_.out (by kernel_rfl)) (by decide) (fun K hK => ?_)
        refine goes_ Try.func18 (by kernel_rfl) rfl #[.agg #[.int .i64 t437, .slice Ao10 t438.length co10, .slice Ao11 t441.length co11, .slice Ao12 t444.length co12, .slice Ao13 t447.length co13], .agg #[.int .i64 t451, .slice Ao20 t452.length co20, .slice Ao21 t455.length co21, .slice Ao22 t458.length co22, .slice Ao23 t461.length co23]] (by rfl) rfl rfl (by (try simp only [List.map_toArray, List.map_cons, List.map_nil]); first | done | rfl | (simp only [List.length_drop, List.length_take]; rfl)) ?_
        with_reducible refine (laws_lpaDisk.calls k t437 _ _ t438 _ _ t441 _ _ t444 _ _ t447 t451 _ _ t452 _ _ t455 _ _ t458 _ _ t461 true _ ?side1 ?side2 ?side3 ?side4 ?side5 ?side6 ?side7 ?side8 ?side9 ?side10 ?side11 ?side12 ?side13 ?side14 ?side15 ?side16 A15.out).mono ?_
        (case side1 => repeat (first | exact (Kd.R_reads' HO440.out).2.2 | (with_reducible refine Kd.C_alloc ?_ _) | (with_reducible refine Kd.C_drewN ?_ _) | (with_reducible refine Kd.C_drew ?_)))
        (case side2 => exact (Kd.R_reads' HO440.out).2.1)
        (case side3 => repeat (first | exact (Kd.R_reads' HO443.out).2.2 | (with_reducible refine Kd.C_alloc ?_ _) | (with_reducible refine Kd.C_drewN ?_ _) | (with_reducible refine Kd.C_drew ?_)))
        (case side4 => exact (Kd.R_reads' HO443.out).2.1)
        (case side5 => repeat (first | exact (Kd.R_reads' HO446.out).2.2 | (with_reducible refine Kd.C_alloc ?_ _) | (with_reducible refine Kd.C_drewN ?_ _) | (with_reducible refine Kd.C_drew ?_)))
        (case side6 => exact (Kd.R_reads' HO446.out).2.1)
        (case side7 => repeat (first | exact (Kd.R_reads' HO449.out).2.2 | (with_reducible refine Kd.C_alloc ?_ _) | (with_reducible refine Kd.C_drewN ?_ _) | (with_reducible refine Kd.C_drew ?_)))
        (case side8 => exact (Kd.R_reads' HO449.out).2.1)
        (case side9 => repeat (first | exact (Kd.R_reads' HO454.out).2.2 | (with_reducible refine Kd.C_alloc ?_ _) | (with_reducible refine Kd.C_drewN ?_ _) | (with_reducible refine Kd.C_drew ?_)))
        (case side10 => exact (Kd.R_reads' HO454.out).2.1)
        (case side11 => repeat (first | exact (Kd.R_reads' HO457.out).2.2 | (with_reducible refine Kd.C_alloc ?_ _) | (with_reducible refine Kd.C_drewN ?_ _) | (with_reducible refine Kd.C_drew ?_)))
        (case side12 => exact (Kd.R_reads' HO457.out).2.1)
        (case side13 => repeat (first | exact (Kd.R_reads' HO460.out).2.2 | (with_reducible refine Kd.C_alloc ?_ _) | (with_reducible refine Kd.C_drewN ?_ _) | (with_reducible refine Kd.C_drew ?_)))
        (case side14 => exact (Kd.R_reads' HO460.out).2.1)
        (case side15 => repeat (first | exact (Kd.R_reads' HO463.out).2.2 | (with_reducible refine Kd.C_alloc ?_ _) | (with_reducible refine Kd.C_drewN ?_ _) | (with_reducible refine Kd.C_drew ?_)))
        (case side16 => exact (Kd.R_reads' HO463.out).2.1)
        rintro e w24 ⟨rfl, hb⟩
        refine ⟨_, rfl, ?_⟩
        have n0_ := Aside0.mk (Kd.R_below (by (with_reducible repeat (first | apply Kd.R_alloc | apply Kd.R_drewN | apply Kd.R_drew)); exact HO440.out) hb)
        have n1_ := Aside0.mk (Kd.R_below (by (with_reducible repeat (first | apply Kd.R_alloc | apply Kd.R_drewN | apply Kd.R_drew)); exact HO443.out) hb)
        have n2_ := Aside0.mk (Kd.R_below (by (with_reducible repeat (first | apply Kd.R_alloc | apply Kd.R_drewN | apply Kd.R_drew)); exact HO446.out) hb)
        have n3_ := Aside0.mk (Kd.R_below (by (with_reducible repeat (first | apply Kd.R_alloc | apply Kd.R_drewN | apply Kd.R_drew)); exact HO449.out) hb)
        have n4_ := Aside0.mk (Kd.R_below (by (with_reducible repeat (first | apply Kd.R_alloc | apply Kd.R_drewN | apply Kd.R_drew)); exact HO454.out) hb)
        have n5_ := Aside0.mk (Kd.R_below (by (with_reducible repeat (first | apply Kd.R_alloc | apply Kd.R_drewN | apply Kd.R_drew)); exact HO457.out) hb)
        have n6_ := Aside0.mk (Kd.R_below (by (with_reducible repeat (first | apply Kd.R_alloc | apply Kd.R_drewN | apply Kd.R_drew)); exact HO460.out) hb)
        have n7_ := Aside0.mk (Kd.R_below (by (with_reducible repeat (first | apply Kd.R_alloc | apply Kd.R_drewN | apply Kd.R_drew)); exact HO463.out) hb)
        have n8_ := Aside0.mk (blk_below (g := gb450) (o := .cells #[.int .i64 t437, .slice Ao10 t438.length co10, .slice Ao11 t441.length co11, .slice Ao12 t444.length co12, .slice Ao13 t447.length co13] 28 (0, 0)) (by (with_reducible repeat (first | refine blk_drewN ?_ _ | refine blk_drew ?_ | refine blk_alloc ?_ _)); exact BK450.out) hb)
        have n9_ := Aside0.mk (below_step (by repeat (first | (with_reducible first | exact HB.out | apply below_alloc | apply pw_below_drewN | apply below_drew1 | refine below_set ?_ GE450.out) | exact HB.out)) hb)
        clear HO440
        clear HO443
        clear HO446
        clear HO449
        clear HO454
        clear HO457
        clear HO460
        clear HO463
        clear BK450
        clear HB
        have HO440 := n0_
        have HO443 := n1_
        have HO446 := n2_
        have HO449 := n3_
        have HO454 := n4_
        have HO457 := n5_
        have HO460 := n6_
        have HO463 := n7_
        have BK450 := n8_
        have HB := n9_
        clear n0_ n1_ n2_ n3_ n4_ n5_ n6_ n7_ n8_ n9_
        (try clear hb)
        (try clear hb2)
        (try clear hk)
        (try clear hi)
        refine hK.out _ _ ⟨(blk_cell BK450.out 0).trans rfl, (blk_cell BK450.out 1).trans rfl, (blk_cell BK450.out 2).trans rfl, (blk_cell BK450.out 3).trans rfl, (blk_cell BK450.out 4).trans rfl⟩ (fun hHeld => ?_)
        clear hK K
        refine norm_ (a' := ?_) ?_ ?_
        rotate_left
        · show Act.put _ (some 18) _ = _
          simp only [Act.put, List.setIfInBounds_toArray, List.set_cons_zero, List.set_cons_succ, i64_w, i32_w]
          rfl
        refine pure_ (i := 4) (N := some 19) (v := ?_) (a' := ?_) #[true, true, true, true, true, false, false, false, false, false, false] rfl rfl (any_of HT_.out (by kernel_rfl)) (fun _ _ _ h => h) (Or.inl ⟨by rfl, ?_⟩) ?_ ?_
        rotate_left
        · intro w'
          go_simp
          with_reducible rfl
        rotate_left
        · simp only [Act.put, List.setIfInBounds_toArray, List.set_cons_zero, List.set_cons_succ, i64_w, i32_w]
          rfl
        refine pure_ (i := 5) (N := some 20) (v := ?_) (a' := ?_) #[true, true, true, true, true, true, false, false, false, false, false] rfl rfl (any_of HT_.out (by kernel_rfl)) (fun _ _ _ h => h) (Or.inl ⟨by rfl, ?_⟩) ?_ ?_
        rotate_left
        · intro w'
          go_simp
          with_reducible rfl
        rotate_left
        · simp only [Act.put, List.setIfInBounds_toArray, List.set_cons_zero, List.set_cons_succ, i64_w, i32_w]
          rfl
        refine pure_ (i := 6) (N := some 21) (v := ?_) (a' := ?_) #[true, true, true, true, true, true, true, false, false, false, false] rfl rfl (any_of HT_.out (by kernel_rfl)) (fun _ _ _ h => h) (Or.inl ⟨by rfl, ?_⟩) ?_ ?_
        rotate_left
        · intro w'
          go_simp
          with_reducible rfl
        rotate_left
        · simp only [Act.put, List.setIfInBounds_toArray, List.set_cons_zero, List.set_cons_succ, i64_w, i32_w]
          rfl
        refine take_ (i := 7) (N := some 22) (v := ?_) (a' := ?_) #[true, true, true, true, true, true, true, true, false, false, false] rfl rfl (take_ofW HT_.out HW_.out (by kernel_rfl)) (fun _ _ _ h => h) (Or.inl ⟨by rfl, ?_⟩) hHeld ?_ ?_
        rotate_left
        · rintro w' ⟨s0, s1, s2, s3, s4⟩
          go_simp
          with_reducible rfl
        rotate_left
        · simp only [Act.put, List.setIfInBounds_toArray, List.set_cons_zero, List.set_cons_succ, i64_w, i32_w]
          rfl
        refine pure_ (i := 8) (N := some 23) (v := ?_) (a' := ?_) #[true, true, true, true, true, true, true, true, true, false, false] rfl rfl (any_of HT_.out (by kernel_rfl)) (fun _ _ _ h => h) (Or.inl ⟨by rfl, ?_⟩) ?_ ?_
        rotate_left
        · intro w'
          go_simp
          with_reducible rfl
        rotate_left
        · simp only [Act.put, List.setIfInBounds_toArray, List.set_cons_zero, List.set_cons_succ, i64_w, i32_w]
          rfl
        refine pure_ (i := 9) (N := some 24) (v := ?_) (a' := ?_) #[true, true, true, true, true, true, true, true, true, true, false] rfl rfl (any_of HT_.out (by kernel_rfl)) (fun _ _ _ h => h) (Or.inl ⟨by rfl, ?_⟩) ?_ ?_
        rotate_left
        · intro w'
          go_simp
          with_reducible rfl
        rotate_left
        · simp only [Act.put, List.setIfInBounds_toArray, List.set_cons_zero, List.set_cons_succ, i64_w, i32_w]
          rfl
        refine pure_ (i := 10) (N := some 25) (v := ?_) (a' := ?_) #[true, true, true, true, true, true, true, true, true, true, true] rfl rfl (any_of HT_.out (by kernel_rfl)) (fun _ _ _ h => h) (Or.inl ⟨by rfl, ?_⟩) ?_ ?_
        rotate_left
        · intro w'
          go_simp
          with_reducible rfl
        rotate_left
        · simp only [Act.put, List.setIfInBounds_toArray, List.set_cons_zero, List.set_cons_succ, i64_w, i32_w]
          rfl
        refine done_ (done_of HT_.out (by kernel_rfl)) ?_
        try go_wp2
        go_meet
        case rel => exact ⟨_, (((t438.length : Int) == 0)), (by first | rfl | (simp; done) | (simp [*]; done)), H', ⟨by first | omega | exact Nat.le_refl _⟩, ⟨by (with_reducible repeat (first | apply Kd.R_alloc | apply Kd.R_drewN | apply Kd.R_drew)); exact Kd.R_mono HO440.out (fun _ hk => hk.1.1)⟩, ⟨by (with_reducible repeat (first | apply Kd.R_alloc | apply Kd.R_drewN | apply Kd.R_drew)); exact Kd.R_mono HO443.out (fun _ hk => hk.1.1)⟩, ⟨by (with_reducible repeat (first | apply Kd.R_alloc | apply Kd.R_drewN | apply Kd.R_drew)); exact Kd.R_mono HO446.out (fun _ hk => trivial)⟩, ⟨by (with_reducible repeat (first | apply Kd.R_alloc | apply Kd.R_drewN | apply Kd.R_drew)); exact Kd.R_mono HO449.out (fun _ hk => trivial)⟩, ⟨by (with_reducible repeat (first | refine blk_drewN ?_ _ | refine blk_drew ?_ | refine blk_alloc ?_ _)); exact BK450.out⟩, ⟨by repeat (first | (with_reducible first | exact HB.out | apply below_alloc | apply pw_below_drewN | apply below_drew1 | refine below_set ?_ GE450.out) | exact HB.out)⟩⟩
      · replace c16 := Bool.eq_false_iff.mpr c16
        subst c16
        have H1 : (laws_FnDiskNew.j0 k t436 true t437 t438 t441 t444 t447) = some r := by rw [if_neg (show ¬ (false = true) by decide)] at H; exact H
        clear H
        have H := H1
        clear H1
        have H' := Aside0.mk H
        clear H
        try go_wp2
        have n0_ : Aside0 (Kd.R Kd.string 9 (((((w8.setCell ⟨gb450, 0, none⟩ (.int .i64 t437)).setCell ⟨gb450, 1, none⟩ (.slice Ao10 t438.length co10)).setCell ⟨gb450, 2, none⟩ (.slice Ao11 t441.length co11)).setCell ⟨gb450, 3, none⟩ (.slice Ao12 t444.length co12)).setCell ⟨gb450, 4, none⟩ (.slice Ao13 t447.length co13)) w.heap.size (fun k_ => some k_ ≠ (.slice Ao11 t441.length co11 : Value).ownBlock) (.slice Ao10 t438.length co10) t438) := ⟨by (with_reducible repeat (first | apply Kd.R_alloc | apply Kd.R_drewN | apply Kd.R_drew)); exact Kd.R_mono (Kd.R_far (p := ⟨gb450, 4, none⟩) (Kd.R_far (p := ⟨gb450, 3, none⟩) (Kd.R_far (p := ⟨gb450, 2, none⟩) (Kd.R_far (p := ⟨gb450, 1, none⟩) (Kd.R_far (p := ⟨gb450, 0, none⟩) (Kd.R_types HO440.out BK450.out (by decide)) (fun _ hk => hk.2) (.int .i64 t437)) (fun _ hk => hk.2) (.slice Ao10 t438.length co10)) (fun _ hk => hk.2) (.slice Ao11 t441.length co11)) (fun _ hk => hk.2) (.slice Ao12 t444.length co12)) (fun _ hk => hk.2) (.slice Ao13 t447.length co13)) (fun _ hk => hk.1)⟩
        have n1_ : Aside0 (Kd.R Kd.string 9 (((((w8.setCell ⟨gb450, 0, none⟩ (.int .i64 t437)).setCell ⟨gb450, 1, none⟩ (.slice Ao10 t438.length co10)).setCell ⟨gb450, 2, none⟩ (.slice Ao11 t441.length co11)).setCell ⟨gb450, 3, none⟩ (.slice Ao12 t444.length co12)).setCell ⟨gb450, 4, none⟩ (.slice Ao13 t447.length co13)) w.heap.size (fun k_ => some k_ ≠ (.slice Ao10 t438.length co10 : Value).ownBlock) (.slice Ao11 t441.length co11) t441) := ⟨by (with_reducible repeat (first | apply Kd.R_alloc | apply Kd.R_drewN | apply Kd.R_drew)); exact Kd.R_mono (Kd.R_far (p := ⟨gb450, 4, none⟩) (Kd.R_far (p := ⟨gb450, 3, none⟩) (Kd.R_far (p := ⟨gb450, 2, none⟩) (Kd.R_far (p := ⟨gb450, 1, none⟩) (Kd.R_far (p := ⟨gb450, 0, none⟩) (Kd.R_types HO443.out BK450.out (by decide)) (fun _ hk => hk.2) (.int .i64 t437)) (fun _ hk => hk.2) (.slice Ao10 t438.length co10)) (fun _ hk => hk.2) (.slice Ao11 t441.length co11)) (fun _ hk => hk.2) (.slice Ao12 t444.length co12)) (fun _ hk => hk.2) (.slice Ao13 t447.length co13)) (fun _ hk => hk.1)⟩
        have n2_ : Aside0 (Kd.R Kd.bool 4 (((((w8.setCell ⟨gb450, 0, none⟩ (.int .i64 t437)).setCell ⟨gb450, 1, none⟩ (.slice Ao10 t438.length co10)).setCell ⟨gb450, 2, none⟩ (.slice Ao11 t441.length co11)).setCell ⟨gb450, 3, none⟩ (.slice Ao12 t444.length co12)).setCell ⟨gb450, 4, none⟩ (.slice Ao13 t447.length co13)) w.heap.size (fun _ => True) (.slice Ao12 t444.length co12) t444) := ⟨by (with_reducible repeat (first | apply Kd.R_alloc | apply Kd.R_drewN | apply Kd.R_drew)); exact Kd.R_mono (Kd.R_far (p := ⟨gb450, 4, none⟩) (Kd.R_far (p := ⟨gb450, 3, none⟩) (Kd.R_far (p := ⟨gb450, 2, none⟩) (Kd.R_far (p := ⟨gb450, 1, none⟩) (Kd.R_far (p := ⟨gb450, 0, none⟩) (Kd.R_types HO446.out BK450.out (by decide)) (fun _ hk => hk.2) (.int .i64 t437)) (fun _ hk => hk.2) (.slice Ao10 t438.length co10)) (fun _ hk => hk.2) (.slice Ao11 t441.length co11)) (fun _ hk => hk.2) (.slice Ao12 t444.length co12)) (fun _ hk => hk.2) (.slice Ao13 t447.length co13)) (fun _ hk => trivial)⟩
        have n3_ : Aside0 (Kd.R k54 54 (((((w8.setCell ⟨gb450, 0, none⟩ (.int .i64 t437)).setCell ⟨gb450, 1, none⟩ (.slice Ao10 t438.length co10)).setCell ⟨gb450, 2, none⟩ (.slice Ao11 t441.length co11)).setCell ⟨gb450, 3, none⟩ (.slice Ao12 t444.length co12)).setCell ⟨gb450, 4, none⟩ (.slice Ao13 t447.length co13)) w.heap.size (fun _ => True) (.slice Ao13 t447.length co13) t447) := ⟨by (with_reducible repeat (first | apply Kd.R_alloc | apply Kd.R_drewN | apply Kd.R_drew)); exact Kd.R_mono (Kd.R_far (p := ⟨gb450, 4, none⟩) (Kd.R_far (p := ⟨gb450, 3, none⟩) (Kd.R_far (p := ⟨gb450, 2, none⟩) (Kd.R_far (p := ⟨gb450, 1, none⟩) (Kd.R_far (p := ⟨gb450, 0, none⟩) (Kd.R_types HO449.out BK450.out (by decide)) (fun _ hk => hk.2) (.int .i64 t437)) (fun _ hk => hk.2) (.slice Ao10 t438.length co10)) (fun _ hk => hk.2) (.slice Ao11 t441.length co11)) (fun _ hk => hk.2) (.slice Ao12 t444.length co12)) (fun _ hk => hk.2) (.slice Ao13 t447.length co13)) (fun _ hk => trivial)⟩
        have n4_ : Aside0 ((((((w8.setCell ⟨gb450, 0, none⟩ (.int .i64 t437)).setCell ⟨gb450, 1, none⟩ (.slice Ao10 t438.length co10)).setCell ⟨gb450, 2, none⟩ (.slice Ao11 t441.length co11)).setCell ⟨gb450, 3, none⟩ (.slice Ao12 t444.length co12)).setCell ⟨gb450, 4, none⟩ (.slice Ao13 t447.length co13)).heap[gb450]? = some (.cells #[.int .i64 t437, .slice Ao10 t438.length co10, .slice Ao11 t441.length co11, .slice Ao12 t444.length co12, .slice Ao13 t447.length co13] 28 (0, 0))) := ⟨by (with_reducible repeat (first | refine blk_drewN ?_ _ | refine blk_drew ?_ | refine blk_alloc ?_ _)); refine blk_put (cs := #[.int .i64 t437, .slice Ao10 t438.length co10, .slice Ao11 t441.length co11, .slice Ao12 t444.length co12, .slice none 0 0]) ?_ 4 _ rfl; (with_reducible repeat (first | refine blk_drewN ?_ _ | refine blk_drew ?_ | refine blk_alloc ?_ _)); refine blk_put (cs := #[.int .i64 t437, .slice Ao10 t438.length co10, .slice Ao11 t441.length co11, .slice none 0 0, .slice none 0 0]) ?_ 3 _ rfl; (with_reducible repeat (first | refine blk_drewN ?_ _ | refine blk_drew ?_ | refine blk_alloc ?_ _)); refine blk_put (cs := #[.int .i64 t437, .slice Ao10 t438.length co10, .slice none 0 0, .slice none 0 0, .slice none 0 0]) ?_ 2 _ rfl; (with_reducible repeat (first | refine blk_drewN ?_ _ | refine blk_drew ?_ | refine blk_alloc ?_ _)); refine blk_put (cs := #[.int .i64 t437, .slice none 0 0, .slice none 0 0, .slice none 0 0, .slice none 0 0]) ?_ 1 _ rfl; (with_reducible repeat (first | refine blk_drewN ?_ _ | refine blk_drew ?_ | refine blk_alloc ?_ _)); refine blk_put (cs := #[.int .i64 0, .slice none 0 0, .slice none 0 0, .slice none 0 0, .slice none 0 0]) ?_ 0 _ rfl; (with_reducible repeat (first | refine blk_drewN ?_ _ | refine blk_drew ?_ | refine blk_alloc ?_ _)); exact BK450.out⟩
        have n5_ : Aside0 (Below w.heap.size w (((((w8.setCell ⟨gb450, 0, none⟩ (.int .i64 t437)).setCell ⟨gb450, 1, none⟩ (.slice Ao10 t438.length co10)).setCell ⟨gb450, 2, none⟩ (.slice Ao11 t441.length co11)).setCell ⟨gb450, 3, none⟩ (.slice Ao12 t444.length co12)).setCell ⟨gb450, 4, none⟩ (.slice Ao13 t447.length co13))) := ⟨by repeat (first | (with_reducible first | exact HB.out | apply below_alloc | apply pw_below_drewN | apply below_drew1 | refine below_set ?_ GE450.out) | exact HB.out)⟩
        (try clear HO440)
        (try clear HO443)
        (try clear HO446)
        (try clear HO449)
        (try clear BK450)
        (try clear HB)
        generalize (((((w8.setCell ⟨gb450, 0, none⟩ (.int .i64 t437)).setCell ⟨gb450, 1, none⟩ (.slice Ao10 t438.length co10)).setCell ⟨gb450, 2, none⟩ (.slice Ao11 t441.length co11)).setCell ⟨gb450, 3, none⟩ (.slice Ao12 t444.length co12)).setCell ⟨gb450, 4, none⟩ (.slice Ao13 t447.length co13)) = w25 at n0_ n1_ n2_ n3_ n4_ n5_ ⊢
        have HO440 := n0_
        have HO443 := n1_
        have HO446 := n2_
        have HO449 := n3_
        have BK450 := n4_
        have HB := n5_
        clear n0_ n1_ n2_ n3_ n4_ n5_
        have n0_ := Aside0.mk (Kd.R_drew HO440.out)
        have n1_ := Aside0.mk (Kd.R_drew HO443.out)
        have n2_ := Aside0.mk (Kd.R_drew HO446.out)
        have n3_ := Aside0.mk (Kd.R_drew HO449.out)
        have n4_ := Aside0.mk (blk_drew BK450.out)
        have n5_ := Aside0.mk (below_drew1 HB.out)
        clear HO440
        clear HO443
        clear HO446
        clear HO449
        clear BK450
        clear HB
        have HO440 := n0_
        have HO443 := n1_
        have HO446 := n2_
        have HO449 := n3_
        have BK450 := n4_
        have HB := n5_
        clear n0_ n1_ n2_ n3_ n4_ n5_
        refine start_ (n := 11) (S := fun w' => w'.cell? ⟨gb450, 0, none⟩ = some (.int .i64 t437) ∧ w'.cell? ⟨gb450, 1, none⟩ = some (.slice Ao10 t438.length co10) ∧ w'.cell? ⟨gb450, 2, none⟩ = some (.slice Ao11 t441.length co11) ∧ w'.cell? ⟨gb450, 3, none⟩ = some (.slice Ao12 t444.length co12) ∧ w'.cell? ⟨gb450, 4, none⟩ = some (.slice Ao13 t447.length co13)) (ds := []) #[false, false, false, false, false, false, false, false, false, false, false] (by kernel_rfl) rfl rfl ⟨(blk_cell BK450.out 0).trans rfl, (blk_cell BK450.out 1).trans rfl, (blk_cell BK450.out 2).trans rfl, (blk_cell BK450.out 3).trans rfl, (blk_cell BK450.out 4).trans rfl⟩ (fun hHeld => ?_); refine with_tabW laws_FnDiskNew.tab5 laws_FnDiskNew.bits5 (fun HT_ HW_ => ?_)
        generalize w25.drew = w26 at HO440 HO443 HO446 HO449 BK450 HB hHeld ⊢
        refine pure_ (i := 1) (N := some 16) (v := ?_) (a' := ?_) #[false, true, false, false, false, false, false, false, false, false, false] rfl rfl (any_of HT_.out (by kernel_rfl)) (fun _ _ _ h => h) (Or.inl ⟨by rfl, ?_⟩) ?_ ?_
        rotate_left
        · intro w'
          go_simp
          with_reducible rfl
        rotate_left
        · simp only [Act.put, List.setIfInBounds_toArray, List.set_cons_zero, List.set_cons_succ, i64_w, i32_w]
          rfl
        refine take_ (i := 0) (N := some 15) (v := ?_) (a' := ?_) #[true, true, false, false, false, false, false, false, false, false, false] rfl rfl (take_ofW HT_.out HW_.out (by kernel_rfl)) (fun _ _ _ h => h) (Or.inl ⟨by rfl, ?_⟩) hHeld ?_ ?_
        rotate_left
        · rintro w' ⟨s0, s1, s2, s3, s4⟩
          go_simp
          with_reducible rfl
        rotate_left
        · simp only [Act.put, List.setIfInBounds_toArray, List.set_cons_zero, List.set_cons_succ, i64_w, i32_w]
          rfl
        refine one_ (i := 2) (N := some 17) #[true, true, true, false, false, false, false, false, false, false, false] rfl rfl (one_of HT_.out (by kernel_rfl)) (by decide) (fun K hK => ?_)
        refine goes_ Try.func19 (by kernel_rfl) rfl #[.int .i64 t436] (by rfl) rfl rfl (by (try simp only [List.map_toArray, List.map_cons, List.map_nil]); first | done | rfl | (simp only [List.length_drop, List.length_take]; rfl)) ?_
        with_reducible refine (spec_DiskNew.calls t436 t451 t452 t455 t458 t461 _ A14.out).mono ?_
        rintro e w27 ⟨v453, v456, v459, v462, rfl, ho0, ho1, ho2, ho3, hb⟩
        refine ⟨_, rfl, ?_⟩
        have n0_ := Aside0.mk (Kd.R_mono (Kd.R_told (Kd.R_told (Kd.R_old (by (with_reducible repeat (first | apply Kd.R_alloc | apply Kd.R_drewN | apply Kd.R_drew)); exact HO440.out) hb) (Kd.R_base ho0)) (Kd.R_base ho1)) (fun _ h_ => h_.1))
        have n1_ := Aside0.mk (Kd.R_mono (Kd.R_told (Kd.R_told (Kd.R_old (by (with_reducible repeat (first | apply Kd.R_alloc | apply Kd.R_drewN | apply Kd.R_drew)); exact HO443.out) hb) (Kd.R_base ho0)) (Kd.R_base ho1)) (fun _ h_ => h_.1))
        have n2_ := Aside0.mk (Kd.R_elder' (by (with_reducible repeat (first | apply Kd.R_alloc | apply Kd.R_drewN | apply Kd.R_drew)); exact HO446.out) (Kd.R_base ho2) hb)
        have n3_ := Aside0.mk (Kd.R_elder' (by (with_reducible repeat (first | apply Kd.R_alloc | apply Kd.R_drewN | apply Kd.R_drew)); exact HO449.out) (Kd.R_base ho3) hb)
        have n4_ := Aside0.mk (Kd.R_lower (Kd.R_new' (Kd.R_new' ho0 (Kd.R_lt (by (with_reducible repeat (first | apply Kd.R_alloc | apply Kd.R_drewN | apply Kd.R_drew)); exact HO440.out))) (Kd.R_lt (by (with_reducible repeat (first | apply Kd.R_alloc | apply Kd.R_drewN | apply Kd.R_drew)); exact HO443.out))) (below_size (by repeat (first | (with_reducible first | exact HB.out | apply below_alloc | apply pw_below_drewN | apply below_drew1 | refine below_set ?_ GE450.out) | exact HB.out))))
        have n5_ := Aside0.mk (Kd.R_lower (Kd.R_new' (Kd.R_new' ho1 (Kd.R_lt (by (with_reducible repeat (first | apply Kd.R_alloc | apply Kd.R_drewN | apply Kd.R_drew)); exact HO440.out))) (Kd.R_lt (by (with_reducible repeat (first | apply Kd.R_alloc | apply Kd.R_drewN | apply Kd.R_drew)); exact HO443.out))) (below_size (by repeat (first | (with_reducible first | exact HB.out | apply below_alloc | apply pw_below_drewN | apply below_drew1 | refine below_set ?_ GE450.out) | exact HB.out))))
        have n6_ := Aside0.mk (Kd.R_lower (Kd.R_new' ho2 (Kd.R_lt (by (with_reducible repeat (first | apply Kd.R_alloc | apply Kd.R_drewN | apply Kd.R_drew)); exact HO446.out))) (below_size (by repeat (first | (with_reducible first | exact HB.out | apply below_alloc | apply pw_below_drewN | apply below_drew1 | refine below_set ?_ GE450.out) | exact HB.out))))
        have n7_ := Aside0.mk (Kd.R_lower (Kd.R_new' ho3 (Kd.R_lt (by (with_reducible repeat (first | apply Kd.R_alloc | apply Kd.R_drewN | apply Kd.R_drew)); exact HO449.out))) (below_size (by repeat (first | (with_reducible first | exact HB.out | apply below_alloc | apply pw_below_drewN | apply below_drew1 | refine below_set ?_ GE450.out) | exact HB.out))))
        have n8_ := Aside0.mk (blk_below (g := gb450) (o := .cells #[.int .i64 t437, .slice Ao10 t438.length co10, .slice Ao11 t441.length co11, .slice Ao12 t444.length co12, .slice Ao13 t447.length co13] 28 (0, 0)) (by (with_reducible repeat (first | refine blk_drewN ?_ _ | refine blk_drew ?_ | refine blk_alloc ?_ _)); exact BK450.out) hb)
        have n9_ := Aside0.mk (below_step (by repeat (first | (with_reducible first | exact HB.out | apply below_alloc | apply pw_below_drewN | apply below_drew1 | refine below_set ?_ GE450.out) | exact HB.out)) hb)
        clear HO440
        clear HO443
        clear HO446
        clear HO449
        clear BK450
        clear HB
        have HO440 := n0_
        have HO443 := n1_
        have HO446 := n2_
        have HO449 := n3_
        have HO454 := n4_
        have HO457 := n5_
        have HO460 := n6_
        have HO463 := n7_
        have BK450 := n8_
        have HB := n9_
        clear n0_ n1_ n2_ n3_ n4_ n5_ n6_ n7_ n8_ n9_
        (try clear hb)
        (try clear hb2)
        (try clear hk)
        (try clear hi)
        (try clear ho0)
        (try clear ho1)
        (try clear ho2)
        (try clear ho3)
        obtain ⟨Ao28, co28, eo28⟩ := Kd.R_slice HO454.out
        (first | subst eo28 | (injection eo28 with f1_ f2_ f3_; have f4_ := f1_.symm; have f5_ := f3_.symm; clear f1_ f2_ f3_; subst f4_; subst f5_))
        obtain ⟨Ao29, co29, eo29⟩ := Kd.R_slice HO457.out
        (first | subst eo29 | (injection eo29 with f1_ f2_ f3_; have f4_ := f1_.symm; have f5_ := f3_.symm; clear f1_ f2_ f3_; subst f4_; subst f5_))
        obtain ⟨Ao30, co30, eo30⟩ := Kd.R_slice HO460.out
        (first | subst eo30 | (injection eo30 with f1_ f2_ f3_; have f4_ := f1_.symm; have f5_ := f3_.symm; clear f1_ f2_ f3_; subst f4_; subst f5_))
        obtain ⟨Ao31, co31, eo31⟩ := Kd.R_slice HO463.out
        (first | subst eo31 | (injection eo31 with f1_ f2_ f3_; have f4_ := f1_.symm; have f5_ := f3_.symm; clear f1_ f2_ f3_; subst f4_; subst f5_))
        refine hK.out _ _ ⟨(blk_cell BK450.out 0).trans rfl, (blk_cell BK450.out 1).trans rfl, (blk_cell BK450.out 2).trans rfl, (blk_cell BK450.out 3).trans rfl, (blk_cell BK450.out 4).trans rfl⟩ (fun hHeld => ?_)
        clear hK K
        refine norm_ (a' := ?_) ?_ ?_
        rotate_left
        · show Act.put _ (some 17) _ = _
          simp only [Act.put, List.setIfInBounds_toArray, List.set_cons_zero, List.set_cons_succ, i64_w, i32_w]
          rfl
        refine one_ (i := 3) (N := some 18) #[true, true, true, true, false, false, false, false, false, false, false] rfl rfl (one_of HT_.out (by kernel_rfl)) (by decide) (fun K hK => ?_)
        refine goes_ Try.func18 (by kernel_rfl) rfl #[.agg #[.int .i64 t437, .slice Ao10 t438.length co10, .slice Ao11 t441.length co11, .slice Ao12 t444.length co12, .slice Ao13 t447.length co13], .agg #[.int .i64 t451, .slice Ao28 t452.length co28, .slice Ao29 t455.length co29, .slice Ao30 t458.length co30, .slice Ao31 t461.length co31]] (by rfl) rfl rfl (by (try simp only [List.map_toArray, List.map_cons, List.map_nil]); first | done | rfl | (simp only [List.length_drop, List.length_take]; rfl)) ?_
        with_reducible refine (laws_lpaDisk.calls k t437 _ _ t438 _ _ t441 _ _ t444 _ _ t447 t451 _ _ t452 _ _ t455 _ _ t458 _ _ t461 false _ ?side1 ?side2 ?side3 ?side4 ?side5 ?side6 ?side7 ?side8 ?side9 ?side10 ?side11 ?side12 ?side13 ?side14 ?side15 ?side16 A15.out).mono ?_
        (case side1 => repeat (first | exact (Kd.R_reads' HO440.out).2.2 | (with_reducible refine Kd.C_alloc ?_ _) | (with_reducible refine Kd.C_drewN ?_ _) | (with_reducible refine Kd.C_drew ?_)))
        (case side2 => exact (Kd.R_reads' HO440.out).2.1)
        (case side3 => repeat (first | exact (Kd.R_reads' HO443.out).2.2 | (with_reducible refine Kd.C_alloc ?_ _) | (with_reducible refine Kd.C_drewN ?_ _) | (with_reducible refine Kd.C_drew ?_)))
        (case side4 => exact (Kd.R_reads' HO443.out).2.1)
        (case side5 => repeat (first | exact (Kd.R_reads' HO446.out).2.2 | (with_reducible refine Kd.C_alloc ?_ _) | (with_reducible refine Kd.C_drewN ?_ _) | (with_reducible refine Kd.C_drew ?_)))
        (case side6 => exact (Kd.R_reads' HO446.out).2.1)
        (case side7 => repeat (first | exact (Kd.R_reads' HO449.out).2.2 | (with_reducible refine Kd.C_alloc ?_ _) | (with_reducible refine Kd.C_drewN ?_ _) | (with_reducible refine Kd.C_drew ?_)))
        (case side8 => exact (Kd.R_reads' HO449.out).2.1)
        (case side9 => repeat (first | exact (Kd.R_reads' HO454.out).2.2 | (with_reducible refine Kd.C_alloc ?_ _) | (with_reducible refine Kd.C_drewN ?_ _) | (with_reducible refine Kd.C_drew ?_)))
        (case side10 => exact (Kd.R_reads' HO454.out).2.1)
        (case side11 => repeat (first | exact (Kd.R_reads' HO457.out).2.2 | (with_reducible refine Kd.C_alloc ?_ _) | (with_reducible refine Kd.C_drewN ?_ _) | (with_reducible refine Kd.C_drew ?_)))
        (case side12 => exact (Kd.R_reads' HO457.out).2.1)
        (case side13 => repeat (first | exact (Kd.R_reads' HO460.out).2.2 | (with_reducible refine Kd.C_alloc ?_ _) | (with_reducible refine Kd.C_drewN ?_ _) | (with_reducible refine Kd.C_drew ?_)))
        (case side14 => exact (Kd.R_reads' HO460.out).2.1)
        (case side15 => repeat (first | exact (Kd.R_reads' HO463.out).2.2 | (with_reducible refine Kd.C_alloc ?_ _) | (with_reducible refine Kd.C_drewN ?_ _) | (with_reducible refine Kd.C_drew ?_)))
        (case side16 => exact (Kd.R_reads' HO463.out).2.1)
        rintro e w32 ⟨rfl, hb⟩
        refine ⟨_, rfl, ?_⟩
        have n0_ := Aside0.mk (Kd.R_below (by (with_reducible repeat (first | apply Kd.R_alloc | apply Kd.R_drewN | apply Kd.R_drew)); exact HO440.out) hb)
        have n1_ := Aside0.mk (Kd.R_below (by (with_reducible repeat (first | apply Kd.R_alloc | apply Kd.R_drewN | apply Kd.R_drew)); exact HO443.out) hb)
        have n2_ := Aside0.mk (Kd.R_below (by (with_reducible repeat (first | apply Kd.R_alloc | apply Kd.R_drewN | apply Kd.R_drew)); exact HO446.out) hb)
        have n3_ := Aside0.mk (Kd.R_below (by (with_reducible repeat (first | apply Kd.R_alloc | apply Kd.R_drewN | apply Kd.R_drew)); exact HO449.out) hb)
        have n4_ := Aside0.mk (Kd.R_below (by (with_reducible repeat (first | apply Kd.R_alloc | apply Kd.R_drewN | apply Kd.R_drew)); exact HO454.out) hb)
        have n5_ := Aside0.mk (Kd.R_below (by (with_reducible repeat (first | apply Kd.R_alloc | apply Kd.R_drewN | apply Kd.R_drew)); exact HO457.out) hb)
        have n6_ := Aside0.mk (Kd.R_below (by (with_reducible repeat (first | apply Kd.R_alloc | apply Kd.R_drewN | apply Kd.R_drew)); exact HO460.out) hb)
        have n7_ := Aside0.mk (Kd.R_below (by (with_reducible repeat (first | apply Kd.R_alloc | apply Kd.R_drewN | apply Kd.R_drew)); exact HO463.out) hb)
        have n8_ := Aside0.mk (blk_below (g := gb450) (o := .cells #[.int .i64 t437, .slice Ao10 t438.length co10, .slice Ao11 t441.length co11, .slice Ao12 t444.length co12, .slice Ao13 t447.length co13] 28 (0, 0)) (by (with_reducible repeat (first | refine blk_drewN ?_ _ | refine blk_drew ?_ | refine blk_alloc ?_ _)); exact BK450.out) hb)
        have n9_ := Aside0.mk (below_step (by repeat (first | (with_reducible first | exact HB.out | apply below_alloc | apply pw_below_drewN | apply below_drew1 | refine below_set ?_ GE450.out) | exact HB.out)) hb)
        clear HO440
        clear HO443
        clear HO446
        clear HO449
        clear HO454
        clear HO457
        clear HO460
        clear HO463
        clear BK450
        clear HB
        have HO440 := n0_
        have HO443 := n1_
        have HO446 := n2_
        have HO449 := n3_
        have HO454 := n4_
        have HO457 := n5_
        have HO460 := n6_
        have HO463 := n7_
        have BK450 := n8_
        have HB := n9_
        clear n0_ n1_ n2_ n3_ n4_ n5_ n6_ n7_ n8_ n9_
        (try clear hb)
        (try clear hb2)
        (try clear hk)
        (try clear hi)
        refine hK.out _ _ ⟨(blk_cell BK450.out 0).trans rfl, (blk_cell BK450.out 1).trans rfl, (blk_cell BK450.out 2).trans rfl, (blk_cell BK450.out 3).trans rfl, (blk_cell BK450.out 4).trans rfl⟩ (fun hHeld => ?_)
        clear hK K
        refine norm_ (a' := ?_) ?_ ?_
        rotate_left
        · show Act.put _ (some 18) _ = _
          simp only [Act.put, List.setIfInBounds_toArray, List.set_cons_zero, List.set_cons_succ, i64_w, i32_w]
          rfl
        refine pure_ (i := 4) (N := some 19) (v := ?_) (a' := ?_) #[true, true, true, true, true, false, false, false, false, false, false] rfl rfl (any_of HT_.out (by kernel_rfl)) (fun _ _ _ h => h) (Or.inl ⟨by rfl, ?_⟩) ?_ ?_
        rotate_left
        · intro w'
          go_simp
          with_reducible rfl
        rotate_left
        · simp only [Act.put, List.setIfInBounds_toArray, List.set_cons_zero, List.set_cons_succ, i64_w, i32_w]
          rfl
        refine pure_ (i := 5) (N := some 20) (v := ?_) (a' := ?_) #[true, true, true, true, true, true, false, false, false, false, false] rfl rfl (any_of HT_.out (by kernel_rfl)) (fun _ _ _ h => h) (Or.inl ⟨by rfl, ?_⟩) ?_ ?_
        rotate_left
        · intro w'
          go_simp
          with_reducible rfl
        rotate_left
        · simp only [Act.put, List.setIfInBounds_toArray, List.set_cons_zero, List.set_cons_succ, i64_w, i32_w]
          rfl
        refine pure_ (i := 6) (N := some 21) (v := undef) (a' := ?_) #[true, true, true, true, true, true, true, false, false, false, false] rfl rfl (any_of HT_.out (by kernel_rfl)) (fun _ _ _ h => h) (Or.inr ⟨by rfl, rfl⟩) ?_ ?_
        rotate_left
        · simp only [Act.put, List.setIfInBounds_toArray, List.set_cons_zero, List.set_cons_succ, i64_w, i32_w]
          rfl
        refine pure_ (i := 7) (N := some 22) (v := undef) (a' := ?_) #[true, true, true, true, true, true, true, true, false, false, false] rfl rfl (any_of HT_.out (by kernel_rfl)) (fun _ _ _ h => h) (Or.inr ⟨by rfl, rfl⟩) ?_ ?_
        rotate_left
        · simp only [Act.put, List.setIfInBounds_toArray, List.set_cons_zero, List.set_cons_succ, i64_w, i32_w]
          rfl
        refine pure_ (i := 8) (N := some 23) (v := undef) (a' := ?_) #[true, true, true, true, true, true, true, true, true, false, false] rfl rfl (any_of HT_.out (by kernel_rfl)) (fun _ _ _ h => h) (Or.inr ⟨by rfl, rfl⟩) ?_ ?_
        rotate_left
        · simp only [Act.put, List.setIfInBounds_toArray, List.set_cons_zero, List.set_cons_succ, i64_w, i32_w]
          rfl
        refine pure_ (i := 9) (N := some 24) (v := undef) (a' := ?_) #[true, true, true, true, true, true, true, true, true, true, false] rfl rfl (any_of HT_.out (by kernel_rfl)) (fun _ _ _ h => h) (Or.inr ⟨by rfl, rfl⟩) ?_ ?_
        rotate_left
        · simp only [Act.put, List.setIfInBounds_toArray, List.set_cons_zero, List.set_cons_succ, i64_w, i32_w]
          rfl
        refine pure_ (i := 10) (N := some 25) (v := ?_) (a' := ?_) #[true, true, true, true, true, true, true, true, true, true, true] rfl rfl (any_of HT_.out (by kernel_rfl)) (fun _ _ _ h => h) (Or.inl ⟨by rfl, ?_⟩) ?_ ?_
        rotate_left
        · intro w'
          go_simp
          with_reducible rfl
        rotate_left
        · simp only [Act.put, List.setIfInBounds_toArray, List.set_cons_zero, List.set_cons_succ, i64_w, i32_w]
          rfl
        refine done_ (done_of HT_.out (by kernel_rfl)) ?_
        try go_wp2
        go_meet
        case rel => exact ⟨_, (true), (by first | rfl | (simp; done) | (simp [*]; done)), H', ⟨by first | omega | exact Nat.le_refl _⟩, ⟨by (with_reducible repeat (first | apply Kd.R_alloc | apply Kd.R_drewN | apply Kd.R_drew)); exact Kd.R_mono HO440.out (fun _ hk => hk.1.1)⟩, ⟨by (with_reducible repeat (first | apply Kd.R_alloc | apply Kd.R_drewN | apply Kd.R_drew)); exact Kd.R_mono HO443.out (fun _ hk => hk.1.1)⟩, ⟨by (with_reducible repeat (first | apply Kd.R_alloc | apply Kd.R_drewN | apply Kd.R_drew)); exact Kd.R_mono HO446.out (fun _ hk => trivial)⟩, ⟨by (with_reducible repeat (first | apply Kd.R_alloc | apply Kd.R_drewN | apply Kd.R_drew)); exact Kd.R_mono HO449.out (fun _ hk => trivial)⟩, ⟨by (with_reducible repeat (first | refine blk_drewN ?_ _ | refine blk_drew ?_ | refine blk_alloc ?_ _)); exact BK450.out⟩, ⟨by repeat (first | (with_reducible first | exact HB.out | apply below_alloc | apply pw_below_drewN | apply below_drew1 | refine below_set ?_ GE450.out) | exact HB.out)⟩⟩
    case rest =>
      clear HC5
      try clear c1
      try clear c2
      try clear c2b0
      try clear c2b1
      try clear p2
      try clear c3
      try clear c16
      try clear c17
      try clear c18
      try clear c19
      try clear hcz9_0
      try clear hcz9_1
      try clear hcz9_2
      try clear hcz9_3
      try clear hcz9_4
      try clear hfz9_0
      try clear hfz9_1
      try clear hfz9_2
      try clear hfz9_3
      try clear hfz9_4
      obtain ⟨kq, x25_4, rfl, HA, HJ4, HO_451001, HO_451002, HO_451003, HO_451004, BK450, HB⟩ := hcut
      cases kq with
      | zero => exact absurd HA.out (by simp [laws_FnDiskNew.j0])
      | succ kj4 =>
        have H := HA.out
        clear HA
        simp only [laws_FnDiskNew.j0] at H
        by_cases c33 : x25_4 = true
        · subst c33
          have H1 : ((spec_DiskNew.f t436).bind fun bt465 => ((laws_lpaDisk.f kj4 t437 t438 t441 t444 t447 bt465.1 bt465.2.1 bt465.2.2.1 bt465.2.2.2.1 bt465.2.2.2.2).bind fun t478 => (some t478))) = some r := by rw [if_pos rfl] at H; exact H
          clear H
          have H := H1
          clear H1
          replace H := Option.bind_eq_some_iff.mp H
          obtain ⟨⟨t465, t466, t469, t472, t475⟩, A340, H⟩ := H
          replace H : ((laws_lpaDisk.f kj4 t437 t438 t441 t444 t447 t465 t466 t469 t472 t475).bind fun t478 => (some t478)) = some r := H
          have A34 := Aside0.mk A340
          clear A340
          replace H := Option.bind_eq_some_iff.mp H
          obtain ⟨t478, A350, H⟩ := H
          replace H : (some t478) = some r := H
          have A35 := Aside0.mk A350
          clear A350
          obtain rfl := Option.some.inj H
          try go_wp2
          have n0_ := Aside0.mk (Kd.R_drew HO_451001.out)
          have n1_ := Aside0.mk (Kd.R_drew HO_451002.out)
          have n2_ := Aside0.mk (Kd.R_drew HO_451003.out)
          have n3_ := Aside0.mk (Kd.R_drew HO_451004.out)
          have n4_ := Aside0.mk (blk_drew BK450.out)
          have n5_ := Aside0.mk (below_drew1 HB.out)
          clear HO_451001
          clear HO_451002
          clear HO_451003
          clear HO_451004
          clear BK450
          clear HB
          have HO_451001 := n0_
          have HO_451002 := n1_
          have HO_451003 := n2_
          have HO_451004 := n3_
          have BK450 := n4_
          have HB := n5_
          clear n0_ n1_ n2_ n3_ n4_ n5_
          refine start_ (n := 5) (S := fun w' => w'.cell? ⟨gb450, 0, none⟩ = some (.int .i64 t437) ∧ w'.cell? ⟨gb450, 1, none⟩ = some (.slice Ao10 t438.length co10) ∧ w'.cell? ⟨gb450, 2, none⟩ = some (.slice Ao11 t441.length co11) ∧ w'.cell? ⟨gb450, 3, none⟩ = some (.slice Ao12 t444.length co12) ∧ w'.cell? ⟨gb450, 4, none⟩ = some (.slice Ao13 t447.length co13)) (ds := []) #[false, false, false, false, false] (by kernel_rfl) rfl rfl ⟨(blk_cell BK450.out 0).trans rfl, (blk_cell BK450.out 1).trans rfl, (blk_cell BK450.out 2).trans rfl, (blk_cell BK450.out 3).trans rfl, (blk_cell BK450.out 4).trans rfl⟩ (fun hHeld => ?_)
          generalize wc.drew = w36 at HO_451001 HO_451002 HO_451003 HO_451004 BK450 HB hHeld ⊢
          refine pure_ (i := 1) (N := some 27) (v := ?_) (a' := ?_) #[false, true, false, false, false] rfl rfl (by kernel_rfl) (fun _ _ _ h => h) (Or.inl ⟨by rfl, ?_⟩) ?_ ?_
          rotate_left
          · intro w'
            go_simp
            with_reducible rfl
          rotate_left
          · simp only [Act.put, List.setIfInBounds_toArray, List.set_cons_zero, List.set_cons_succ, i64_w, i32_w]
            rfl
          refine take_ (i := 0) (N := some 26) (v := ?_) (a' := ?_) #[true, true, false, false, false] rfl rfl (by kernel_rfl) (fun _ _ _ h => h) (Or.inl ⟨by rfl, ?_⟩) hHeld ?_ ?_
          rotate_left
          · rintro w' ⟨s0, s1, s2, s3, s4⟩
            go_simp
            with_reducible rfl
          rotate_left
          · simp only [Act.put, List.setIfInBounds_toArray, List.set_cons_zero, List.set_cons_succ, i64_w, i32_w]
            rfl
          refine one_ (i := 2) (N := some 28) #[true, true, true, false, false] rfl rfl (by kernel_rfl) (by decide) (fun K hK => ?_)
          refine goes_ Try.func19 (by kernel_rfl) rfl #[.int .i64 t436] (by rfl) rfl rfl (by (try simp only [List.map_toArray, List.map_cons, List.map_nil]); first | done | rfl | (simp only [List.length_drop, List.length_take]; rfl)) ?_
          with_reducible refine (spec_DiskNew.calls t436 t465 t466 t469 t472 t475 _ A34.out).mono ?_
          rintro e w37 ⟨v467, v470, v473, v476, rfl, ho0, ho1, ho2, ho3, hb⟩
          refine ⟨_, rfl, ?_⟩
          have n0_ := Aside0.mk (Kd.R_mono (Kd.R_told (Kd.R_told (Kd.R_old (by (with_reducible repeat (first | apply Kd.R_alloc | apply Kd.R_drewN | apply Kd.R_drew)); exact HO_451001.out) hb) (Kd.R_base ho0)) (Kd.R_base ho1)) (fun _ h_ => h_.1))
          have n1_ := Aside0.mk (Kd.R_mono (Kd.R_told (Kd.R_told (Kd.R_old (by (with_reducible repeat (first | apply Kd.R_alloc | apply Kd.R_drewN | apply Kd.R_drew)); exact HO_451002.out) hb) (Kd.R_base ho0)) (Kd.R_base ho1)) (fun _ h_ => h_.1))
          have n2_ := Aside0.mk (Kd.R_elder' (by (with_reducible repeat (first | apply Kd.R_alloc | apply Kd.R_drewN | apply Kd.R_drew)); exact HO_451003.out) (Kd.R_base ho2) hb)
          have n3_ := Aside0.mk (Kd.R_elder' (by (with_reducible repeat (first | apply Kd.R_alloc | apply Kd.R_drewN | apply Kd.R_drew)); exact HO_451004.out) (Kd.R_base ho3) hb)
          have n4_ := Aside0.mk (Kd.R_lower (Kd.R_new' (Kd.R_new' ho0 (Kd.R_lt (by (with_reducible repeat (first | apply Kd.R_alloc | apply Kd.R_drewN | apply Kd.R_drew)); exact HO_451001.out))) (Kd.R_lt (by (with_reducible repeat (first | apply Kd.R_alloc | apply Kd.R_drewN | apply Kd.R_drew)); exact HO_451002.out))) (below_size (by repeat (first | (with_reducible first | exact HB.out | apply below_alloc | apply pw_below_drewN | apply below_drew1 | refine below_set ?_ GE450.out) | exact HB.out))))
          have n5_ := Aside0.mk (Kd.R_lower (Kd.R_new' (Kd.R_new' ho1 (Kd.R_lt (by (with_reducible repeat (first | apply Kd.R_alloc | apply Kd.R_drewN | apply Kd.R_drew)); exact HO_451001.out))) (Kd.R_lt (by (with_reducible repeat (first | apply Kd.R_alloc | apply Kd.R_drewN | apply Kd.R_drew)); exact HO_451002.out))) (below_size (by repeat (first | (with_reducible first | exact HB.out | apply below_alloc | apply pw_below_drewN | apply below_drew1 | refine below_set ?_ GE450.out) | exact HB.out))))
          have n6_ := Aside0.mk (Kd.R_lower (Kd.R_new' ho2 (Kd.R_lt (by (with_reducible repeat (first | apply Kd.R_alloc | apply Kd.R_drewN | apply Kd.R_drew)); exact HO_451003.out))) (below_size (by repeat (first | (with_reducible first | exact HB.out | apply below_alloc | apply pw_below_drewN | apply below_drew1 | refine below_set ?_ GE450.out) | exact HB.out))))
          have n7_ := Aside0.mk (Kd.R_lower (Kd.R_new' ho3 (Kd.R_lt (by (with_reducible repeat (first | apply Kd.R_alloc | apply Kd.R_drewN | apply Kd.R_drew)); exact HO_451004.out))) (below_size (by repeat (first | (with_reducible first | exact HB.out | apply below_alloc | apply pw_below_drewN | apply below_drew1 | refine below_set ?_ GE450.out) | exact HB.out))))
          have n8_ := Aside0.mk (blk_below (g := gb450) (o := .cells #[.int .i64 t437, .slice Ao10 t438.length co10, .slice Ao11 t441.length co11, .slice Ao12 t444.length co12, .slice Ao13 t447.length co13] 28 (0, 0)) (by (with_reducible repeat (first | refine blk_drewN ?_ _ | refine blk_drew ?_ | refine blk_alloc ?_ _)); exact BK450.out) hb)
          have n9_ := Aside0.mk (below_step (by repeat (first | (with_reducible first | exact HB.out | apply below_alloc | apply pw_below_drewN | apply below_drew1 | refine below_set ?_ GE450.out) | exact HB.out)) hb)
          clear HO_451001
          clear HO_451002
          clear HO_451003
          clear HO_451004
          clear BK450
          clear HB
          have HO_451001 := n0_
          have HO_451002 := n1_
          have HO_451003 := n2_
          have HO_451004 := n3_
          have HO468 := n4_
          have HO471 := n5_
          have HO474 := n6_
          have HO477 := n7_
          have BK450 := n8_
          have HB := n9_
          clear n0_ n1_ n2_ n3_ n4_ n5_ n6_ n7_ n8_ n9_
          (try clear hb)
          (try clear hb2)
          (try clear hk)
          (try clear hi)
          (try clear ho0)
          (try clear ho1)
          (try clear ho2)
          (try clear ho3)
          obtain ⟨Ao38, co38, eo38⟩ := Kd.R_slice HO468.out
          (first | subst eo38 | (injection eo38 with f1_ f2_ f3_; have f4_ := f1_.symm; have f5_ := f3_.symm; clear f1_ f2_ f3_; subst f4_; subst f5_))
          obtain ⟨Ao39, co39, eo39⟩ := Kd.R_slice HO471.out
          (first | subst eo39 | (injection eo39 with f1_ f2_ f3_; have f4_ := f1_.symm; have f5_ := f3_.symm; clear f1_ f2_ f3_; subst f4_; subst f5_))
          obtain ⟨Ao40, co40, eo40⟩ := Kd.R_slice HO474.out
          (first | subst eo40 | (injection eo40 with f1_ f2_ f3_; have f4_ := f1_.symm; have f5_ := f3_.symm; clear f1_ f2_ f3_; subst f4_; subst f5_))
          obtain ⟨Ao41, co41, eo41⟩ := Kd.R_slice HO477.out
          (first | subst eo41 | (injection eo41 with f1_ f2_ f3_; have f4_ := f1_.symm; have f5_ := f3_.symm; clear f1_ f2_ f3_; subst f4_; subst f5_))
          refine hK.out _ _ ⟨(blk_cell BK450.out 0).trans rfl, (blk_cell BK450.out 1).trans rfl, (blk_cell BK450.out 2).trans rfl, (blk_cell BK450.out 3).trans rfl, (blk_cell BK450.out 4).trans rfl⟩ (fun hHeld => ?_)
          clear hK K
          refine norm_ (a' := ?_) ?_ ?_
          rotate_left
          · show Act.put _ (some 28) _ = _
            simp only [Act.put, List.setIfInBounds_toArray, List.set_cons_zero, List.set_cons_succ, i64_w, i32_w]
            rfl
          refine one_ (i := 3) (N := some 29) #[true, true, true, true, false] rfl rfl (by kernel_rfl) (by decide) (fun K hK => ?_)
          refine goes_ Try.func18 (by kernel_rfl) rfl #[.agg #[.int .i64 t437, .slice Ao10 t438.length co10, .slice Ao11 t441.length co11, .slice Ao12 t444.length co12, .slice Ao13 t447.length co13], .agg #[.int .i64 t465, .slice Ao38 t466.length co38, .slice Ao39 t469.length co39, .slice Ao40 t472.length co40, .slice Ao41 t475.length co41]] (by rfl) rfl rfl (by (try simp only [List.map_toArray, List.map_cons, List.map_nil]); first | done | rfl | (simp only [List.length_drop, List.length_take]; rfl)) ?_
          with_reducible refine (laws_lpaDisk.calls kj4 t437 _ _ t438 _ _ t441 _ _ t444 _ _ t447 t465 _ _ t466 _ _ t469 _ _ t472 _ _ t475 t478 _ ?side1 ?side2 ?side3 ?side4 ?side5 ?side6 ?side7 ?side8 ?side9 ?side10 ?side11 ?side12 ?side13 ?side14 ?side15 ?side16 A35.out).mono ?_
          (case side1 => repeat (first | exact (Kd.R_reads' HO_451001.out).2.2 | (with_reducible refine Kd.C_alloc ?_ _) | (with_reducible refine Kd.C_drewN ?_ _) | (with_reducible refine Kd.C_drew ?_)))
          (case side2 => exact (Kd.R_reads' HO_451001.out).2.1)
          (case side3 => repeat (first | exact (Kd.R_reads' HO_451002.out).2.2 | (with_reducible refine Kd.C_alloc ?_ _) | (with_reducible refine Kd.C_drewN ?_ _) | (with_reducible refine Kd.C_drew ?_)))
          (case side4 => exact (Kd.R_reads' HO_451002.out).2.1)
          (case side5 => repeat (first | exact (Kd.R_reads' HO_451003.out).2.2 | (with_reducible refine Kd.C_alloc ?_ _) | (with_reducible refine Kd.C_drewN ?_ _) | (with_reducible refine Kd.C_drew ?_)))
          (case side6 => exact (Kd.R_reads' HO_451003.out).2.1)
          (case side7 => repeat (first | exact (Kd.R_reads' HO_451004.out).2.2 | (with_reducible refine Kd.C_alloc ?_ _) | (with_reducible refine Kd.C_drewN ?_ _) | (with_reducible refine Kd.C_drew ?_)))
          (case side8 => exact (Kd.R_reads' HO_451004.out).2.1)
          (case side9 => repeat (first | exact (Kd.R_reads' HO468.out).2.2 | (with_reducible refine Kd.C_alloc ?_ _) | (with_reducible refine Kd.C_drewN ?_ _) | (with_reducible refine Kd.C_drew ?_)))
          (case side10 => exact (Kd.R_reads' HO468.out).2.1)
          (case side11 => repeat (first | exact (Kd.R_reads' HO471.out).2.2 | (with_reducible refine Kd.C_alloc ?_ _) | (with_reducible refine Kd.C_drewN ?_ _) | (with_reducible refine Kd.C_drew ?_)))
          (case side12 => exact (Kd.R_reads' HO471.out).2.1)
          (case side13 => repeat (first | exact (Kd.R_reads' HO474.out).2.2 | (with_reducible refine Kd.C_alloc ?_ _) | (with_reducible refine Kd.C_drewN ?_ _) | (with_reducible refine Kd.C_drew ?_)))
          (case side14 => exact (Kd.R_reads' HO474.out).2.1)
          (case side15 => repeat (first | exact (Kd.R_reads' HO477.out).2.2 | (with_reducible refine Kd.C_alloc ?_ _) | (with_reducible refine Kd.C_drewN ?_ _) | (with_reducible refine Kd.C_drew ?_)))
          (case side16 => exact (Kd.R_reads' HO477.out).2.1)
          rintro e w42 ⟨rfl, hb⟩
          refine ⟨_, rfl, ?_⟩
          have n0_ := Aside0.mk (Kd.R_below (by (with_reducible repeat (first | apply Kd.R_alloc | apply Kd.R_drewN | apply Kd.R_drew)); exact HO_451001.out) hb)
          have n1_ := Aside0.mk (Kd.R_below (by (with_reducible repeat (first | apply Kd.R_alloc | apply Kd.R_drewN | apply Kd.R_drew)); exact HO_451002.out) hb)
          have n2_ := Aside0.mk (Kd.R_below (by (with_reducible repeat (first | apply Kd.R_alloc | apply Kd.R_drewN | apply Kd.R_drew)); exact HO_451003.out) hb)
          have n3_ := Aside0.mk (Kd.R_below (by (with_reducible repeat (first | apply Kd.R_alloc | apply Kd.R_drewN | apply Kd.R_drew)); exact HO_451004.out) hb)
          have n4_ := Aside0.mk (Kd.R_below (by (with_reducible repeat (first | apply Kd.R_alloc | apply Kd.R_drewN | apply Kd.R_drew)); exact HO468.out) hb)
          have n5_ := Aside0.mk (Kd.R_below (by (with_reducible repeat (first | apply Kd.R_alloc | apply Kd.R_drewN | apply Kd.R_drew)); exact HO471.out) hb)
          have n6_ := Aside0.mk (Kd.R_below (by (with_reducible repeat (first | apply Kd.R_alloc | apply Kd.R_drewN | apply Kd.R_drew)); exact HO474.out) hb)
          have n7_ := Aside0.mk (Kd.R_below (by (with_reducible repeat (first | apply Kd.R_alloc | apply Kd.R_drewN | apply Kd.R_drew)); exact HO477.out) hb)
          have n8_ := Aside0.mk (blk_below (g := gb450) (o := .cells #[.int .i64 t437, .slice Ao10 t438.length co10, .slice Ao11 t441.length co11, .slice Ao12 t444.length co12, .slice Ao13 t447.length co13] 28 (0, 0)) (by (with_reducible repeat (first | refine blk_drewN ?_ _ | refine blk_drew ?_ | refine blk_alloc ?_ _)); exact BK450.out) hb)
          have n9_ := Aside0.mk (below_step (by repeat (first | (with_reducible first | exact HB.out | apply below_alloc | apply pw_below_drewN | apply below_drew1 | refine below_set ?_ GE450.out) | exact HB.out)) hb)
          clear HO_451001
          clear HO_451002
          clear HO_451003
          clear HO_451004
          clear HO468
          clear HO471
          clear HO474
          clear HO477
          clear BK450
          clear HB
          have HO_451001 := n0_
          have HO_451002 := n1_
          have HO_451003 := n2_
          have HO_451004 := n3_
          have HO468 := n4_
          have HO471 := n5_
          have HO474 := n6_
          have HO477 := n7_
          have BK450 := n8_
          have HB := n9_
          clear n0_ n1_ n2_ n3_ n4_ n5_ n6_ n7_ n8_ n9_
          (try clear hb)
          (try clear hb2)
          (try clear hk)
          (try clear hi)
          refine hK.out _ _ ⟨(blk_cell BK450.out 0).trans rfl, (blk_cell BK450.out 1).trans rfl, (blk_cell BK450.out 2).trans rfl, (blk_cell BK450.out 3).trans rfl, (blk_cell BK450.out 4).trans rfl⟩ (fun hHeld => ?_)
          clear hK K
          refine norm_ (a' := ?_) ?_ ?_
          rotate_left
          · show Act.put _ (some 29) _ = _
            simp only [Act.put, List.setIfInBounds_toArray, List.set_cons_zero, List.set_cons_succ, i64_w, i32_w]
            rfl
          refine pure_ (i := 4) (N := some 2) (v := ?_) (a' := ?_) #[true, true, true, true, true] rfl rfl (by kernel_rfl) (fun _ _ _ h => h) (Or.inl ⟨by rfl, ?_⟩) ?_ ?_
          rotate_left
          · intro w'
            go_simp
            with_reducible rfl
          rotate_left
          · simp only [Act.put, List.setIfInBounds_toArray, List.set_cons_zero, List.set_cons_succ, i64_w, i32_w]
            rfl
          refine done_ (by kernel_rfl) ?_
          try go_wp2
          go_ret
          exact ⟨by first | rfl | (simp [errW_none, errW_some] <;> rfl) | (simp [*, errW_none, errW_some] <;> rfl), by repeat (first | (with_reducible first | exact HB.out | apply below_alloc | apply pw_below_drewN | apply below_drew1 | refine below_set ?_ GE450.out) | exact HB.out)⟩
        · replace c33 := Bool.eq_false_iff.mpr c33
          subst c33
          have H1 : (laws_FnDiskNew.l0 kj4 t436 0 t437 t438 t441 t444 t447) = some r := by rw [if_neg (show ¬ (false = true) by decide)] at H; exact H
          clear H
          have H := H1
          clear H1
          have H' := Aside0.mk H
          clear H
          go_wp2
          go_loopg [5] kj4 (fun kq v5 w' => ∃ (x5_2 : Int), v5 = .int .i64 x5_2 ∧ Aside0 (laws_FnDiskNew.l0 kq t436 x5_2 t437 t438 t441 t444 t447 = some r) ∧ Aside0 (kq ≤ kj4) ∧ Aside0 (Kd.R Kd.string 9 w' w.heap.size (fun k_ => some k_ ≠ ((.slice Ao11 t441.length co11) : Value).ownBlock) (.slice Ao10 t438.length co10) t438) ∧ Aside0 (Kd.R Kd.string 9 w' w.heap.size (fun k_ => some k_ ≠ ((.slice Ao10 t438.length co10) : Value).ownBlock) (.slice Ao11 t441.length co11) t441) ∧ Aside0 (Kd.R Kd.bool 4 w' w.heap.size (fun _ => True) (.slice Ao12 t444.length co12) t444) ∧ Aside0 (Kd.R k54 54 w' w.heap.size (fun _ => True) (.slice Ao13 t447.length co13) t447) ∧ Aside0 (w'.heap[gb450]? = some (.cells #[.int .i64 t437, (.slice Ao10 t438.length co10), (.slice Ao11 t441.length co11), (.slice Ao12 t444.length co12), (.slice Ao13 t447.length co13)] 28 (0, 0))) ∧ Aside0 (Below w.heap.size w w'))
          case atStart => exact ⟨(0), (by first | rfl | (simp; done) | (simp [*]; done)), H', ⟨Nat.le_refl _⟩, ⟨by (with_reducible repeat (first | apply Kd.R_alloc | apply Kd.R_drewN | apply Kd.R_drew)); exact HO_451001.out⟩, ⟨by (with_reducible repeat (first | apply Kd.R_alloc | apply Kd.R_drewN | apply Kd.R_drew)); exact HO_451002.out⟩, ⟨by (with_reducible repeat (first | apply Kd.R_alloc | apply Kd.R_drewN | apply Kd.R_drew)); exact HO_451003.out⟩, ⟨by (with_reducible repeat (first | apply Kd.R_alloc | apply Kd.R_drewN | apply Kd.R_drew)); exact HO_451004.out⟩, ⟨by (with_reducible repeat (first | refine blk_drewN ?_ _ | refine blk_drew ?_ | refine blk_alloc ?_ _)); exact BK450.out⟩, ⟨by repeat (first | (with_reducible first | exact HB.out | apply below_alloc | apply pw_below_drewN | apply below_drew1 | refine below_set ?_ GE450.out) | exact HB.out)⟩⟩
          case round =>
            clear H'
            try clear c1
            try clear c2
            try clear c2b0
            try clear c2b1
            try clear p2
            try clear c3
            try clear c16
            try clear c17
            try clear c18
            try clear c19
            try clear c33
            try clear hcz9_0
            try clear hcz9_1
            try clear hcz9_2
            try clear hcz9_3
            try clear hcz9_4
            try clear hfz9_0
            try clear hfz9_1
            try clear hfz9_2
            try clear hfz9_3
            try clear hfz9_4
            try clear p2
            obtain ⟨x5_2, rfl, HA, HK2, HO_451001, HO_451002, HO_451003, HO_451004, BK450, HB⟩ := hrel
            cases gk with
            | zero => exact absurd HA.out (by simp [laws_FnDiskNew.l0])
            | succ k2 =>
              have H := HA.out
              clear HA
              simp only [laws_FnDiskNew.l0] at H
              by_cases c43 : x5_2 < 12
              · rw [if_pos c43] at H
                have c43b0 : decide (x5_2 < 12) = true := decide_eq_true c43
                clear c43
                replace H := Option.bind_eq_some_iff.mp H
                obtain ⟨⟨t479, t480⟩, A440, H⟩ := H
                replace H : (if t480 = true then (some false) else (laws_FnDiskNew.l0 k2 t436 (wrap64 (x5_2 + 1)) t437 t438 t441 t444 t447)) = some r := H
                have A44 := Aside0.mk A440
                clear A440
                by_cases c45 : t480 = true
                · subst c45
                  have H1 : (some false) = some r := by rw [if_pos rfl] at H; exact H
                  clear H
                  have H := H1
                  clear H1
                  obtain rfl := Option.some.inj H
                  have hcz46_0 : wr.cell? ⟨gb450, 0, none⟩ = some (.int .i64 t437) := (blk_cell BK450.out 0).trans rfl
                  have hcz46_1 : wr.cell? ⟨gb450, 1, none⟩ = some (.slice Ao10 t438.length co10) := (blk_cell BK450.out 1).trans rfl
                  have hcz46_2 : wr.cell? ⟨gb450, 2, none⟩ = some (.slice Ao11 t441.length co11) := (blk_cell BK450.out 2).trans rfl
                  have hcz46_3 : wr.cell? ⟨gb450, 3, none⟩ = some (.slice Ao12 t444.length co12) := (blk_cell BK450.out 3).trans rfl
                  have hcz46_4 : wr.cell? ⟨gb450, 4, none⟩ = some (.slice Ao13 t447.length co13) := (blk_cell BK450.out 4).trans rfl
                  have hfz46_0 := blk_frozen BK450.out 0
                  have hfz46_1 := blk_frozen BK450.out 1
                  have hfz46_2 := blk_frozen BK450.out 2
                  have hfz46_3 := blk_frozen BK450.out 3
                  have hfz46_4 := blk_frozen BK450.out 4
                  go_wp2_with (first | ((with_reducible refine gate_callee (f := 20) rfl ?_); refine goesL_ (some 37) rfl rfl Try.func20 (by kernel_rfl) rfl #[.agg #[.int .i64 t437, .slice Ao10 t438.length co10, .slice Ao11 t441.length co11, .slice Ao12 t444.length co12, .slice Ao13 t447.length co13], .int .i64 x5_2] rfl (by (try simp only [List.map_toArray, List.map_cons, List.map_nil]); first | done | rfl | (simp only [List.length_drop, List.length_take]; rfl)) ?_; (with_reducible refine (impl_DiskRead.calls t437 _ _ t438 _ _ t441 _ _ t444 _ _ t447 x5_2 t479 true _ ?side1 ?side2 ?side3 ?side4 ?side5 ?side6 ?side7 ?side8 A44.out).mono ?_); (case side1 => repeat (first | exact (Kd.R_reads' HO_451001.out).2.2 | (with_reducible refine Kd.C_alloc ?_ _) | (with_reducible refine Kd.C_drewN ?_ _) | (with_reducible refine Kd.C_drew ?_))); (case side2 => exact (Kd.R_reads' HO_451001.out).2.1); (case side3 => repeat (first | exact (Kd.R_reads' HO_451002.out).2.2 | (with_reducible refine Kd.C_alloc ?_ _) | (with_reducible refine Kd.C_drewN ?_ _) | (with_reducible refine Kd.C_drew ?_))); (case side4 => exact (Kd.R_reads' HO_451002.out).2.1); (case side5 => repeat (first | exact (Kd.R_reads' HO_451003.out).2.2 | (with_reducible refine Kd.C_alloc ?_ _) | (with_reducible refine Kd.C_drewN ?_ _) | (with_reducible refine Kd.C_drew ?_))); (case side6 => exact (Kd.R_reads' HO_451003.out).2.1); (case side7 => repeat (first | exact (Kd.R_reads' HO_451004.out).2.2 | (with_reducible refine Kd.C_alloc ?_ _) | (with_reducible refine Kd.C_drewN ?_ _) | (with_reducible refine Kd.C_drew ?_))); (case side8 => exact (Kd.R_reads' HO_451004.out).2.1); rintro e w47 ⟨rfl, hb⟩; refine ⟨_, rfl, ?_⟩; have n0_ := Aside0.mk (Kd.R_below (by (with_reducible repeat (first | apply Kd.R_alloc | apply Kd.R_drewN | apply Kd.R_drew)); exact HO_451001.out) hb); have n1_ := Aside0.mk (Kd.R_below (by (with_reducible repeat (first | apply Kd.R_alloc | apply Kd.R_drewN | apply Kd.R_drew)); exact HO_451002.out) hb); have n2_ := Aside0.mk (Kd.R_below (by (with_reducible repeat (first | apply Kd.R_alloc | apply Kd.R_drewN | apply Kd.R_drew)); exact HO_451003.out) hb); have n3_ := Aside0.mk (Kd.R_below (by (with_reducible repeat (first | apply Kd.R_alloc | apply Kd.R_drewN | apply Kd.R_drew)); exact HO_451004.out) hb); have n4_ := Aside0.mk (blk_below (g := gb450) (o := .cells #[.int .i64 t437, .slice Ao10 t438.length co10, .slice Ao11 t441.length co11, .slice Ao12 t444.length co12, .slice Ao13 t447.length co13] 28 (0, 0)) (by (with_reducible repeat (first | refine blk_drewN ?_ _ | refine blk_drew ?_ | refine blk_alloc ?_ _)); exact BK450.out) hb); have n5_ := Aside0.mk (below_step (by repeat (first | (with_reducible first | exact HB.out | apply below_alloc | apply pw_below_drewN | apply below_drew1 | refine below_set ?_ GE450.out) | exact HB.out)) hb); clear HO_451001; clear HO_451002; clear HO_451003; clear HO_451004; clear BK450; clear HB; have HO_451001 := n0_; have HO_451002 := n1_; have HO_451003 := n2_; have HO_451004 := n3_; have BK450 := n4_; have HB := n5_; clear n0_ n1_ n2_ n3_ n4_ n5_; (try clear hb); (try clear hb2); (try clear hk); (try clear hi)))
                  go_ret
                  exact ⟨by first | rfl | (simp [errW_none, errW_some] <;> rfl) | (simp [*, errW_none, errW_some] <;> rfl), by repeat (first | (with_reducible first | exact HB.out | apply below_alloc | apply pw_below_drewN | apply below_drew1 | refine below_set ?_ GE450.out) | exact HB.out)⟩
                · replace c45 := Bool.eq_false_iff.mpr c45
                  subst c45
                  have H1 : (laws_FnDiskNew.l0 k2 t436 (wrap64 (x5_2 + 1)) t437 t438 t441 t444 t447) = some r := by rw [if_neg (show ¬ (false = true) by decide)] at H; exact H
                  clear H
                  have H := H1
                  clear H1
                  have H' := Aside0.mk H
                  clear H
                  have hcz48_0 : wr.cell? ⟨gb450, 0, none⟩ = some (.int .i64 t437) := (blk_cell BK450.out 0).trans rfl
                  have hcz48_1 : wr.cell? ⟨gb450, 1, none⟩ = some (.slice Ao10 t438.length co10) := (blk_cell BK450.out 1).trans rfl
                  have hcz48_2 : wr.cell? ⟨gb450, 2, none⟩ = some (.slice Ao11 t441.length co11) := (blk_cell BK450.out 2).trans rfl
                  have hcz48_3 : wr.cell? ⟨gb450, 3, none⟩ = some (.slice Ao12 t444.length co12) := (blk_cell BK450.out 3).trans rfl
                  have hcz48_4 : wr.cell? ⟨gb450, 4, none⟩ = some (.slice Ao13 t447.length co13) := (blk_cell BK450.out 4).trans rfl
                  have hfz48_0 := blk_frozen BK450.out 0
                  have hfz48_1 := blk_frozen BK450.out 1
                  have hfz48_2 := blk_frozen BK450.out 2
                  have hfz48_3 := blk_frozen BK450.out 3
                  have hfz48_4 := blk_frozen BK450.out 4
                  go_wp2_with (first | ((with_reducible refine gate_callee (f := 20) rfl ?_); refine goesL_ (some 37) rfl rfl Try.func20 (by kernel_rfl) rfl #[.agg #[.int .i64 t437, .slice Ao10 t438.length co10, .slice Ao11 t441.length co11, .slice Ao12 t444.length co12, .slice Ao13 t447.length co13], .int .i64 x5_2] rfl (by (try simp only [List.map_toArray, List.map_cons, List.map_nil]); first | done | rfl | (simp only [List.length_drop, List.length_take]; rfl)) ?_; (with_reducible refine (impl_DiskRead.calls t437 _ _ t438 _ _ t441 _ _ t444 _ _ t447 x5_2 t479 false _ ?side1 ?side2 ?side3 ?side4 ?side5 ?side6 ?side7 ?side8 A44.out).mono ?_); (case side1 => repeat (first | exact (Kd.R_reads' HO_451001.out).2.2 | (with_reducible refine Kd.C_alloc ?_ _) | (with_reducible refine Kd.C_drewN ?_ _) | (with_reducible refine Kd.C_drew ?_))); (case side2 => exact (Kd.R_reads' HO_451001.out).2.1); (case side3 => repeat (first | exact (Kd.R_reads' HO_451002.out).2.2 | (with_reducible refine Kd.C_alloc ?_ _) | (with_reducible refine Kd.C_drewN ?_ _) | (with_reducible refine Kd.C_drew ?_))); (case side4 => exact (Kd.R_reads' HO_451002.out).2.1); (case side5 => repeat (first | exact (Kd.R_reads' HO_451003.out).2.2 | (with_reducible refine Kd.C_alloc ?_ _) | (with_reducible refine Kd.C_drewN ?_ _) | (with_reducible refine Kd.C_drew ?_))); (case side6 => exact (Kd.R_reads' HO_451003.out).2.1); (case side7 => repeat (first | exact (Kd.R_reads' HO_451004.out).2.2 | (with_reducible refine Kd.C_alloc ?_ _) | (with_reducible refine Kd.C_drewN ?_ _) | (with_reducible refine Kd.C_drew ?_))); (case side8 => exact (Kd.R_reads' HO_451004.out).2.1); rintro e w49 ⟨rfl, hb⟩; refine ⟨_, rfl, ?_⟩; have n0_ := Aside0.mk (Kd.R_below (by (with_reducible repeat (first | apply Kd.R_alloc | apply Kd.R_drewN | apply Kd.R_drew)); exact HO_451001.out) hb); have n1_ := Aside0.mk (Kd.R_below (by (with_reducible repeat (first | apply Kd.R_alloc | apply Kd.R_drewN | apply Kd.R_drew)); exact HO_451002.out) hb); have n2_ := Aside0.mk (Kd.R_below (by (with_reducible repeat (first | apply Kd.R_alloc | apply Kd.R_drewN | apply Kd.R_drew)); exact HO_451003.out) hb); have n3_ := Aside0.mk (Kd.R_below (by (with_reducible repeat (first | apply Kd.R_alloc | apply Kd.R_drewN | apply Kd.R_drew)); exact HO_451004.out) hb); have n4_ := Aside0.mk (blk_below (g := gb450) (o := .cells #[.int .i64 t437, .slice Ao10 t438.length co10, .slice Ao11 t441.length co11, .slice Ao12 t444.length co12, .slice Ao13 t447.length co13] 28 (0, 0)) (by (with_reducible repeat (first | refine blk_drewN ?_ _ | refine blk_drew ?_ | refine blk_alloc ?_ _)); exact BK450.out) hb); have n5_ := Aside0.mk (below_step (by repeat (first | (with_reducible first | exact HB.out | apply below_alloc | apply pw_below_drewN | apply below_drew1 | refine below_set ?_ GE450.out) | exact HB.out)) hb); clear HO_451001; clear HO_451002; clear HO_451003; clear HO_451004; clear BK450; clear HB; have HO_451001 := n0_; have HO_451002 := n1_; have HO_451003 := n2_; have HO_451004 := n3_; have BK450 := n4_; have HB := n5_; clear n0_ n1_ n2_ n3_ n4_ n5_; (try clear hb); (try clear hb2); (try clear hk); (try clear hi)))
                  go_roundg k2
                  case measure => have := HJ4.out; have := HK2.out; omega
                  case rel => exact ⟨(wrap64 (x5_2 + 1)), (by first | rfl | (simp; done) | (simp [*]; done)), H', ⟨by have := HJ4.out; have := HK2.out; omega⟩, ⟨by (with_reducible repeat (first | apply Kd.R_alloc | apply Kd.R_drewN | apply Kd.R_drew)); exact HO_451001.out⟩, ⟨by (with_reducible repeat (first | apply Kd.R_alloc | apply Kd.R_drewN | apply Kd.R_drew)); exact HO_451002.out⟩, ⟨by (with_reducible repeat (first | apply Kd.R_alloc | apply Kd.R_drewN | apply Kd.R_drew)); exact HO_451003.out⟩, ⟨by (with_reducible repeat (first | apply Kd.R_alloc | apply Kd.R_drewN | apply Kd.R_drew)); exact HO_451004.out⟩, ⟨by (with_reducible repeat (first | refine blk_drewN ?_ _ | refine blk_drew ?_ | refine blk_alloc ?_ _)); exact BK450.out⟩, ⟨by repeat (first | (with_reducible first | exact HB.out | apply below_alloc | apply pw_below_drewN | apply below_drew1 | refine below_set ?_ GE450.out) | exact HB.out)⟩⟩
              · rw [if_neg c43] at H
                have c43b0 : decide (x5_2 < 12) = false := decide_eq_false c43
                clear c43
                replace H := Option.bind_eq_some_iff.mp H
                obtain ⟨t481, A500, H⟩ := H
                replace H : (if t481 = true then (if t437 = t436 then (some ((t447.length : Int) == 0)) else (some false)) else (some false)) = some r := H
                have A50 := Aside0.mk A500
                clear A500
                by_cases c51 : t481 = true
                · subst c51
                  have H1 : (if t437 = t436 then (some ((t447.length : Int) == 0)) else (some false)) = some r := by rw [if_pos rfl] at H; exact H
                  clear H
                  have H := H1
                  clear H1
                  by_cases c52 : t437 = t436
                  · rw [if_pos c52] at H
                    have c52b0 : (t437 == t436) = true := beq_iff_eq.mpr c52
                    have c52b1 : (t437 != t436) = false := bne_eq_false_iff_eq.mpr c52
                    clear c52
                    obtain rfl := Option.some.inj H
                    have hcz53_0 : wr.cell? ⟨gb450, 0, none⟩ = some (.int .i64 t437) := (blk_cell BK450.out 0).trans rfl
                    have hcz53_1 : wr.cell? ⟨gb450, 1, none⟩ = some (.slice Ao10 t438.length co10) := (blk_cell BK450.out 1).trans rfl
                    have hcz53_2 : wr.cell? ⟨gb450, 2, none⟩ = some (.slice Ao11 t441.length co11) := (blk_cell BK450.out 2).trans rfl
                    have hcz53_3 : wr.cell? ⟨gb450, 3, none⟩ = some (.slice Ao12 t444.length co12) := (blk_cell BK450.out 3).trans rfl
                    have hcz53_4 : wr.cell? ⟨gb450, 4, none⟩ = some (.slice Ao13 t447.length co13) := (blk_cell BK450.out 4).trans rfl
                    have hfz53_0 := blk_frozen BK450.out 0
                    have hfz53_1 := blk_frozen BK450.out 1
                    have hfz53_2 := blk_frozen BK450.out 2
                    have hfz53_3 := blk_frozen BK450.out 3
                    have hfz53_4 := blk_frozen BK450.out 4
                    go_wp2_with (first | ((with_reducible refine gate_callee (f := 21) rfl ?_); refine goesL_ (some 42) rfl rfl Try.func21 (by kernel_rfl) rfl #[.agg #[.int .i64 t437, .slice Ao10 t438.length co10, .slice Ao11 t441.length co11, .slice Ao12 t444.length co12, .slice Ao13 t447.length co13]] rfl (by (try simp only [List.map_toArray, List.map_cons, List.map_nil]); first | done | rfl | (simp only [List.length_drop, List.length_take]; rfl)) ?_; (with_reducible refine (impl_DiskOk.calls t437 _ _ t438 _ _ t441 _ _ t444 _ _ t447 true _ ?side1 ?side2 ?side3 ?side4 ?side5 ?side6 ?side7 ?side8 A50.out).mono ?_); (case side1 => repeat (first | exact (Kd.R_reads' HO_451001.out).2.2 | (with_reducible refine Kd.C_alloc ?_ _) | (with_reducible refine Kd.C_drewN ?_ _) | (with_reducible refine Kd.C_drew ?_))); (case side2 => exact (Kd.R_reads' HO_451001.out).2.1); (case side3 => repeat (first | exact (Kd.R_reads' HO_451002.out).2.2 | (with_reducible refine Kd.C_alloc ?_ _) | (with_reducible refine Kd.C_drewN ?_ _) | (with_reducible refine Kd.C_drew ?_))); (case side4 => exact (Kd.R_reads' HO_451002.out).2.1); (case side5 => repeat (first | exact (Kd.R_reads' HO_451003.out).2.2 | (with_reducible refine Kd.C_alloc ?_ _) | (with_reducible refine Kd.C_drewN ?_ _) | (with_reducible refine Kd.C_drew ?_))); (case side6 => exact (Kd.R_reads' HO_451003.out).2.1); (case side7 => repeat (first | exact (Kd.R_reads' HO_451004.out).2.2 | (with_reducible refine Kd.C_alloc ?_ _) | (with_reducible refine Kd.C_drewN ?_ _) | (with_reducible refine Kd.C_drew ?_))); (case side8 => exact (Kd.R_reads' HO_451004.out).2.1); rintro e w54 ⟨rfl, hb⟩; refine ⟨_, rfl, ?_⟩; have n0_ := Aside0.mk (Kd.R_below (by (with_reducible repeat (first | apply Kd.R_alloc | apply Kd.R_drewN | apply Kd.R_drew)); exact HO_451001.out) hb); have n1_ := Aside0.mk (Kd.R_below (by (with_reducible repeat (first | apply Kd.R_alloc | apply Kd.R_drewN | apply Kd.R_drew)); exact HO_451002.out) hb); have n2_ := Aside0.mk (Kd.R_below (by (with_reducible repeat (first | apply Kd.R_alloc | apply Kd.R_drewN | apply Kd.R_drew)); exact HO_451003.out) hb); have n3_ := Aside0.mk (Kd.R_below (by (with_reducible repeat (first | apply Kd.R_alloc | apply Kd.R_drewN | apply Kd.R_drew)); exact HO_451004.out) hb); have n4_ := Aside0.mk (blk_below (g := gb450) (o := .cells #[.int .i64 t437, .slice Ao10 t438.length co10, .slice Ao11 t441.length co11, .slice Ao12 t444.length co12, .slice Ao13 t447.length co13] 28 (0, 0)) (by (with_reducible repeat (first | refine blk_drewN ?_ _ | refine blk_drew ?_ | refine blk_alloc ?_ _)); exact BK450.out) hb); have n5_ := Aside0.mk (below_step (by repeat (first | (with_reducible first | exact HB.out | apply below_alloc | apply pw_below_drewN | apply below_drew1 | refine below_set ?_ GE450.out) | exact HB.out)) hb); clear HO_451001; clear HO_451002; clear HO_451003; clear HO_451004; clear BK450; clear HB; have HO_451001 := n0_; have HO_451002 := n1_; have HO_451003 := n2_; have HO_451004 := n3_; have BK450 := n4_; have HB := n5_; clear n0_ n1_ n2_ n3_ n4_ n5_; (try clear hb); (try clear hb2); (try clear hk); (try clear hi); have hcz55_0 : w54.cell? ⟨gb450, 0, none⟩ = some (.int .i64 t437) := (blk_cell BK450.out 0).trans rfl; have hcz55_1 : w54.cell? ⟨gb450, 1, none⟩ = some (.slice Ao10 t438.length co10) := (blk_cell BK450.out 1).trans rfl; have hcz55_2 : w54.cell? ⟨gb450, 2, none⟩ = some (.slice Ao11 t441.length co11) := (blk_cell BK450.out 2).trans rfl; have hcz55_3 : w54.cell? ⟨gb450, 3, none⟩ = some (.slice Ao12 t444.length co12) := (blk_cell BK450.out 3).trans rfl; have hcz55_4 : w54.cell? ⟨gb450, 4, none⟩ = some (.slice Ao13 t447.length co13) := (blk_cell BK450.out 4).trans rfl; have hfz55_0 := blk_frozen BK450.out 0; have hfz55_1 := blk_frozen BK450.out 1; have hfz55_2 := blk_frozen BK450.out 2; have hfz55_3 := blk_frozen BK450.out 3; have hfz55_4 := blk_frozen BK450.out 4))
                    go_ret
                    exact ⟨by first | rfl | (simp [errW_none, errW_some] <;> rfl) | (simp [*, errW_none, errW_some] <;> rfl), by repeat (first | (with_reducible first | exact HB.out | apply below_alloc | apply pw_below_drewN | apply below_drew1 | refine below_set ?_ GE450.out) | exact HB.out)⟩
                  · rw [if_neg c52] at H
                    have c52b0 : (t437 == t436) = false := beq_eq_false_iff_ne.mpr c52
                    have c52b1 : (t437 != t436) = true := bne_iff_ne.mpr c52
                    obtain rfl := Option.some.inj H
                    have hcz56_0 : wr.cell? ⟨gb450, 0, none⟩ = some (.int .i64 t437) := (blk_cell BK450.out 0).trans rfl
                    have hcz56_1 : wr.cell? ⟨gb450, 1, none⟩ = some (.slice Ao10 t438.length co10) := (blk_cell BK450.out 1).trans rfl
                    have hcz56_2 : wr.cell? ⟨gb450, 2, none⟩ = some (.slice Ao11 t441.length co11) := (blk_cell BK450.out 2).trans rfl
                    have hcz56_3 : wr.cell? ⟨gb450, 3, none⟩ = some (.slice Ao12 t444.length co12) := (blk_cell BK450.out 3).trans rfl
                    have hcz56_4 : wr.cell? ⟨gb450, 4, none⟩ = some (.slice Ao13 t447.length co13) := (blk_cell BK450.out 4).trans rfl
                    have hfz56_0 := blk_frozen BK450.out 0
                    have hfz56_1 := blk_frozen BK450.out 1
                    have hfz56_2 := blk_frozen BK450.out 2
                    have hfz56_3 := blk_frozen BK450.out 3
                    have hfz56_4 := blk_frozen BK450.out 4
                    go_wp2_with (first | ((with_reducible refine gate_callee (f := 21) rfl ?_); refine goesL_ (some 42) rfl rfl Try.func21 (by kernel_rfl) rfl #[.agg #[.int .i64 t437, .slice Ao10 t438.length co10, .slice Ao11 t441.length co11, .slice Ao12 t444.length co12, .slice Ao13 t447.length co13]] rfl (by (try simp only [List.map_toArray, List.map_cons, List.map_nil]); first | done | rfl | (simp only [List.length_drop, List.length_take]; rfl)) ?_; (with_reducible refine (impl_DiskOk.calls t437 _ _ t438 _ _ t441 _ _ t444 _ _ t447 true _ ?side1 ?side2 ?side3 ?side4 ?side5 ?side6 ?side7 ?side8 A50.out).mono ?_); (case side1 => repeat (first | exact (Kd.R_reads' HO_451001.out).2.2 | (with_reducible refine Kd.C_alloc ?_ _) | (with_reducible refine Kd.C_drewN ?_ _) | (with_reducible refine Kd.C_drew ?_))); (case side2 => exact (Kd.R_reads' HO_451001.out).2.1); (case side3 => repeat (first | exact (Kd.R_reads' HO_451002.out).2.2 | (with_reducible refine Kd.C_alloc ?_ _) | (with_reducible refine Kd.C_drewN ?_ _) | (with_reducible refine Kd.C_drew ?_))); (case side4 => exact (Kd.R_reads' HO_451002.out).2.1); (case side5 => repeat (first | exact (Kd.R_reads' HO_451003.out).2.2 | (with_reducible refine Kd.C_alloc ?_ _) | (with_reducible refine Kd.C_drewN ?_ _) | (with_reducible refine Kd.C_drew ?_))); (case side6 => exact (Kd.R_reads' HO_451003.out).2.1); (case side7 => repeat (first | exact (Kd.R_reads' HO_451004.out).2.2 | (with_reducible refine Kd.C_alloc ?_ _) | (with_reducible refine Kd.C_drewN ?_ _) | (with_reducible refine Kd.C_drew ?_))); (case side8 => exact (Kd.R_reads' HO_451004.out).2.1); rintro e w57 ⟨rfl, hb⟩; refine ⟨_, rfl, ?_⟩; have n0_ := Aside0.mk (Kd.R_below (by (with_reducible repeat (first | apply Kd.R_alloc | apply Kd.R_drewN | apply Kd.R_drew)); exact HO_451001.out) hb); have n1_ := Aside0.mk (Kd.R_below (by (with_reducible repeat (first | apply Kd.R_alloc | apply Kd.R_drewN | apply Kd.R_drew)); exact HO_451002.out) hb); have n2_ := Aside0.mk (Kd.R_below (by (with_reducible repeat (first | apply Kd.R_alloc | apply Kd.R_drewN | apply Kd.R_drew)); exact HO_451003.out) hb); have n3_ := Aside0.mk (Kd.R_below (by (with_reducible repeat (first | apply Kd.R_alloc | apply Kd.R_drewN | apply Kd.R_drew)); exact HO_451004.out) hb); have n4_ := Aside0.mk (blk_below (g := gb450) (o := .cells #[.int .i64 t437, .slice Ao10 t438.length co10, .slice Ao11 t441.length co11, .slice Ao12 t444.length co12, .slice Ao13 t447.length co13] 28 (0, 0)) (by (with_reducible repeat (first | refine blk_drewN ?_ _ | refine blk_drew ?_ | refine blk_alloc ?_ _)); exact BK450.out) hb); have n5_ := Aside0.mk (below_step (by repeat (first | (with_reducible first | exact HB.out | apply below_alloc | apply pw_below_drewN | apply below_drew1 | refine below_set ?_ GE450.out) | exact HB.out)) hb); clear HO_451001; clear HO_451002; clear HO_451003; clear HO_451004; clear BK450; clear HB; have HO_451001 := n0_; have HO_451002 := n1_; have HO_451003 := n2_; have HO_451004 := n3_; have BK450 := n4_; have HB := n5_; clear n0_ n1_ n2_ n3_ n4_ n5_; (try clear hb); (try clear hb2); (try clear hk); (try clear hi); have hcz58_0 : w57.cell? ⟨gb450, 0, none⟩ = some (.int .i64 t437) := (blk_cell BK450.out 0).trans rfl; have hcz58_1 : w57.cell? ⟨gb450, 1, none⟩ = some (.slice Ao10 t438.length co10) := (blk_cell BK450.out 1).trans rfl; have hcz58_2 : w57.cell? ⟨gb450, 2, none⟩ = some (.slice Ao11 t441.length co11) := (blk_cell BK450.out 2).trans rfl; have hcz58_3 : w57.cell? ⟨gb450, 3, none⟩ = some (.slice Ao12 t444.length co12) := (blk_cell BK450.out 3).trans rfl; have hcz58_4 : w57.cell? ⟨gb450, 4, none⟩ = some (.slice Ao13 t447.length co13) := (blk_cell BK450.out 4).trans rfl; have hfz58_0 := blk_frozen BK450.out 0; have hfz58_1 := blk_frozen BK450.out 1; have hfz58_2 := blk_frozen BK450.out 2; have hfz58_3 := blk_frozen BK450.out 3; have hfz58_4 := blk_frozen BK450.out 4))
                    go_ret
                    exact ⟨by first | rfl | (simp [errW_none, errW_some] <;> rfl) | (simp [*, errW_none, errW_some] <;> rfl), by repeat (first | (with_reducible first | exact HB.out | apply below_alloc | apply pw_below_drewN | apply below_drew1 | refine below_set ?_ GE450.out) | exact HB.out)⟩
                · replace c51 := Bool.eq_false_iff.mpr c51
                  subst c51
                  have H1 : (some false) = some r := by rw [if_neg (show ¬ (false = true) by decide)] at H; exact H
                  clear H
                  have H := H1
                  clear H1
                  obtain rfl := Option.some.inj H
                  have hcz59_0 : wr.cell? ⟨gb450, 0, none⟩ = some (.int .i64 t437) := (blk_cell BK450.out 0).trans rfl
                  have hcz59_1 : wr.cell? ⟨gb450, 1, none⟩ = some (.slice Ao10 t438.length co10) := (blk_cell BK450.out 1).trans rfl
                  have hcz59_2 : wr.cell? ⟨gb450, 2, none⟩ = some (.slice Ao11 t441.length co11) := (blk_cell BK450.out 2).trans rfl
                  have hcz59_3 : wr.cell? ⟨gb450, 3, none⟩ = some (.slice Ao12 t444.length co12) := (blk_cell BK450.out 3).trans rfl
                  have hcz59_4 : wr.cell? ⟨gb450, 4, none⟩ = some (.slice Ao13 t447.length co13) := (blk_cell BK450.out 4).trans rfl
                  have hfz59_0 := blk_frozen BK450.out 0
                  have hfz59_1 := blk_frozen BK450.out 1
                  have hfz59_2 := blk_frozen BK450.out 2
                  have hfz59_3 := blk_frozen BK450.out 3
                  have hfz59_4 := blk_frozen BK450.out 4
                  go_wp2_with (first | ((with_reducible refine gate_callee (f := 21) rfl ?_); refine goesL_ (some 42) rfl rfl Try.func21 (by kernel_rfl) rfl #[.agg #[.int .i64 t437, .slice Ao10 t438.length co10, .slice Ao11 t441.length co11, .slice Ao12 t444.length co12, .slice Ao13 t447.length co13]] rfl (by (try simp only [List.map_toArray, List.map_cons, List.map_nil]); first | done | rfl | (simp only [List.length_drop, List.length_take]; rfl)) ?_; (with_reducible refine (impl_DiskOk.calls t437 _ _ t438 _ _ t441 _ _ t444 _ _ t447 false _ ?side1 ?side2 ?side3 ?side4 ?side5 ?side6 ?side7 ?side8 A50.out).mono ?_); (case side1 => repeat (first | exact (Kd.R_reads' HO_451001.out).2.2 | (with_reducible refine Kd.C_alloc ?_ _) | (with_reducible refine Kd.C_drewN ?_ _) | (with_reducible refine Kd.C_drew ?_))); (case side2 => exact (Kd.R_reads' HO_451001.out).2.1); (case side3 => repeat (first | exact (Kd.R_reads' HO_451002.out).2.2 | (with_reducible refine Kd.C_alloc ?_ _) | (with_reducible refine Kd.C_drewN ?_ _) | (with_reducible refine Kd.C_drew ?_))); (case side4 => exact (Kd.R_reads' HO_451002.out).2.1); (case side5 => repeat (first | exact (Kd.R_reads' HO_451003.out).2.2 | (with_reducible refine Kd.C_alloc ?_ _) | (with_reducible refine Kd.C_drewN ?_ _) | (with_reducible refine Kd.C_drew ?_))); (case side6 => exact (Kd.R_reads' HO_451003.out).2.1); (case side7 => repeat (first | exact (Kd.R_reads' HO_451004.out).2.2 | (with_reducible refine Kd.C_alloc ?_ _) | (with_reducible refine Kd.C_drewN ?_ _) | (with_reducible refine Kd.C_drew ?_))); (case side8 => exact (Kd.R_reads' HO_451004.out).2.1); rintro e w60 ⟨rfl, hb⟩; refine ⟨_, rfl, ?_⟩; have n0_ := Aside0.mk (Kd.R_below (by (with_reducible repeat (first | apply Kd.R_alloc | apply Kd.R_drewN | apply Kd.R_drew)); exact HO_451001.out) hb); have n1_ := Aside0.mk (Kd.R_below (by (with_reducible repeat (first | apply Kd.R_alloc | apply Kd.R_drewN | apply Kd.R_drew)); exact HO_451002.out) hb); have n2_ := Aside0.mk (Kd.R_below (by (with_reducible repeat (first | apply Kd.R_alloc | apply Kd.R_drewN | apply Kd.R_drew)); exact HO_451003.out) hb); have n3_ := Aside0.mk (Kd.R_below (by (with_reducible repeat (first | apply Kd.R_alloc | apply Kd.R_drewN | apply Kd.R_drew)); exact HO_451004.out) hb); have n4_ := Aside0.mk (blk_below (g := gb450) (o := .cells #[.int .i64 t437, .slice Ao10 t438.length co10, .slice Ao11 t441.length co11, .slice Ao12 t444.length co12, .slice Ao13 t447.length co13] 28 (0, 0)) (by (with_reducible repeat (first | refine blk_drewN ?_ _ | refine blk_drew ?_ | refine blk_alloc ?_ _)); exact BK450.out) hb); have n5_ := Aside0.mk (below_step (by repeat (first | (with_reducible first | exact HB.out | apply below_alloc | apply pw_below_drewN | apply below_drew1 | refine below_set ?_ GE450.out) | exact HB.out)) hb); clear HO_451001; clear HO_451002; clear HO_451003; clear HO_451004; clear BK450; clear HB; have HO_451001 := n0_; have HO_451002 := n1_; have HO_451003 := n2_; have HO_451004 := n3_; have BK450 := n4_; have HB := n5_; clear n0_ n1_ n2_ n3_ n4_ n5_; (try clear hb); (try clear hb2); (try clear hk); (try clear hi)))
                  go_ret
                  exact ⟨by first | rfl | (simp [errW_none, errW_some] <;> rfl) | (simp [*, errW_none, errW_some] <;> rfl), by repeat (first | (with_reducible first | exact HB.out | apply below_alloc | apply pw_below_drewN | apply below_drew1 | refine below_set ?_ GE450.out) | exact HB.out)⟩
def laws_FnDiskNew.Pure : Prop := ∀ (l0 : List Int), l0.length ≤ maxLen → l0.length * 1 ≤ 140737488351232 → (∀ x ∈ l0, (Lit.int .u8 x).wf = true) → ∃ k, laws_FnDiskNew.f k l0 = some true
theorem laws_FnDiskNew.walk (P : laws_FnDiskNew.Pure) (a0 : Option Addr) (len0 cap0 : Nat) (z0 : List Int) (w : World) (w0 : (a0 = none ∧ len0 = 0 ∧ cap0 = 0 ∧ z0 = []) ∨ ∃ x, a0 = some x ∧ len0 ≤ cap0 ∧ cap0 ≤ maxLen ∧ z0.length = cap0 ∧ (∀ i, i < z0.length → w.cell? (x.add i) = some (.int .u8 (z0.getD i 0))) ∧ ∀ n ∈ z0, (Lit.int .u8 n).wf = true) (y0 : len0 * 1 ≤ 140737488351232) :
    Calls Try.prog 3 #[.slice a0 len0 cap0] w fun e w' => e = .returned (.bool true) ∧ Below w.heap.size w w' := by
  obtain ⟨l0, rfl, hr0, hm0, hw0, hc0⟩ := ReadsInt.ofRowC w0
  obtain ⟨k, h⟩ := P l0 hm0 y0 hw0
  refine (laws_FnDiskNew.calls k _ _ l0 true w (Kd.C_of_reads (d := (0 : Int)) (h1 := fun _ => rfl) hr0) hc0 h).mono ?_
  rintro e w' ⟨rfl, hd⟩
  exact ⟨rfl, hd⟩
end Go.Proofs.Ytkgpnloghmbmlaa.Print
namespace Go.Proofs.Ytkgpnloghmbmlaa.Pure
open Go.RowKit Go.Proofs.YtkgpnloghmbmlaaW.PrintWords
theorem Ev.pos {α : Type} {c : Prop} [Decidable c] {f g : Nat → Option α} {r : α} (h : c) (k : Ev f r) : Ev (fun n => if c then f n else g n) r := by
  obtain ⟨K, k⟩ := k
  exact ⟨K, fun n hn => by simp only [if_pos h]; exact k n hn⟩
theorem Ev.neg {α : Type} {c : Prop} [Decidable c] {f g : Nat → Option α} {r : α} (h : ¬ c) (k : Ev g r) : Ev (fun n => if c then f n else g n) r := by
  obtain ⟨K, k⟩ := k
  exact ⟨K, fun n hn => by simp only [if_neg h]; exact k n hn⟩
theorem Ev.ite {α : Type} {c : Prop} [Decidable c] {f g : Nat → Option α} {r : α} (k1 : c → Ev f r) (k2 : ¬ c → Ev g r) : Ev (fun n => if c then f n else g n) r := by
  by_cases h : c
  · exact Ev.pos h (k1 h)
  · exact Ev.neg h (k2 h)
theorem Ev.take {α β : Type} {g : Option α} {f : Nat → α → Option β} {a : α} {r : β} (h : g = some a) (k : Ev (fun n => f n a) r) : Ev (fun n => g.bind (f n)) r := by
  subst h
  exact k
theorem Ev.ret {α : Type} {a r : α} (h : a = r) : Ev (fun _ => some a) r := ⟨0, fun _ _ => by rw [h]⟩
theorem Ev.unique {α : Type} {g : Nat → Option α} {a b : α} (h : Ev g a) (k : Ev g b) : a = b := by
  obtain ⟨K, h⟩ := h
  obtain ⟨K', k⟩ := k
  have h1 := h (max K K') (by omega)
  have h2 := k (max K K') (by omega)
  rw [h1] at h2
  exact Option.some.inj h2
theorem wrap_ok {x : Int} (h : -9223372036854775808 ≤ x ∧ x ≤ 9223372036854775807) : wrap64 x = x := by
  unfold wrap64
  omega
theorem bits_xor_nat (k : IntKind) (j : Nat) (hj : j ≤ k.bits) (hk : ∀ n : Int, 0 ≤ n → n < 2 ^ j → k.wrap n = n) (a b : Nat) (ha : a < 2 ^ j) (hb : b < 2 ^ j) :
    Go.bits .xor k a b = ((a ^^^ b : Nat) : Int) := by
  have hp : 2 ^ j ≤ 2 ^ k.bits := Nat.pow_le_pow_right (by decide) hj
  have ha' : a % 2 ^ k.bits = a := Nat.mod_eq_of_lt (Nat.lt_of_lt_of_le ha hp)
  have hb' : b % 2 ^ k.bits = b := Nat.mod_eq_of_lt (Nat.lt_of_lt_of_le hb hp)
  simp only [Go.bits, BitVec.ofInt_natCast, BitVec.toNat_xor, BitVec.toNat_ofNat, ha', hb']
  exact hk _ (Int.natCast_nonneg _) (by exact_mod_cast (Nat.xor_lt_two_pow ha hb))
theorem xor64_bd (x y : Int) (hx : 0 ≤ x ∧ x < 4611686018427387904) (hy : 0 ≤ y ∧ y < 4611686018427387904) : 0 ≤ Go.bits .xor .i64 x y ∧ Go.bits .xor .i64 x y < 4611686018427387904 := by
  obtain ⟨a, rfl⟩ := Int.eq_ofNat_of_zero_le hx.1
  obtain ⟨b, rfl⟩ := Int.eq_ofNat_of_zero_le hy.1
  rw [bits_xor_nat .i64 62 (by decide) (fun n h0 h1 => by rw [IntKind.wrap_i64]; omega) a b (by omega) (by omega)]
  have := Nat.xor_lt_two_pow (x := a) (y := b) (n := 62) (by omega) (by omega)
  omega
theorem rd_bd (l : List Int) (h : ∀ x ∈ l, 0 ≤ x ∧ x < 256) (i : Int) : 0 ≤ rd l i ∧ rd l i < 256 := by
  unfold rd
  simp only [List.getD]
  cases e : l[i.toNat]? with
  | none => simp
  | some x => exact h x (List.mem_of_getElem? e)
theorem wf_u8 {l : List Int} (h : ∀ x ∈ l, (Lit.int .u8 x).wf = true) : ∀ x ∈ l, 0 ≤ x ∧ x < 256 := by
  intro x hx
  have := h x hx
  have e1 : IntKind.u8.min = 0 := by decide
  have e2 : IntKind.u8.max = 255 := by decide
  simp [Lit.wf, e1, e2] at this
  omega
end Go.Proofs.Ytkgpnloghmbmlaa.Pure
namespace Go.Proofs.Ytkgpnloghmbmlaa.Take
open Go.RowKit Go.Proofs.YtkgpnloghmbmlaaW.PrintWords
structure Opens {α : Type} (P : Program) (t : TypeId) (d : Kd α) (Wf : α → Prop) : Prop where
  sz : P.cellsOf t = d.sz
  opens : ∀ (H : Type) (enc : TypeId × Value → H) (w : World) (base : Nat) (spare : Nat → Bool) (held : Bool) (fuel : Nat) (cs : List Value) (x : DataW H × List MemPlace), DataW.trod enc P w base spare held fuel t cs = some x → ∃ y : α, d.K w y cs ∧ Wf y
theorem list_of {α : Type} {p : Nat → α → Prop} (n : Nat) (h : ∀ i, i < n → ∃ y, p i y) : ∃ l : List α, l.length = n ∧ ∀ i y, l[i]? = some y → p i y := by
  induction n with
  | zero => exact ⟨[], rfl, fun i y hy => by simp at hy⟩
  | succ n ih =>
    obtain ⟨l, hl, hp⟩ := ih (fun i hi => h i (by omega))
    obtain ⟨z, hz⟩ := h n (by omega)
    refine ⟨l ++ [z], by simp [hl], fun i y hy => ?_⟩
    by_cases hi : i < l.length
    · rw [List.getElem?_append_left hi] at hy
      exact hp i y hy
    · have hin : i = n := by
        have h1 := (List.getElem?_eq_some_iff.1 hy).1
        simp at h1
        omega
      subst hin
      rw [List.getElem?_append_right (by omega)] at hy
      have : z = y := by simpa [hl] using hy
      rw [← this]
      exact hz
theorem addr_add (a : Addr) (i j : Nat) : (a.add i).add j = a.add (i + j) := by
  unfold Addr.add
  by_cases hi : i = 0 <;> by_cases hj : j = 0 <;> simp [hi, hj, Nat.add_assoc]
section
variable {P : Program} {t e : TypeId}
theorem Opens.int {k : IntKind} (ht : P.underlying t = some (.int k)) (hs : P.cellsOf t = 1) : Opens P t (Kd.int k) (fun x => (Lit.int k x).wf = true) := ⟨hs, by
  intro H enc w base spare held fuel cs x h
  obtain ⟨n, rfl, _, hw⟩ := DataW.trod_int ht h
  exact ⟨n, rfl, hw⟩⟩
theorem Opens.bool (ht : P.underlying t = some .bool) (hs : P.cellsOf t = 1) : Opens P t Kd.bool (fun _ => True) := ⟨hs, by
  intro H enc w base spare held fuel cs x h
  obtain ⟨b, rfl, _⟩ := DataW.trod_bool ht h
  exact ⟨b, rfl, trivial⟩⟩
theorem Opens.string (ht : P.underlying t = some .string) (hs : P.cellsOf t = 1) : Opens P t Kd.string (fun s => s.size ≤ maxLen) := ⟨hs, by
  intro H enc w base spare held fuel cs x h
  obtain ⟨s, rfl, _, hw⟩ := DataW.trod_string ht h
  exact ⟨s, rfl, hw⟩⟩
theorem Opens.slice {α : Type} {d : Kd α} {Wf : α → Prop} (ht : P.underlying t = some (.slice e)) (hs : P.cellsOf t = 1) (he : Opens P e d Wf) :
    Opens P t (Kd.slice e d) (fun l => l.length ≤ maxLen ∧ ∀ x ∈ l, Wf x) := ⟨hs, by
  intro H enc w base spare held fuel cs x h
  rcases DataW.trod_slice ht h with ⟨rfl, _⟩ | ⟨a, len, cap, elems, rest, n, _, rfl, _, _, hl, hm, hlen, hel, _⟩
  · exact ⟨[], ⟨none, 0, rfl, Nat.le_refl _, Kd.C_nil d w⟩, Nat.zero_le _, fun x hx => by simp at hx⟩
  · obtain ⟨l, hll, hp⟩ := list_of (p := fun i y => Wf y ∧ ∃ c, c.length = d.sz ∧ d.K w y c ∧ ∀ j u, c[j]? = some u → w.cell? (a.add (i * d.sz + j)) = some u) len (fun i hi => by
      have h1 := hel i hi
      rw [List.getElem?_eq_getElem (by omega)] at h1
      obtain ⟨cs', h2, h3⟩ := Option.bind_eq_some_iff.1 h1
      obtain ⟨_, h4, h5⟩ := World.cells?_some h2
      obtain ⟨y, hy, hw⟩ := he.opens H enc w base spare held n cs' _ h3
      refine ⟨y, hw, cs', h4.trans he.sz, hy, fun j u hu => ?_⟩
      have hj : j < P.cellsOf e := by
        have := (List.getElem?_eq_some_iff.1 hu).1
        omega
      have h6 := h5 j hj
      rw [addr_add, he.sz] at h6
      rw [h6, hu])
    refine ⟨l, ⟨some a, cap, by rw [hll], by omega, ?_⟩, by omega, fun x hx => ?_⟩
    · refine ⟨rfl, by have : maxLen = 9223372036854775807 := by decide
                      omega, fun _ => ⟨a, rfl, fun j p hj => (hp j p hj).2⟩⟩
    · obtain ⟨i, hi⟩ := List.getElem?_of_mem hx
      exact (hp i x hi).1⟩
structure Tail {α : Type} (P : Program) (fs : Array Field) (i o : Nat) (d : Kd α) (Wf : α → Prop) : Prop where
  opens : ∀ (H : Type) (enc : TypeId × Value → H) (w : World) (base : Nat) (spare : Nat → Bool) (held : Bool) (n : Nat) (cs : List Value) (xs : List (DataW H × List MemPlace)), xs.length = fs.size → cs.length = o + d.sz →
    (∀ (j : Nat) (f : Field), fs[j]? = some f → DataW.trod enc P w base spare held n f.type ((cs.drop f.offset).take (P.cellsOf f.type)) = xs[j]?) → ∃ y : α, d.K w y (cs.drop o) ∧ Wf y
theorem Tail.cons {α β : Type} {fs : Array Field} {i o : Nat} {d : Kd α} {d' : Kd β} {Wf : α → Prop} {Wf' : β → Prop} (f : Field) (hf : fs[i]? = some f) (ho : f.offset = o) (h : Opens P f.type d Wf) (k : Tail P fs (i + 1) (o + d.sz) d' Wf') :
    Tail P fs i o (Kd.pair d d') (fun p => Wf p.1 ∧ Wf' p.2) := ⟨by
  intro H enc w base spare held n cs xs hx hl he
  have h1 := he i f hf
  have hi : i < xs.length := by
    have := (Array.getElem?_eq_some_iff.1 hf).1
    omega
  rw [ho, h.sz, List.getElem?_eq_getElem hi] at h1
  obtain ⟨y, hy, hw⟩ := h.opens H enc w base spare held n _ _ h1
  have hl' : cs.length = o + (d.sz + d'.sz) := hl
  obtain ⟨z, hz, hw'⟩ := k.opens H enc w base spare held n cs xs hx (by omega) he
  exact ⟨(y, z), ⟨_, _, by rw [← List.drop_drop]; exact (List.take_append_drop d.sz (cs.drop o)).symm, hy, hz⟩, hw, hw'⟩⟩
theorem Opens.struct {α : Type} {d : Kd α} {Wf : α → Prop} {fs : Array Field} (ht : P.underlying t = some (.struct fs)) (hs : P.cellsOf t = d.sz) (k : Tail P fs 0 0 d Wf) : Opens P t d Wf := ⟨hs, by
  intro H enc w base spare held fuel cs x h
  obtain ⟨xs, n, _, _, hl, hx, he⟩ := DataW.trod_struct ht h
  obtain ⟨y, hy, hw⟩ := k.opens H enc w base spare held n cs xs hx (by omega) he
  exact ⟨y, by simpa using hy, hw⟩⟩
theorem Opens.iso {α β : Type} {d : Kd α} {Wf : α → Prop} (f : β → α) (mk : α → β) (hf : ∀ a, f (mk a) = a) (h : Opens P t d Wf) : Opens P t (Kd.iso d f) (fun y => Wf (f y)) := ⟨h.sz, by
  intro H enc w base spare held fuel cs x hx
  obtain ⟨y, hy, hw⟩ := h.opens H enc w base spare held fuel cs x hx
  exact ⟨mk y, by show d.K w (f (mk y)) cs; rw [hf]; exact hy, by rw [hf]; exact hw⟩⟩
end
end Go.Proofs.Ytkgpnloghmbmlaa.Take
namespace Go.Proofs.Ytkgpnloghmbmlaa.Print
open Go.RowKit Go.Proofs.YtkgpnloghmbmlaaW.PrintWords Go.Proofs.YtkgpnloghmbmlaaW.PrintLast Go.Proofs.YtkgpnloghmbmlaaW.PrintMore
attribute [local go_sem] max2_int min2_int max_two min_two max_three min_three max_four min_four   -- for this text's walks alone
set_option linter.unusedVariables false
set_option linter.unusedSimpArgs false
end Go.Proofs.Ytkgpnloghmbmlaa.Print
namespace Go.Proofs.Ytkgpnloghmbmlaa.Print
open Go.RowKit Go.Proofs.YtkgpnloghmbmlaaW.PrintWords Go.Proofs.YtkgpnloghmbmlaaW.PrintLast Go.Proofs.YtkgpnloghmbmlaaW.PrintMore
attribute [local go_sem] max2_int min2_int max_two min_two max_three min_three max_four min_four   -- for this text's walks alone
set_option linter.unusedVariables false
set_option linter.unusedSimpArgs false
end Go.Proofs.Ytkgpnloghmbmlaa.Print
namespace Go.Proofs.Ytkgpnloghmbmlaa.Print
open Go.RowKit Go.Proofs.YtkgpnloghmbmlaaW.PrintWords Go.Proofs.YtkgpnloghmbmlaaW.PrintLast Go.Proofs.YtkgpnloghmbmlaaW.PrintMore
attribute [local go_sem] max2_int min2_int max_two min_two max_three min_three max_four min_four   -- for this text's walks alone
set_option linter.unusedVariables false
set_option linter.unusedSimpArgs false
end Go.Proofs.Ytkgpnloghmbmlaa.Print
namespace Go.Proofs.Ytkgpnloghmbmlaa.Print
open Go.RowKit Go.Proofs.YtkgpnloghmbmlaaW.PrintWords Go.Proofs.YtkgpnloghmbmlaaW.PrintLast Go.Proofs.YtkgpnloghmbmlaaW.PrintMore
attribute [local go_sem] max2_int min2_int max_two min_two max_three min_three max_four min_four   -- for this text's walks alone
set_option linter.unusedVariables false
set_option linter.unusedSimpArgs false
end Go.Proofs.Ytkgpnloghmbmlaa.Print
namespace Go.Proofs.Ytkgpnloghmbmlaa.Print
open Go.RowKit Go.Proofs.YtkgpnloghmbmlaaW.PrintWords Go.Proofs.YtkgpnloghmbmlaaW.PrintLast Go.Proofs.YtkgpnloghmbmlaaW.PrintMore
attribute [local go_sem] max2_int min2_int max_two min_two max_three min_three max_four min_four   -- for this text's walks alone
set_option linter.unusedVariables false
set_option linter.unusedSimpArgs false
end Go.Proofs.Ytkgpnloghmbmlaa.Print
namespace Go.Proofs.Ytkgpnloghmbmlaa.Pure
open Go.RowKit Go.Proofs.Ytkgpnloghmbmlaa.Print Go.Proofs.YtkgpnloghmbmlaaW.PrintWords
theorem Ev.next {α : Type} {g : Nat → Option α} {r : α} (k : Ev (fun n => g (n + 1)) r) : Ev g r := Ev.step (fun _ => rfl) k
structure Fits (l1 l2 : List ByteArray) (l3 : List Bool) (n4 : Nat) : Prop where
  h1 : l1.length ≤ 1048576
  h2 : l2.length ≤ 1048576
  h3 : l3.length ≤ 1048576
  h4 : n4 ≤ 1048576
end Go.Proofs.Ytkgpnloghmbmlaa.Pure
namespace Go.Proofs.Ytkgpnloghmbmlaa.Pure
open Go.RowKit Go.Proofs.Ytkgpnloghmbmlaa.Print Go.Proofs.YtkgpnloghmbmlaaW.PrintWords
structure Code (b : List Int) : Prop where
  byte : ∀ x ∈ b, 0 ≤ x ∧ x < 256
  len : b.length ≤ 2000
theorem tmod_bd {x n : Int} (hx : 0 ≤ x) (hn : 0 < n) : 0 ≤ Int.tmod x n ∧ Int.tmod x n < n :=
  ⟨Int.tmod_nonneg n hx, Int.tmod_lt_of_pos x hn⟩
theorem pick_ev {b : List Int} (hb : Code b) (p n : Int) (hp : 0 ≤ p ∧ p ≤ 1099511627776) (hn : n ≤ 1099511627776) :
    ∃ r, Ev (fun k => spec_l6Rd_pick.f k b p n) (r, p + 1) ∧ 0 ≤ r ∧ (1 ≤ n → r < n) ∧ (n < 1 → r = 0) := by
  have e1 : wrap64 (p + 1) = p + 1 := wrap_ok (by omega)
  have e2 : wrap64 (p + 1 - 1) = p := by rw [wrap_ok (by omega)]; omega
  unfold spec_l6Rd_pick.f
  simp only [e1]
  by_cases h1 : n < 1
  · refine ⟨0, Ev.pos h1 (Ev.next ?_), by omega, by omega, by omega⟩
    simp only [spec_l6Rd_pick.j0]
    exact Ev.pos trivial (Ev.ret rfl)
  · by_cases h0 : (b.length : Int) = 0
    · refine ⟨0, Ev.neg h1 (Ev.next ?_), by omega, by omega, by omega⟩
      simp only [spec_l6Rd_pick.j0]
      exact Ev.pos (by simpa using h0) (Ev.ret rfl)
    · have h0' : ¬ (((b.length : Int) == 0) = true) := by simpa using h0
      have hl : 0 < (b.length : Int) := by omega
      by_cases h2 : p < (b.length : Int)
      · have hr := rd_bd b hb.byte p
        have e3 : wrap64 (rd b p) = rd b p := wrap_ok (by omega)
        have hm := tmod_bd hr.1 (show 0 < n by omega)
        refine ⟨Int.tmod (rd b p) n, Ev.neg h1 (Ev.next ?_), hm.1, fun _ => hm.2, by omega⟩
        simp only [spec_l6Rd_pick.j0, e2, e3]
        exact Ev.neg h0' (Ev.pos h2 (Ev.pos hp.1 (Ev.neg (by omega) (Ev.ret rfl))))
      · have hm1 := tmod_bd hp.1 hl
        have e3 : wrap64 (p * 7) = p * 7 := wrap_ok (by omega)
        have e4 : wrap64 (p * 7 + 3) = p * 7 + 3 := wrap_ok (by omega)
        have hm2 := tmod_bd (x := p * 7 + 3) (by omega) hl
        have hr1 := rd_bd b hb.byte (Int.tmod p (b.length : Int))
        have hr2 := rd_bd b hb.byte (Int.tmod (p * 7 + 3) (b.length : Int))
        generalize hg1 : rd b (Int.tmod p (b.length : Int)) = r1 at hr1
        generalize hg2 : rd b (Int.tmod (p * 7 + 3) (b.length : Int)) = r2 at hr2
        have hd : 0 ≤ Int.tdiv p (b.length : Int) ∧ Int.tdiv p (b.length : Int) ≤ p := by
          rw [Int.tdiv_eq_ediv_of_nonneg hp.1]
          exact ⟨Int.ediv_nonneg hp.1 (by omega), Int.ediv_le_self _ hp.1⟩
        generalize hg3 : Int.tdiv p (b.length : Int) = dd at hd
        have e5 : wrap64 r1 = r1 := wrap_ok (by omega)
        have e6 : wrap64 r2 = r2 := wrap_ok (by omega)
        have e7 : wrap64 (r1 * 131) = r1 * 131 := wrap_ok (by omega)
        have e8 : wrap64 (r2 * 1117) = r2 * 1117 := wrap_ok (by omega)
        have e9 : wrap64 (r1 * 131 + r2 * 1117) = r1 * 131 + r2 * 1117 := wrap_ok (by omega)
        have e10 : wrap64 (p * 29) = p * 29 := wrap_ok (by omega)
        have e11 : wrap64 (r1 * 131 + r2 * 1117 + p * 29) = r1 * 131 + r2 * 1117 + p * 29 := wrap_ok (by omega)
        have e12 : wrap64 dd = dd := wrap_ok (by omega)
        have e13 : wrap64 (dd * 53) = dd * 53 := wrap_ok (by omega)
        obtain ⟨X, hX⟩ : ∃ X, X = r1 * 131 + r2 * 1117 + p * 29 + dd * 53 := ⟨_, rfl⟩
        have hXb : 0 ≤ X ∧ X < 4611686018427387904 := by omega
        have e14 : wrap64 X = X := wrap_ok (by omega)
        have hdX : 0 ≤ Int.tdiv X 64 ∧ Int.tdiv X 64 < 4611686018427387904 := by
          rw [Int.tdiv_eq_ediv_of_nonneg hXb.1]
          omega
        have e15 : wrap64 (Int.tdiv X 64) = Int.tdiv X 64 := wrap_ok (by omega)
        have hx := xor64_bd X (Int.tdiv X 64) hXb hdX
        have hm := tmod_bd hx.1 (show 0 < n by omega)
        refine ⟨Int.tmod (Go.bits .xor .i64 X (Int.tdiv X 64)) n, Ev.neg h1 (Ev.next ?_), hm.1, fun _ => hm.2, by omega⟩
        simp only [spec_l6Rd_pick.j0, e2, e3, e4, hg1, hg2, hg3, e5, e6, e7, e8, e9, e10, e11, e12, e13, ← hX, e14, e15]
        exact Ev.neg h0' (Ev.neg h2 (Ev.neg h0 (Ev.pos hm1.1 (Ev.pos hm1.2 (Ev.pos hm2.1 (Ev.pos hm2.2 (Ev.neg (by omega) (Ev.ret rfl))))))))
theorem open_ev (l : List Int) (h : ∀ x ∈ l, (Lit.int .u8 x).wf = true) : ∃ b, spec_l6Open.f l = some (b, 0) ∧ Code b := by
  have hb := wf_u8 h
  unfold spec_l6Open.f
  by_cases h1 : (l.length : Int) > 2000
  · rw [if_pos h1, if_pos (by omega)]
    exact ⟨_, rfl, fun x hx => hb x (List.mem_of_mem_take hx), by rw [List.length_take]; omega⟩
  · rw [if_neg h1]
    exact ⟨_, rfl, hb, by omega⟩
end Go.Proofs.Ytkgpnloghmbmlaa.Pure
namespace Go.Proofs.Ytkgpnloghmbmlaa.Pure
open Go.RowKit Go.Proofs.Ytkgpnloghmbmlaa.Print Go.Proofs.YtkgpnloghmbmlaaW.PrintWords Go.Proofs.YtkgpnloghmbmlaaW.PrintLast
set_option linter.unusedSimpArgs false
theorem lpaTexts_l0 (l : List ByteArray) (hl : l.length ≤ 1048576) (d : Nat) : ∀ i : Nat, i + d = l.length → Ev (fun k => laws_lpaTexts.l0 k l l (i : Int)) true := by
  induction d with
  | zero =>
    intro i hi
    refine Ev.next ?_
    simp only [laws_lpaTexts.l0]
    exact Ev.neg (by omega) (Ev.ret rfl)
  | succ d ih =>
    intro i hi
    have e : wrap64 ((i : Int) + 1) = ((i + 1 : Nat) : Int) := by rw [wrap_ok (by omega)]; omega
    have hih := ih (i + 1) (by omega)
    refine Ev.next ?_
    simp only [laws_lpaTexts.l0, e]
    clear e
    exact Ev.pos (by omega) (Ev.pos (by omega) (Ev.pos (by omega) (Ev.pos trivial hih)))
theorem lpaTexts_ev (l : List ByteArray) (hl : l.length ≤ 1048576) : Ev (fun k => laws_lpaTexts.f k l l) true := by
  unfold laws_lpaTexts.f
  exact Ev.pos rfl (lpaTexts_l0 l hl _ 0 (Nat.zero_add _))
theorem lpaDisk_l1 {st : Int} {l1 l2 : List ByteArray} {l3 : List Bool} {l4 : List S54} (hl : l4.length ≤ 1048576) (d : Nat) : ∀ i : Nat, i + d = l4.length → Ev (fun k => laws_lpaDisk.l1 k (i : Int) st l1 l2 l3 l4 st l1 l2 l3 l4) true := by
  induction d with
  | zero =>
    intro i hi
    refine Ev.next ?_
    simp only [laws_lpaDisk.l1]
    exact Ev.neg (by omega) (Ev.ret rfl)
  | succ d ih =>
    intro i hi
    have e : wrap64 ((i : Int) + 1) = ((i + 1 : Nat) : Int) := by rw [wrap_ok (by omega)]; omega
    have hih := ih (i + 1) (by omega)
    refine Ev.next ?_
    simp only [laws_lpaDisk.l1, e]
    clear e
    exact Ev.pos (by omega) (Ev.pos (by omega) (Ev.pos (by omega) (Ev.neg (by simp) hih)))
theorem lpaDisk_l0 {st : Int} {l1 l2 : List ByteArray} {l3 : List Bool} {l4 : List S54} (h3 : l3.length ≤ 1048576) (hl : l4.length ≤ 1048576) (d : Nat) : ∀ i : Nat, i + d = l3.length → Ev (fun k => laws_lpaDisk.l0 k (i : Int) st l1 l2 l3 l4 st l1 l2 l3 l4) true := by
  induction d with
  | zero =>
    intro i hi
    refine Ev.next ?_
    simp only [laws_lpaDisk.l0]
    exact Ev.neg (by omega) (lpaDisk_l1 hl l4.length 0 (Nat.zero_add _))
  | succ d ih =>
    intro i hi
    have e : wrap64 ((i : Int) + 1) = ((i + 1 : Nat) : Int) := by rw [wrap_ok (by omega)]; omega
    have hih := ih (i + 1) (by omega)
    refine Ev.next ?_
    simp only [laws_lpaDisk.l0, e]
    clear e
    exact Ev.pos (by omega) (Ev.pos (by omega) (Ev.pos (by omega) (Ev.neg (by simp) hih)))
theorem lpaDisk_ev (st : Int) (l1 l2 : List ByteArray) (l3 : List Bool) (l4 : List S54) (h : Fits l1 l2 l3 l4.length) : Ev (fun k => laws_lpaDisk.f k st l1 l2 l3 l4 st l1 l2 l3 l4) true := by
  unfold laws_lpaDisk.f
  refine Ev.pos rfl (Ev.bind (lpaTexts_ev l1 h.h1) (Ev.pos rfl (Ev.bind (lpaTexts_ev l2 h.h2) (Ev.pos rfl (Ev.pos rfl (Ev.next ?_))))))
  simp only [laws_lpaDisk.j0]
  exact Ev.neg (by simp) (lpaDisk_l0 h.h3 h.h4 l3.length 0 (Nat.zero_add _))
theorem l6In_eq' (n lo hi : Int) : spec_l6In.f n lo hi = some (decide (lo ≤ n ∧ n ≤ hi)) := by
  unfold spec_l6In.f
  by_cases h : n ≥ lo
  · rw [if_pos h]
    congr 1
    by_cases h2 : n ≤ hi
    · rw [decide_eq_true h2, decide_eq_true ⟨h, h2⟩]
    · rw [decide_eq_false h2, decide_eq_false (fun h3 => h2 h3.2)]
  · rw [if_neg h, decide_eq_false (fun h3 => h h3.1)]
abbrev e12 : List ByteArray := List.replicate 12 (⟨#[]⟩ : ByteArray)
abbrev e2 : List ByteArray := List.replicate 2 (⟨#[]⟩ : ByteArray)
abbrev f12 : List Bool := List.replicate 12 false
theorem newGood {st : Int} (h : 0 ≤ st ∧ st ≤ 2) : Print.Good st e12 e2 f12 [] := by
  refine ⟨⟨h, by simp, by simp, by simp, by simp⟩, rfl, fun i hi => ?_, by decide, fun _ => ⟨by decide, by decide, rfl⟩⟩
  have : ∀ i, i < 12 → badSlot (e12.getD i ByteArray.empty) (f12.getD i false) = false := by decide
  exact this i hi
theorem newRead {st : Int} (h : 0 ≤ st ∧ st ≤ 2) (i : Nat) (hi : i < 12) : impl_DiskRead.f st e12 e2 f12 [] (i : Int) = some (seenF e12 [] i, false) := by
  unfold impl_DiskRead.f
  rw [if_pos ⟨newGood h, by omega, by omega⟩, Int.toNat_natCast]
  have : (seenF e12 [] i).toList = [] := by
    simp only [seenF, List.foldl_nil]
    have hz : e12.getD i ByteArray.empty = ⟨#[]⟩ := by simp [List.getD, hi]
    rw [hz]
    simp [ByteArray.toList_eq]
  rw [this]
  rfl
theorem newLoop {st : Int} (h : 0 ≤ st ∧ st ≤ 2) (d : Nat) : ∀ i : Nat, i + d = 12 → Ev (fun k => laws_FnDiskNew.l0 k st (i : Int) st e12 e2 f12 []) true := by
  induction d with
  | zero =>
    intro i hi
    refine Ev.next ?_
    simp only [laws_FnDiskNew.l0]
    exact Ev.neg (by omega) (Ev.take (a := true) (by unfold impl_DiskOk.f goodB; rw [decide_eq_true (newGood h)]) (Ev.pos rfl (Ev.pos trivial (Ev.ret rfl))))
  | succ d ih =>
    intro i hi
    have e : wrap64 ((i : Int) + 1) = ((i + 1 : Nat) : Int) := by rw [wrap_ok (by omega)]; omega
    have hih := ih (i + 1) (by omega)
    refine Ev.next ?_
    simp only [laws_FnDiskNew.l0, e]
    clear e
    exact Ev.pos (by omega) (Ev.take (newRead h i (by omega)) (Ev.neg (by simp) hih))
theorem FnDiskNew : laws_FnDiskNew.Pure := by
  intro l _ _ hw
  apply Ev.rounds
  unfold laws_FnDiskNew.f
  by_cases h0 : (l.length : Int) > 1048576
  · exact Ev.pos h0 (Ev.ret rfl)
  · obtain ⟨b, hb, hc⟩ := open_ev l hw
    obtain ⟨r, hr, hr0, _, _⟩ := pick_ev hc 0 5 (by omega) (by omega)
    obtain ⟨r', hr', hr0', hr1', _⟩ := pick_ev hc 0 5 (by omega) (by omega)
    obtain rfl : r = r' := by have := Ev.unique hr hr'; simpa using this
    have hr1 := hr1' (by omega)
    have hd : Ev (fun k => spec_DrawDiskNew.f k l) (r - 1) := by
      unfold spec_DrawDiskNew.f
      exact Ev.take hb (Ev.bind hr (Ev.ret (wrap_ok (by omega))))
    obtain ⟨st, hst⟩ : ∃ st, st = r - 1 := ⟨_, rfl⟩
    rw [← hst] at hd
    refine Ev.neg h0 (Ev.bind hd ?_)
    by_cases c : 0 ≤ st ∧ st ≤ 2
    · have hi : impl_DiskNew.f st = some (st, e12, e2, f12, []) := by unfold impl_DiskNew.f; rw [if_pos c]; rfl
      have hs : spec_DiskNew.f st = some (st, e12, e2, f12, []) := by
        unfold spec_DiskNew.f
        rw [l6In_eq', decide_eq_true c]
        rfl
      refine Ev.take hi (Ev.take hs (Ev.bind (lpaDisk_ev st e12 e2 f12 [] ⟨by simp, by simp, by simp, by simp⟩) (Ev.pos rfl (Ev.next ?_))))
      simp only [laws_FnDiskNew.j0]
      exact Ev.neg (by decide) (newLoop c 12 0 rfl)
    · have hi : impl_DiskNew.f st = some (0, [], [], [], []) := by unfold impl_DiskNew.f; rw [if_neg c]
      have hs : spec_DiskNew.f st = some (0, [], [], [], []) := by
        unfold spec_DiskNew.f
        rw [l6In_eq', decide_eq_false c]
        rfl
      have hl := lpaDisk_ev 0 [] [] [] [] ⟨by simp, by simp, by simp, by simp⟩
      refine Ev.take hi (Ev.take hs (Ev.bind hl (Ev.pos rfl (Ev.next ?_))))
      simp only [laws_FnDiskNew.j0]
      exact Ev.pos rfl (Ev.take hs (Ev.bind hl (Ev.ret rfl)))
end Go.Proofs.Ytkgpnloghmbmlaa.Pure
namespace Go.Proofs.Ytkgpnloghmbmlaa.fnDiskNew
open Go.ChangeShapes Go.WideShapes Go.ChangeAt Go.RowKit
open Go.ChangeMaps (open_string shut_string)
set_option linter.unusedVariables false
theorem own : ownKnob Try.prog.godebug = none := by kernel_rfl
theorem laidOut : laidOutB Try.prog = true := by kernel_rfl
def IsRow (k : IntKind) (w : World) (a : Option Addr) (len cap : Nat) (zs : List Int) : Prop :=
  (a = none ∧ len = 0 ∧ cap = 0 ∧ zs = []) ∨
  ∃ x, a = some x ∧ len ≤ cap ∧ cap ≤ maxLen ∧ zs.length = cap ∧ (∀ i, i < zs.length → w.cell? (x.add i) = some (.int k (zs.getD i 0))) ∧ ∀ n ∈ zs, (Lit.int k n).wf = true
set_option maxRecDepth 100000 in
theorem lifted (os : Os) (started : os.Started) (H : Type) (enc : TypeId × Value → H) :
    ReturnsInHanded {} Try.checked os 3 .any (Rows.fnDiskNewSpec.pre6 enc Try.prog Try.f3 Rows.fnDiskNewRow.domain false) (Rows.fnDiskNewSpec.post enc Try.prog Try.f3 false true false false) := by
  refine returnsInHanded_of_change_sized (C := Try.checked) own started (by kernel_rfl) Try.func3
    (ChangeSpec.witness6 (enc := enc) (C := Try.checked) false ⟨#[], #[.slice none 0 0], []⟩ 8 (by kernel_rfl) (by kernel_rfl) (by kernel_rfl) (by kernel_rfl)) ?_
  intro W base args ds gs before hval0 hW hcnd hsz0 _
  have hsz : (DataW.weightsEach Try.prog (Try.f3.params.toList ++ Rows.fnDiskNewSpec.plain.varTypes Try.prog) (ds ++ gs)).all (· ≤ reachBytes) = true := hsz0
  have hval : ∀ (j : Nat) t v, Try.f3.params[j]? = some t → args[j]? = some v → Value.okWide Try.prog W .any base t v := hval0
  have hW' := hW
  obtain ⟨p, q, hA0, hV, rfl, hfz, hnd⟩ := hW
  have hA : DataW.TrodAll enc Try.prog W 0 (fun _ => true) true Try.f3.params.toList args.toList ds p := hA0
  rw [Try.params3] at hA hval hsz
  obtain ⟨v0, vs0, d0, ds0, p0, q0, hargs, rfl, rfl, h0, r0⟩ := trodAll_cons hA
  obtain ⟨rfl, rfl, rfl⟩ := trodAll_nil r0
  obtain rfl : args = #[v0] := by cases args; simp_all
  obtain ⟨rfl, rfl⟩ := trodVars_none hV
  obtain ⟨a0, len0, cap0, rfl⟩ := okWide_slice Try.underlying22 (hval 0 22 v0 rfl rfl)
  have k0 := h0
  have lt0 : ∀ x ∈ p0, x.block < W.heap.size := by obtain ⟨m, hm⟩ := k0; exact DataW.trod_lt m _ _ _ hm
  obtain ⟨z0, w0⟩ : ∃ zs, IsRow .u8 W a0 len0 cap0 zs := by
    obtain ⟨fuel, hf⟩ := h0
    rcases open_ints Try.underlying22 Try.underlying5 (by kernel_rfl) hf with ⟨hcs, _⟩ | ⟨x, l, c, zs, hcs, _, hl, hm, hz, _, hcell, hwz⟩
    · simp [Value.cells] at hcs
      obtain ⟨rfl, rfl, rfl⟩ := hcs
      exact ⟨[], .inl ⟨rfl, rfl, rfl, rfl⟩⟩
    · simp [Value.cells] at hcs
      obtain ⟨rfl, rfl, rfl⟩ := hcs
      exact ⟨zs, .inr ⟨_, rfl, hl, hm, by simpa using hz, hcell, hwz⟩⟩
  have y0 : len0 * 1 ≤ 140737488351232 := Go.Proofs.YtkgpnloghmbmlaaW.PrintWords.sized_ints hsz (j := 0) (t := 22) rfl rfl Try.underlying22 Try.underlying5 (by kernel_rfl) (by kernel_rfl) h0
  clear hA0 hval0 hsz0 hsz
  refine (Print.laws_FnDiskNew.walk Pure.FnDiskNew a0 len0 cap0 z0 W w0 y0).mono fun e W' ⟨he, bel⟩ => ?_
  subst he
  exact ⟨_, rfl, _, _, _, [], _, [], hW', trodAll_mk1 (shut_bool Try.underlying4 _), (trodAll_cons_mk (Below.trod laidOut (by kernel_rfl) (of_decide_eq_true (by kernel_rfl)) k0 bel lt0) trodAll_mk0), rfl, bel.frame _, fun h => by cases h⟩
theorem over : Rows.fnDiskNewRow.holds Try.pinned (OpenSpec.ofChange Rows.fnDiskNewSpec) :=
  OpenClaim.holds_of_wide 3 Try.f3 rfl rfl rfl rfl rfl rfl rfl ⟨rfl, rfl, rfl, rfl, rfl⟩ rfl rfl rfl rfl rfl (by kernel_rfl) Try.func3 (by kernel_rfl)
    (of_decide_eq_true (by kernel_rfl)) (by unfold Func.isWrapper; first | (rw [if_pos (by decide +kernel)]; kernel_rfl) | (rw [if_neg (by decide +kernel)]; exact ⟨rfl, rfl⟩))
    (fun os started H enc _ => lifted os started H enc)
theorem proved : Rows.FnDiskNewSaid := over
#print axioms proved
end Go.Proofs.Ytkgpnloghmbmlaa.fnDiskNew
namespace Go.Proofs.Ytkgpnloghmbmlaa
theorem fnDiskNew_holds : Rows.FnDiskNewSaid := fnDiskNew.proved
end Go.Proofs.Ytkgpnloghmbmlaa
