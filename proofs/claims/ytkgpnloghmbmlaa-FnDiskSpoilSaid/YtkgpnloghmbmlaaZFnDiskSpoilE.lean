/- Proved, with what follows on it: the row of the law FnDiskSpoil. Conditions: the row's alone. Texts of this session and words that the kit's print laid for this seat, merged and cut by shrink.py, a program of this session. -/
import Derived.Test.YtkgpnloghmbmlaaZFnDiskSpoilD
namespace Go.Proofs.Ytkgpnloghmbmlaa.Print
open Go.RowKit Go.Proofs.YtkgpnloghmbmlaaW.PrintWords Go.Proofs.YtkgpnloghmbmlaaW.PrintLast Go.Proofs.YtkgpnloghmbmlaaW.PrintMore Go.Proofs.Ytkgpnloghmbmlaa.Drv Go.Proofs.Ytkgpnloghmbmlaa.Hd
set_option linter.unusedVariables false
set_option linter.unusedSimpArgs false
set_option maxHeartbeats 4000000 in
set_option maxRecDepth 100000 in
theorem changed_spoil (a0_0 : Int) (A0_1 : Option Addr) (c0_1 : Nat) (l0_1 : List ByteArray) (A0_2 : Option Addr) (c0_2 : Nat) (l0_2 : List ByteArray) (A0_3 : Option Addr) (c0_3 : Nat) (l0_3 : List Bool) (A0_4 : Option Addr) (c0_4 : Nat) (l0_4 : List (S54)) (cp cq cr : Value) (w : World) (hr0_1 : Kd.C Kd.string w A0_1 l0_1.length l0_1) (hc0_1 : l0_1.length ≤ c0_1) (hr0_2 : Kd.C Kd.string w A0_2 l0_2.length l0_2) (hc0_2 : l0_2.length ≤ c0_2) (hr0_3 : Kd.C Kd.bool w A0_3 l0_3.length l0_3) (hc0_3 : l0_3.length ≤ c0_3) (hr0_4 : Kd.C k54 w A0_4 l0_4.length l0_4) (hc0_4 : l0_4.length ≤ c0_4) (hg : Good a0_0 l0_1 l0_2 l0_3 l0_4) (sp2 : List Bool) (sl2 rg2 : List ByteArray) (ws2 : List S54) (hlen : ws2.length ≤ 40)
    (hcl : ∀ (W : World), Below w.heap.size w W → ∀ (g : Nat) (ns : List (Nat × Pt)), Drv W g a0_0 l0_3 l0_1 l0_2 ns → ns.map (·.2) = l0_4 → w.heap.size ≤ g → Calls Try.prog 86 #[.pointer (some ⟨g, 0, none⟩), cp, cq, cr] W fun e w' => ∃ ns2, e = .returned (.bool true) ∧ Drv w' g a0_0 sp2 sl2 rg2 ns2 ∧ ns2.map (·.2) = ws2 ∧ Below g W w') :
    Calls Try.prog 76 #[.agg #[.int .i64 a0_0, .slice A0_1 l0_1.length c0_1, .slice A0_2 l0_2.length c0_2, .slice A0_3 l0_3.length c0_3, .slice A0_4 l0_4.length c0_4], .func (.func 86) #[] #[cp, cq, cr]] w fun e w' => ∃ v1_ v2_ v3_ v4_ : Value, e = .returned (.agg #[.int .i64 a0_0, v1_, v2_, v3_, v4_]) ∧ Kd.R Kd.string 9 w' w.heap.size (fun k_ => some k_ ≠ (v2_ : Value).ownBlock) v1_ sl2 ∧ Kd.R Kd.string 9 w' w.heap.size (fun k_ => some k_ ≠ (v1_ : Value).ownBlock) v2_ rg2 ∧ Kd.R Kd.bool 4 w' w.heap.size (fun _ => True) v3_ sp2 ∧ Kd.R k54 54 w' w.heap.size (fun _ => True) v4_ ws2 ∧ Below w.heap.size w w' := by
  have hu28 := Try.underlying28
  have HGD := Az.mk (fun (W : World) (hb : Below w.heap.size w W) => readDisk_good2 a0_0 A0_1 c0_1 l0_1 A0_2 c0_2 l0_2 A0_3 c0_3 l0_3 A0_4 c0_4 l0_4 W (Kd.C_below hr0_1 hb) hc0_1 (Kd.C_below hr0_2 hb) hc0_2 (Kd.C_below hr0_3 hb) hc0_3 (Kd.C_below hr0_4 hb) hc0_4 hg)
  have HCL := Az.mk hcl
  have HLEN := Az.mk hlen
  have HB := Az.mk (Below.refl w.heap.size w)
  clear hr0_1 hc0_1 hr0_2 hc0_2 hr0_3 hc0_3 hr0_4 hc0_4 hg hcl hlen
  go_enter Try.func76, Try.ntmps76
  go_wp2_with (first | ((with_reducible refine zqg (N := 2) rfl ?_); refine zqb ?hg (N := 2) ?hd (cs := #[.int .i64 a0_0, .slice A0_1 l0_1.length c0_1, .slice A0_2 l0_2.length c0_2, .slice A0_3 l0_3.length c0_3, .slice A0_4 l0_4.length c0_4]) (t := 28) ?hr ?_; (case hd => rfl); (case hg => rfl); (case hr => first | (go_simp; done) | (go_simp; rfl)); intro gb hg w1 hbox hb; have n0_ := Az.mk (below_step (by repeat (first | (with_reducible first | exact HB.out | apply zq2 | apply zq1 | apply zqd) | exact HB.out)) hb); have BD := Az.mk hbox; clear HB; have HB := n0_; clear n0_ hb hbox hg; have hcd_0 : w1.cell? ⟨gb, 0, none⟩ = some (.int .i64 a0_0) := (zq4 BD.out 0).trans rfl; have hcd_1 : w1.cell? ⟨gb, 1, none⟩ = some (.slice A0_1 l0_1.length c0_1) := (zq4 BD.out 1).trans rfl; have hcd_2 : w1.cell? ⟨gb, 2, none⟩ = some (.slice A0_2 l0_2.length c0_2) := (zq4 BD.out 2).trans rfl; have hcd_3 : w1.cell? ⟨gb, 3, none⟩ = some (.slice A0_3 l0_3.length c0_3) := (zq4 BD.out 3).trans rfl; have hcd_4 : w1.cell? ⟨gb, 4, none⟩ = some (.slice A0_4 l0_4.length c0_4) := (zq4 BD.out 4).trans rfl) | ((with_reducible refine zqg (N := 4) rfl ?_); refine zqb ?hg (N := 4) ?hd (cs := #[.int .i64 0, .slice none 0 0, .slice none 0 0, .slice none 0 0, .slice none 0 0]) (t := 28) ?hr ?_; (case hd => rfl); (case hg => rfl); (case hr => first | (go_simp; done) | (go_simp; rfl)); intro gr hg w2 hbox hb; have n0_ := Az.mk (below_step (by repeat (first | (with_reducible first | exact HB.out | apply zq2 | apply zq1 | apply zqd) | exact HB.out)) hb); have BK := Az.mk hbox; have HGR : Az (w.heap.size ≤ gr) := ⟨by rw [hg]; exact (below_size (by repeat (first | (with_reducible first | exact HB.out | apply zq2 | apply zq1 | apply zqd) | exact HB.out)))⟩; have nd_ := Az.mk (blk_below (g := gb) (o := .cells #[.int .i64 a0_0, .slice A0_1 l0_1.length c0_1, .slice A0_2 l0_2.length c0_2, .slice A0_3 l0_3.length c0_3, .slice A0_4 l0_4.length c0_4] 28 (0, 0)) (by (with_reducible repeat (first | refine zq6 ?_ _ | refine zq8 ?_ | refine zq7 ?_ _)); exact BD.out) hb); clear HB BD; have HB := n0_; have BD := nd_; clear n0_ nd_ hb hbox hg; have hcd_0 : w2.cell? ⟨gb, 0, none⟩ = some (.int .i64 a0_0) := (zq4 BD.out 0).trans rfl; have hcd_1 : w2.cell? ⟨gb, 1, none⟩ = some (.slice A0_1 l0_1.length c0_1) := (zq4 BD.out 1).trans rfl; have hcd_2 : w2.cell? ⟨gb, 2, none⟩ = some (.slice A0_2 l0_2.length c0_2) := (zq4 BD.out 2).trans rfl; have hcd_3 : w2.cell? ⟨gb, 3, none⟩ = some (.slice A0_3 l0_3.length c0_3) := (zq4 BD.out 3).trans rfl; have hcd_4 : w2.cell? ⟨gb, 4, none⟩ = some (.slice A0_4 l0_4.length c0_4) := (zq4 BD.out 4).trans rfl) | (go_at_call 52; refine (HGD.out _ (by repeat (first | (with_reducible first | exact HB.out | apply zq2 | apply zq1 | apply zqd) | exact HB.out))).mono ?_; rintro e w9 ⟨gd, ns, rfl, hgd, hd, hns, hb⟩; have n0_ := Az.mk (below_step (by repeat (first | (with_reducible first | exact HB.out | apply zq2 | apply zq1 | apply zqd) | exact HB.out)) hb); have nk_ := Az.mk (blk_below (g := gr) (o := .cells #[.int .i64 0, .slice none 0 0, .slice none 0 0, .slice none 0 0, .slice none 0 0] 28 (0, 0)) (by (with_reducible repeat (first | refine zq6 ?_ _ | refine zq8 ?_ | refine zq7 ?_ _)); exact BK.out) hb); have HRD : Az (gr < gd) := ⟨Nat.lt_of_lt_of_le (blk_lt (by (with_reducible repeat (first | refine zq6 ?_ _ | refine zq8 ?_ | refine zq7 ?_ _)); exact BK.out)) hgd⟩; have HWD : Az (w.heap.size ≤ gd) := ⟨Nat.le_trans (below_size (by repeat (first | (with_reducible first | exact HB.out | apply zq2 | apply zq1 | apply zqd) | exact HB.out))) hgd⟩; have HD := Az.mk hd; have HNS := Az.mk hns; clear HB BK; have HB := n0_; have BK := nk_; clear n0_ nk_ hb hd hns hgd) | (go_at_call 86; refine (HCL.out _ (by repeat (first | (with_reducible first | exact HB.out | apply zq2 | apply zq1 | apply zqd) | exact HB.out)) gd ns (by (with_reducible repeat (first | refine drv_drewN ?_ _ | refine drv_drew ?_)); exact HD.out) HNS.out HWD.out).mono ?_; rintro e w10 ⟨ns2, rfl, hd, hns2_, hb⟩; have hns := hns2_; clear hns2_; have hwg := HGR.out; have n0_ := Az.mk (Below.trans (by repeat (first | (with_reducible first | exact HB.out | apply zq2 | apply zq1 | apply zqd) | exact HB.out)) (hb.mono (by have h1 := HGR.out; have h2 := HRD.out; omega))); have nk_ : Az (w10.heap[gr]? = some (.cells #[.int .i64 0, .slice none 0 0, .slice none 0 0, .slice none 0 0, .slice none 0 0] 28 (0, 0))) := ⟨(hb.block gr HRD.out).trans (by (with_reducible repeat (first | refine zq6 ?_ _ | refine zq8 ?_ | refine zq7 ?_ _)); exact BK.out)⟩; have nd_ := Az.mk hd; have HNS2 := Az.mk hns; clear HB BK HD HNS; have HB := n0_; have BK := nk_; have HD := nd_; clear n0_ nk_ nd_ hd hns hb hwg) | (go_at_call 50; refine (disk_calls gd a0_0 sp2 sl2 rg2 ns2 _ (by (with_reducible repeat (first | refine drv_drewN ?_ _ | refine drv_drew ?_)); exact HD.out) (by have h1 := HLEN.out; have h2 := congrArg List.length HNS2.out; rw [List.length_map] at h2; omega)).mono ?_; rintro e w12 ⟨v1, v2, v3, v4, rfl, ho1, ho2, ho3, ho4, hb⟩; rw [HNS2.out] at ho4; obtain ⟨A1, c1, rfl⟩ := Kd.R_slice ho1; obtain ⟨A2, c2, rfl⟩ := Kd.R_slice ho2; obtain ⟨A3, c3, rfl⟩ := Kd.R_slice ho3; obtain ⟨A4, c4, rfl⟩ := Kd.R_slice ho4; have n0_ := Az.mk (below_step (by repeat (first | (with_reducible first | exact HB.out | apply zq2 | apply zq1 | apply zqd) | exact HB.out)) hb); have n1_ := Az.mk (blk_below (g := gr) (o := .cells #[.int .i64 0, .slice none 0 0, .slice none 0 0, .slice none 0 0, .slice none 0 0] 28 (0, 0)) (by (with_reducible repeat (first | refine zq6 ?_ _ | refine zq8 ?_ | refine zq7 ?_ _)); exact BK.out) hb); have HG5 : Az (gr < _) := ⟨blk_lt (by (with_reducible repeat (first | refine zq6 ?_ _ | refine zq8 ?_ | refine zq7 ?_ _)); exact BK.out)⟩; have HS5 : Az (w.heap.size ≤ _) := ⟨below_size (by repeat (first | (with_reducible first | exact HB.out | apply zq2 | apply zq1 | apply zqd) | exact HB.out))⟩; have HO1 := Az.mk ho1; have HO2 := Az.mk ho2; have HO3 := Az.mk ho3; have HO4 := Az.mk ho4; clear HB BK; have HB := n0_; have BK := n1_; clear n0_ n1_ ho1 ho2 ho3 ho4 hb; have hcz_0 : w12.cell? ⟨gr, 0, none⟩ = some (.int .i64 0) := (zq4 BK.out 0).trans rfl; have hcz_1 : w12.cell? ⟨gr, 1, none⟩ = some (.slice none 0 0) := (zq4 BK.out 1).trans rfl; have hcz_2 : w12.cell? ⟨gr, 2, none⟩ = some (.slice none 0 0) := (zq4 BK.out 2).trans rfl; have hcz_3 : w12.cell? ⟨gr, 3, none⟩ = some (.slice none 0 0) := (zq4 BK.out 3).trans rfl; have hcz_4 : w12.cell? ⟨gr, 4, none⟩ = some (.slice none 0 0) := (zq4 BK.out 4).trans rfl; have hfz_0 := zq5 BK.out 0; have hfz_1 := zq5 BK.out 1; have hfz_2 := zq5 BK.out 2; have hfz_3 := zq5 BK.out 3; have hfz_4 := zq5 BK.out 4))
  have hset : ∀ {W : World} (h : Below w.heap.size w W) (j : Nat) (u : Value), Below w.heap.size w (W.setCell ⟨gr, j, none⟩ u) := fun h j u => zq3 h HGR.out
  refine bodyPost_ret (results_cell_row rfl _ _ gr 28 #[.int .i64 a0_0, .slice A1 sl2.length c1, .slice A2 rg2.length c2, .slice A3 sp2.length c3, .slice A4 ws2.length c4] (0, 0) _ rfl (by
    refine blk_put (cs := #[.int .i64 a0_0, .slice A1 sl2.length c1, .slice A2 rg2.length c2, .slice A3 sp2.length c3, .slice none 0 0]) ?_ 4 _ rfl
    refine blk_put (cs := #[.int .i64 a0_0, .slice A1 sl2.length c1, .slice A2 rg2.length c2, .slice none 0 0, .slice none 0 0]) ?_ 3 _ rfl
    refine blk_put (cs := #[.int .i64 a0_0, .slice A1 sl2.length c1, .slice none 0 0, .slice none 0 0, .slice none 0 0]) ?_ 2 _ rfl
    refine blk_put (cs := #[.int .i64 a0_0, .slice none 0 0, .slice none 0 0, .slice none 0 0, .slice none 0 0]) ?_ 1 _ rfl
    refine blk_put (cs := #[.int .i64 0, .slice none 0 0, .slice none 0 0, .slice none 0 0, .slice none 0 0]) ?_ 0 _ rfl
    exact BK.out) Try.underlying28 rfl (by kernel_rfl)) rfl ?_
  exact ⟨_, _, _, _, rfl, Kd.R_lower (R_setOwn (R_setOwn (R_setOwn (R_setOwn (R_setOwn HO1.out HG5.out 0 _) HG5.out 1 _) HG5.out 2 _) HG5.out 3 _) HG5.out 4 _) HS5.out,
    Kd.R_lower (R_setOwn (R_setOwn (R_setOwn (R_setOwn (R_setOwn HO2.out HG5.out 0 _) HG5.out 1 _) HG5.out 2 _) HG5.out 3 _) HG5.out 4 _) HS5.out,
    Kd.R_lower (R_setOwn (R_setOwn (R_setOwn (R_setOwn (R_setOwn HO3.out HG5.out 0 _) HG5.out 1 _) HG5.out 2 _) HG5.out 3 _) HG5.out 4 _) HS5.out,
    Kd.R_lower (R_setOwn (R_setOwn (R_setOwn (R_setOwn (R_setOwn HO4.out HG5.out 0 _) HG5.out 1 _) HG5.out 2 _) HG5.out 3 _) HG5.out 4 _) HS5.out,
    hset (hset (hset (hset (hset HB.out 0 _) 1 _) 2 _) 3 _) 4 _⟩
set_option maxHeartbeats 4000000 in
set_option maxRecDepth 100000 in
theorem changed_spoil_no (a0_0 : Int) (A0_1 : Option Addr) (c0_1 : Nat) (l0_1 : List ByteArray) (A0_2 : Option Addr) (c0_2 : Nat) (l0_2 : List ByteArray) (A0_3 : Option Addr) (c0_3 : Nat) (l0_3 : List Bool) (A0_4 : Option Addr) (c0_4 : Nat) (l0_4 : List (S54)) (cp cq cr : Value) (w : World) (hr0_1 : Kd.C Kd.string w A0_1 l0_1.length l0_1) (hc0_1 : l0_1.length ≤ c0_1) (hr0_2 : Kd.C Kd.string w A0_2 l0_2.length l0_2) (hc0_2 : l0_2.length ≤ c0_2) (hr0_3 : Kd.C Kd.bool w A0_3 l0_3.length l0_3) (hc0_3 : l0_3.length ≤ c0_3) (hr0_4 : Kd.C k54 w A0_4 l0_4.length l0_4) (hc0_4 : l0_4.length ≤ c0_4) (hg : Good a0_0 l0_1 l0_2 l0_3 l0_4)
    (hcl : ∀ (W : World), Below w.heap.size w W → ∀ (g : Nat) (ns : List (Nat × Pt)), Drv W g a0_0 l0_3 l0_1 l0_2 ns → ns.map (·.2) = l0_4 → w.heap.size ≤ g → Calls Try.prog 86 #[.pointer (some ⟨g, 0, none⟩), cp, cq, cr] W fun e w' => e = .returned (.bool false) ∧ Below g W w') :
    Calls Try.prog 76 #[.agg #[.int .i64 a0_0, .slice A0_1 l0_1.length c0_1, .slice A0_2 l0_2.length c0_2, .slice A0_3 l0_3.length c0_3, .slice A0_4 l0_4.length c0_4], .func (.func 86) #[] #[cp, cq, cr]] w fun e w' => ∃ v1_ v2_ v3_ v4_ : Value, e = .returned (.agg #[.int .i64 0, v1_, v2_, v3_, v4_]) ∧ Kd.R Kd.string 9 w' w.heap.size (fun k_ => some k_ ≠ (v2_ : Value).ownBlock) v1_ ([] : List ByteArray) ∧ Kd.R Kd.string 9 w' w.heap.size (fun k_ => some k_ ≠ (v1_ : Value).ownBlock) v2_ ([] : List ByteArray) ∧ Kd.R Kd.bool 4 w' w.heap.size (fun _ => True) v3_ ([] : List Bool) ∧ Kd.R k54 54 w' w.heap.size (fun _ => True) v4_ ([] : List S54) ∧ Below w.heap.size w w' := by
  have hu28 := Try.underlying28
  have HGD := Az.mk (fun (W : World) (hb : Below w.heap.size w W) => readDisk_good2 a0_0 A0_1 c0_1 l0_1 A0_2 c0_2 l0_2 A0_3 c0_3 l0_3 A0_4 c0_4 l0_4 W (Kd.C_below hr0_1 hb) hc0_1 (Kd.C_below hr0_2 hb) hc0_2 (Kd.C_below hr0_3 hb) hc0_3 (Kd.C_below hr0_4 hb) hc0_4 hg)
  have HCL := Az.mk hcl
  have HB := Az.mk (Below.refl w.heap.size w)
  clear hr0_1 hc0_1 hr0_2 hc0_2 hr0_3 hc0_3 hr0_4 hc0_4 hg hcl
  go_enter Try.func76, Try.ntmps76
  go_wp2_with (first | ((with_reducible refine zqg (N := 2) rfl ?_); refine zqb ?hg (N := 2) ?hd (cs := #[.int .i64 a0_0, .slice A0_1 l0_1.length c0_1, .slice A0_2 l0_2.length c0_2, .slice A0_3 l0_3.length c0_3, .slice A0_4 l0_4.length c0_4]) (t := 28) ?hr ?_; (case hd => rfl); (case hg => rfl); (case hr => first | (go_simp; done) | (go_simp; rfl)); intro gb hg w1 hbox hb; have n0_ := Az.mk (below_step (by repeat (first | (with_reducible first | exact HB.out | apply zq2 | apply zq1 | apply zqd) | exact HB.out)) hb); have BD := Az.mk hbox; clear HB; have HB := n0_; clear n0_ hb hbox hg; have hcd_0 : w1.cell? ⟨gb, 0, none⟩ = some (.int .i64 a0_0) := (zq4 BD.out 0).trans rfl; have hcd_1 : w1.cell? ⟨gb, 1, none⟩ = some (.slice A0_1 l0_1.length c0_1) := (zq4 BD.out 1).trans rfl; have hcd_2 : w1.cell? ⟨gb, 2, none⟩ = some (.slice A0_2 l0_2.length c0_2) := (zq4 BD.out 2).trans rfl; have hcd_3 : w1.cell? ⟨gb, 3, none⟩ = some (.slice A0_3 l0_3.length c0_3) := (zq4 BD.out 3).trans rfl; have hcd_4 : w1.cell? ⟨gb, 4, none⟩ = some (.slice A0_4 l0_4.length c0_4) := (zq4 BD.out 4).trans rfl) | ((with_reducible refine zqg (N := 4) rfl ?_); refine zqb ?hg (N := 4) ?hd (cs := #[.int .i64 0, .slice none 0 0, .slice none 0 0, .slice none 0 0, .slice none 0 0]) (t := 28) ?hr ?_; (case hd => rfl); (case hg => rfl); (case hr => first | (go_simp; done) | (go_simp; rfl)); intro gr hg w2 hbox hb; have n0_ := Az.mk (below_step (by repeat (first | (with_reducible first | exact HB.out | apply zq2 | apply zq1 | apply zqd) | exact HB.out)) hb); have BK := Az.mk hbox; have HGR : Az (w.heap.size ≤ gr) := ⟨by rw [hg]; exact (below_size (by repeat (first | (with_reducible first | exact HB.out | apply zq2 | apply zq1 | apply zqd) | exact HB.out)))⟩; have nd_ := Az.mk (blk_below (g := gb) (o := .cells #[.int .i64 a0_0, .slice A0_1 l0_1.length c0_1, .slice A0_2 l0_2.length c0_2, .slice A0_3 l0_3.length c0_3, .slice A0_4 l0_4.length c0_4] 28 (0, 0)) (by (with_reducible repeat (first | refine zq6 ?_ _ | refine zq8 ?_ | refine zq7 ?_ _)); exact BD.out) hb); clear HB BD; have HB := n0_; have BD := nd_; clear n0_ nd_ hb hbox hg; have hcd_0 : w2.cell? ⟨gb, 0, none⟩ = some (.int .i64 a0_0) := (zq4 BD.out 0).trans rfl; have hcd_1 : w2.cell? ⟨gb, 1, none⟩ = some (.slice A0_1 l0_1.length c0_1) := (zq4 BD.out 1).trans rfl; have hcd_2 : w2.cell? ⟨gb, 2, none⟩ = some (.slice A0_2 l0_2.length c0_2) := (zq4 BD.out 2).trans rfl; have hcd_3 : w2.cell? ⟨gb, 3, none⟩ = some (.slice A0_3 l0_3.length c0_3) := (zq4 BD.out 3).trans rfl; have hcd_4 : w2.cell? ⟨gb, 4, none⟩ = some (.slice A0_4 l0_4.length c0_4) := (zq4 BD.out 4).trans rfl) | (go_at_call 52; refine (HGD.out _ (by repeat (first | (with_reducible first | exact HB.out | apply zq2 | apply zq1 | apply zqd) | exact HB.out))).mono ?_; rintro e w9 ⟨gd, ns, rfl, hgd, hd, hns, hb⟩; have n0_ := Az.mk (below_step (by repeat (first | (with_reducible first | exact HB.out | apply zq2 | apply zq1 | apply zqd) | exact HB.out)) hb); have nk_ := Az.mk (blk_below (g := gr) (o := .cells #[.int .i64 0, .slice none 0 0, .slice none 0 0, .slice none 0 0, .slice none 0 0] 28 (0, 0)) (by (with_reducible repeat (first | refine zq6 ?_ _ | refine zq8 ?_ | refine zq7 ?_ _)); exact BK.out) hb); have HRD : Az (gr < gd) := ⟨Nat.lt_of_lt_of_le (blk_lt (by (with_reducible repeat (first | refine zq6 ?_ _ | refine zq8 ?_ | refine zq7 ?_ _)); exact BK.out)) hgd⟩; have HWD : Az (w.heap.size ≤ gd) := ⟨Nat.le_trans (below_size (by repeat (first | (with_reducible first | exact HB.out | apply zq2 | apply zq1 | apply zqd) | exact HB.out))) hgd⟩; have HD := Az.mk hd; have HNS := Az.mk hns; clear HB BK; have HB := n0_; have BK := nk_; clear n0_ nk_ hb hd hns hgd) | (go_at_call 86; refine (HCL.out _ (by repeat (first | (with_reducible first | exact HB.out | apply zq2 | apply zq1 | apply zqd) | exact HB.out)) gd ns (by (with_reducible repeat (first | refine drv_drewN ?_ _ | refine drv_drew ?_)); exact HD.out) HNS.out HWD.out).mono ?_; rintro e w10 ⟨rfl, hb⟩; have n0_ := Az.mk (Below.trans (by repeat (first | (with_reducible first | exact HB.out | apply zq2 | apply zq1 | apply zqd) | exact HB.out)) (hb.mono (by have h1 := HGR.out; have h2 := HRD.out; omega))); have nk_ : Az (w10.heap[gr]? = some (.cells #[.int .i64 0, .slice none 0 0, .slice none 0 0, .slice none 0 0, .slice none 0 0] 28 (0, 0))) := ⟨(hb.block gr HRD.out).trans (by (with_reducible repeat (first | refine zq6 ?_ _ | refine zq8 ?_ | refine zq7 ?_ _)); exact BK.out)⟩; clear HB BK HD HNS; have HB := n0_; have BK := nk_; clear n0_ nk_ hb; have hcz_0 : w10.cell? ⟨gr, 0, none⟩ = some (.int .i64 0) := (zq4 BK.out 0).trans rfl; have hcz_1 : w10.cell? ⟨gr, 1, none⟩ = some (.slice none 0 0) := (zq4 BK.out 1).trans rfl; have hcz_2 : w10.cell? ⟨gr, 2, none⟩ = some (.slice none 0 0) := (zq4 BK.out 2).trans rfl; have hcz_3 : w10.cell? ⟨gr, 3, none⟩ = some (.slice none 0 0) := (zq4 BK.out 3).trans rfl; have hcz_4 : w10.cell? ⟨gr, 4, none⟩ = some (.slice none 0 0) := (zq4 BK.out 4).trans rfl; have hfz_0 := zq5 BK.out 0; have hfz_1 := zq5 BK.out 1; have hfz_2 := zq5 BK.out 2; have hfz_3 := zq5 BK.out 3; have hfz_4 := zq5 BK.out 4))
  have hset : ∀ {W : World} (h : Below w.heap.size w W) (j : Nat) (u : Value), Below w.heap.size w (W.setCell ⟨gr, j, none⟩ u) := fun h j u => zq3 h HGR.out
  refine bodyPost_ret (results_cell_row rfl _ _ gr 28 #[.int .i64 0, .slice none 0 0, .slice none 0 0, .slice none 0 0, .slice none 0 0] (0, 0) _ rfl (by
    refine blk_put (cs := #[.int .i64 0, .slice none 0 0, .slice none 0 0, .slice none 0 0, .slice none 0 0]) ?_ 4 _ rfl
    refine blk_put (cs := #[.int .i64 0, .slice none 0 0, .slice none 0 0, .slice none 0 0, .slice none 0 0]) ?_ 3 _ rfl
    refine blk_put (cs := #[.int .i64 0, .slice none 0 0, .slice none 0 0, .slice none 0 0, .slice none 0 0]) ?_ 2 _ rfl
    refine blk_put (cs := #[.int .i64 0, .slice none 0 0, .slice none 0 0, .slice none 0 0, .slice none 0 0]) ?_ 1 _ rfl
    refine blk_put (cs := #[.int .i64 0, .slice none 0 0, .slice none 0 0, .slice none 0 0, .slice none 0 0]) ?_ 0 _ rfl
    exact BK.out) Try.underlying28 rfl (by kernel_rfl)) rfl ?_
  exact ⟨_, _, _, _, rfl, Kd.R_nil _ _ _ _ _, Kd.R_nil _ _ _ _ _, Kd.R_nil _ _ _ _ _, Kd.R_nil _ _ _ _ _, hset (hset (hset (hset (hset HB.out 0 _) 1 _) 2 _) 3 _) 4 _⟩
set_option maxHeartbeats 8000000 in
set_option maxRecDepth 100000 in
theorem spoilFn_no (g ga gb gc : Nat) (a b c : Int) (w : World) (hca : w.cell? ⟨ga, 0, none⟩ = some (.int .i64 a)) (hcb : w.cell? ⟨gb, 0, none⟩ = some (.int .i64 b)) (hcc : w.cell? ⟨gc, 0, none⟩ = some (.int .i64 c)) (hno : ¬ (0 ≤ a ∧ a < 12 ∧ 0 ≤ b ∧ b < 3 ∧ 1 ≤ c ∧ c ≤ 255)) :
    Calls Try.prog 86 #[.pointer (some ⟨g, 0, none⟩), .pointer (some ⟨ga, 0, none⟩), .pointer (some ⟨gb, 0, none⟩), .pointer (some ⟨gc, 0, none⟩)] w fun e w' => e = .returned (.bool false) ∧ Below g w w' := by
  by_cases t0 : a < 0
  · have l0 := eq_true t0
    clear hno t0
    go_enter Try.func86, Try.ntmps86
    go_wp2
    go_ret
    exact ⟨rfl, Below.refl _ _⟩
  by_cases t1 : 12 ≤ a
  · have l1 := eq_true t1
    have l0 := eq_false t0
    clear hno t0 t1
    go_enter Try.func86, Try.ntmps86
    go_wp2
    go_ret
    exact ⟨rfl, Below.refl _ _⟩
  by_cases t2 : b < 0
  · have l2 := eq_true t2
    have l0 := eq_false t0
    have l1 := eq_false t1
    clear hno t0 t1 t2
    go_enter Try.func86, Try.ntmps86
    go_wp2
    go_ret
    exact ⟨rfl, Below.refl _ _⟩
  by_cases t3 : 3 ≤ b
  · have l3 := eq_true t3
    have l0 := eq_false t0
    have l1 := eq_false t1
    have l2 := eq_false t2
    clear hno t0 t1 t2 t3
    go_enter Try.func86, Try.ntmps86
    go_wp2
    go_ret
    exact ⟨rfl, Below.refl _ _⟩
  by_cases t4 : c < 1
  · have l4 := eq_true t4
    have l0 := eq_false t0
    have l1 := eq_false t1
    have l2 := eq_false t2
    have l3 := eq_false t3
    clear hno t0 t1 t2 t3 t4
    go_enter Try.func86, Try.ntmps86
    go_wp2
    go_ret
    exact ⟨rfl, Below.refl _ _⟩
  by_cases t5 : 255 < c
  · have l5 := eq_true t5
    have l0 := eq_false t0
    have l1 := eq_false t1
    have l2 := eq_false t2
    have l3 := eq_false t3
    have l4 := eq_false t4
    clear hno t0 t1 t2 t3 t4 t5
    go_enter Try.func86, Try.ntmps86
    go_wp2
    go_ret
    exact ⟨rfl, Below.refl _ _⟩
  omega
end Go.Proofs.Ytkgpnloghmbmlaa.Print
namespace Go.Proofs.Ytkgpnloghmbmlaa.Hd
open Go.RowKit Go.Proofs.Ytkgpnloghmbmlaa.Print Go.Proofs.YtkgpnloghmbmlaaW.PrintWords Go.Proofs.YtkgpnloghmbmlaaW.PrintLast Go.Proofs.YtkgpnloghmbmlaaW.PrintMore Go.Proofs.Ytkgpnloghmbmlaa.Pure Go.Proofs.Ytkgpnloghmbmlaa.Drv
set_option linter.unusedVariables false
set_option linter.unusedSimpArgs false
def SpoilOk (a b c : Int) : Prop := 0 ≤ a ∧ a < 12 ∧ 0 ≤ b ∧ b < 3 ∧ 1 ≤ c ∧ c ≤ 255
instance (a b c : Int) : Decidable (SpoilOk a b c) := by unfold SpoilOk; infer_instance
def spoilS (D : Dd) (a b c : Int) : Dd := if GoodD D ∧ SpoilOk a b c then spoilD D a.toNat b.toNat c else noD
theorem slot_good {D : Dd} (h : GoodD D) {a : Nat} (ha : a < 12) : ((D.l1.getD a ByteArray.empty).size = 0 ∧ D.l3.getD a false = false) ∨ (D.l1.getD a ByteArray.empty).size = 3 := by
  have h1 := h.so a ha
  unfold badSlot at h1
  split at h1
  · exact .inl ⟨by assumption, h1⟩
  · exact .inr (by simpa using h1)
theorem empty_of {s : ByteArray} (h : s.size = 0) : s.toList.isEmpty = true := by
  have h1 : s.toList.length = s.size := by simp [ByteArray.toList_eq]
  cases h2 : s.toList with
  | nil => rfl
  | cons _ _ => rw [h2] at h1; simp at h1; omega
theorem nonempty_of {s : ByteArray} (h : s.size ≠ 0) : s.toList.isEmpty = false := by
  have h1 : s.toList.length = s.size := by simp [ByteArray.toList_eq]
  cases h2 : s.toList with
  | nil => rw [h2] at h1; simp at h1; omega
  | cons _ _ => rfl
theorem Own.lower {w : World} {lo lo' hi hi' : Nat} {M : Mm} {D : Dd} (h : Own w lo hi M D) (h1 : lo' ≤ lo) (h2 : hi ≤ hi') : Own w lo' hi' M D :=
  ⟨Kd.R_mono (Kd.R_lower h.o1 h1) fun _ hk => ⟨Nat.lt_of_lt_of_le hk.1 h2, hk.2⟩, Kd.R_mono (Kd.R_lower h.o2 h1) fun _ hk => ⟨Nat.lt_of_lt_of_le hk.1 h2, hk.2⟩, Kd.R_mono (Kd.R_lower h.o3 h1) fun _ hk => Nat.lt_of_lt_of_le hk h2, Kd.R_mono (Kd.R_lower h.o4 h1) fun _ hk => Nat.lt_of_lt_of_le hk h2⟩
theorem Below.cell' {w0 w : World} {A : Addr} {v : Value} (hb : Below w0.heap.size w0 w) (h : w0.cell? A = some v) : w.cell? A = some v := (hb.cell (World.block_lt_of_cell? w0 _ h)).trans h
theorem changedS {w : World} {M : Mm} {D : Dd} (a b c : Int) {g5 g6 g7 : Nat} (h : Rd w M D) (c5 : w.cell? ⟨g5, 0, none⟩ = some (.int .i64 a)) (c6 : w.cell? ⟨g6, 0, none⟩ = some (.int .i64 b)) (c7 : w.cell? ⟨g7, 0, none⟩ = some (.int .i64 c)) :
    Calls Try.prog 76 #[.agg (cD M D), .func (.func 86) #[] #[.pointer (some ⟨g5, 0, none⟩), .pointer (some ⟨g6, 0, none⟩), .pointer (some ⟨g7, 0, none⟩)]] w (Gives (spoilS D a b c) w) := by
  have l5 := World.block_lt_of_cell? w _ c5
  have l6 := World.block_lt_of_cell? w _ c6
  have l7 := World.block_lt_of_cell? w _ c7
  by_cases hg : GoodD D
  · by_cases hs : SpoilOk a b c
    · have e : spoilS D a b c = spoilD D a.toNat b.toNat c := if_pos ⟨hg, hs⟩
      rw [e]
      obtain ⟨h0, h1, h2, h3, h4, h5⟩ := hs
      obtain ⟨a, rfl⟩ := Int.eq_ofNat_of_zero_le h0
      obtain ⟨b, rfl⟩ := Int.eq_ofNat_of_zero_le h2
      simp only [Int.toNat_natCast]
      have hso := slot_good hg (a := a) (by omega)
      by_cases hz : (D.l1.getD a ByteArray.empty).size = 0 ∨ D.l3.getD a false = true
      · have e2 : spoilD D a b c = D := if_pos hz
        rw [e2]
        have hz2 : (D.l1.getD a ByteArray.empty).toList.isEmpty = true ∨ ((D.l1.getD a ByteArray.empty).toList.isEmpty = false ∧ D.l3.getD a false = true) := by
          by_cases h6 : (D.l1.getD a ByteArray.empty).size = 0
          · exact .inl (empty_of h6)
          · exact .inr ⟨nonempty_of h6, hz.resolve_left h6⟩
        refine (changed_spoil D.st M.A1 M.c1 D.l1 M.A2 M.c2 D.l2 M.A3 M.c3 D.l3 M.A4 M.c4 D.l4 _ _ _ w h.r1 h.h1 h.r2 h.h2 h.r3 h.h3 h.r4 h.h4 hg D.l3 D.l1 D.l2 D.l4 hg.sh.2.2.2.2 (fun W hb g ns hD hns hgw => ?_)).mono fun e w' hh => gives_of hh
        refine (spoilFn_same g g5 g6 g7 D.st D.l3 D.l1 D.l2 ns a b c W hD (by omega) (by omega) ⟨h4, h5⟩ (Below.cell' hb c5) (Below.cell' hb c6) (Below.cell' hb c7) hz2).mono fun e w' hh => ⟨ns, hh.1, hh.2.1, hns, hh.2.2⟩
      · have e2 : spoilD D a b c = { D with l1 := D.l1.set a (turned (D.l1.getD a ByteArray.empty) b c), l3 := D.l3.set a true } := if_neg hz
        rw [e2]
        have h6 : ¬ (D.l1.getD a ByteArray.empty).size = 0 := fun hh => hz (.inl hh)
        have h7 : D.l3.getD a false = false := by
          cases hh : D.l3.getD a false with
          | false => rfl
          | true => exact absurd (.inr hh) hz
        refine (changed_spoil D.st M.A1 M.c1 D.l1 M.A2 M.c2 D.l2 M.A3 M.c3 D.l3 M.A4 M.c4 D.l4 _ _ _ w h.r1 h.h1 h.r2 h.h2 h.r3 h.h3 h.r4 h.h4 hg (D.l3.set a true) (D.l1.set a (turned (D.l1.getD a ByteArray.empty) b c)) D.l2 D.l4 hg.sh.2.2.2.2 (fun W hb g ns hD hns hgw => ?_)).mono fun e w' hh => gives_of hh
        refine (spoilFn_main g g5 g6 g7 D.st D.l3 D.l1 D.l2 ns a b c W hD (by omega) (by omega) ⟨h4, h5⟩ (Below.cell' hb c5) (Below.cell' hb c6) (Below.cell' hb c7) (Nat.lt_of_lt_of_le l5 hgw) (Nat.lt_of_lt_of_le l6 hgw) (Nat.lt_of_lt_of_le l7 hgw) (nonempty_of h6) (by have := hso.resolve_left (fun hh => h6 hh.1); omega) h7).mono fun e w' hh => ⟨ns, hh.1, hh.2.1, hns, hh.2.2⟩
    · have e : spoilS D a b c = noD := if_neg fun hh => hs hh.2
      rw [e]
      refine (changed_spoil_no D.st M.A1 M.c1 D.l1 M.A2 M.c2 D.l2 M.A3 M.c3 D.l3 M.A4 M.c4 D.l4 _ _ _ w h.r1 h.h1 h.r2 h.h2 h.r3 h.h3 h.r4 h.h4 hg (fun W hb g ns hD hns hgw => ?_)).mono fun e w' hh => gives_of hh
      exact spoilFn_no g g5 g6 g7 a b c W (Below.cell' hb c5) (Below.cell' hb c6) (Below.cell' hb c7) hs
  · have e : spoilS D a b c = noD := if_neg fun hh => hg hh.1
    rw [e]
    exact (changed_bad D.st M.A1 M.c1 D.l1 M.A2 M.c2 D.l2 M.A3 M.c3 D.l3 M.A4 M.c4 D.l4 _ w h.r1 h.h1 h.r2 h.h2 h.r3 h.h3 h.r4 h.h4 hg).mono fun e w' hh => gives_of hh
set_option maxHeartbeats 8000000 in
set_option maxRecDepth 100000 in
theorem implSpoil_call {w : World} {M : Mm} {D : Dd} (a b c : Int) (h : Rd w M D) : Calls Try.prog 42 #[.agg (cD M D), .int .i64 a, .int .i64 b, .int .i64 c] w (Gives (spoilS D a b c) w) := by
  have hs28 := sizeE28
  have HR := Az.mk h
  have H := Az.mk (Hd.start w)
  have tk0 : True := trivial
  clear h
  go_enter Try.func42, Try.ntmps42
  go_wp2_with (first | ((with_reducible refine zqg (N := 4) rfl ?_); refine H.out.bx rfl ((cD M D)) 28 ?hr ?_; (case hr => first | (go_simp; done) | (go_simp; rfl)); intro g4 w4 H1; clear H; have H := H1; clear H1; (try simp only [Act.put, List.setIfInBounds_toArray, List.set_cons_zero, List.set_cons_succ])) | ((with_reducible refine zqg (N := 5) rfl ?_); refine H.out.bx rfl (#[.int .i64 a]) 3 ?hr ?_; (case hr => first | (go_simp; done) | (go_simp; rfl)); intro g5 w5 H1; clear H; have H := H1; clear H1; (try simp only [Act.put, List.setIfInBounds_toArray, List.set_cons_zero, List.set_cons_succ])) | ((with_reducible refine zqg (N := 6) rfl ?_); refine H.out.bx rfl (#[.int .i64 b]) 3 ?hr ?_; (case hr => first | (go_simp; done) | (go_simp; rfl)); intro g6 w6 H1; clear H; have H := H1; clear H1; (try simp only [Act.put, List.setIfInBounds_toArray, List.set_cons_zero, List.set_cons_succ])) | ((with_reducible refine zqg (N := 7) rfl ?_); refine H.out.bx rfl (#[.int .i64 c]) 3 ?hr ?_; (case hr => first | (go_simp; done) | (go_simp; rfl)); intro g7 w7 H1; clear H; have H := H1; clear H1; (try simp only [Act.put, List.setIfInBounds_toArray, List.set_cons_zero, List.set_cons_succ])) | ((with_reducible refine zqg (N := 8) rfl ?_); refine H.out.bx rfl (#[.int .i64 0, .slice none 0 0, .slice none 0 0, .slice none 0 0, .slice none 0 0]) 28 ?hr ?_; (case hr => first | (go_simp; done) | (go_simp; rfl)); intro g8 w8 H1; clear H; have H := H1; clear H1; (try simp only [Act.put, List.setIfInBounds_toArray, List.set_cons_zero, List.set_cons_succ])) | ((with_reducible refine zqg (N := 9) rfl ?_); refine H.out.ld_row 4 rfl rfl rfl rfl Try.underlying28 rfl hs28 ?_; (try simp only [Act.put, List.setIfInBounds_toArray, List.set_cons_zero, List.set_cons_succ])) | (go_at_call 76; have _tk := tk0; refine (changedS a b c (HR.out.below H.out.bel) (zq4 (H.out.box 3 rfl) 0) (zq4 (H.out.box 2 rfl) 0) (zq4 (H.out.box 1 rfl) 0)).mono ?_; rintro e w11 ⟨M11, rfl, ho, hb⟩; have O11 := Az.mk ho; clear ho; have H1 := Az.mk (H.out.made hb); clear hb; clear H; have H := H1; clear H1; clear tk0 _tk; have tk1 : True := trivial) | ((with_reducible refine gate_store (t := 28) (p := 8) rfl ?_); refine H.out.st_row 1 rfl rfl (x := .tmp 8) (y := .tmp 11) rfl rfl rfl ((cD M11 (spoilS D a b c))) rfl hs28 rfl (cD_one _ _) ?_; intro ws1_3 H1; clear H; have H := H1; clear H1))
  exact bodyPost_ret (results_cell_row rfl _ _ g8 28 _ (0, 0) _ rfl (H.out.box 1 rfl) Try.underlying28 rfl (by kernel_rfl)) rfl ⟨M11, rfl, (H.out.own 0 rfl O11.out).lower (H.out.same_ge 0 rfl) (H.out.same_le 0 rfl), H.out.bel⟩
end Go.Proofs.Ytkgpnloghmbmlaa.Hd
namespace Go.Proofs.Ytkgpnloghmbmlaa.Hd
open Go.RowKit Go.Proofs.Ytkgpnloghmbmlaa.Print Go.Proofs.YtkgpnloghmbmlaaW.PrintWords Go.Proofs.YtkgpnloghmbmlaaW.PrintLast Go.Proofs.YtkgpnloghmbmlaaW.PrintMore Go.Proofs.Ytkgpnloghmbmlaa.Pure Go.Proofs.Ytkgpnloghmbmlaa.Drv
set_option linter.unusedVariables false
set_option linter.unusedSimpArgs false
theorem specOk_call {w : World} {M : Mm} {D : Dd} {r : Bool} (hf : FitsD D) (hr : goodB D.st D.l1 D.l2 D.l3 D.l4 = r) (h : Rd w M D) : Calls Try.prog 26 #[.agg (cD M D)] w fun e w' => e = .returned (.bool r) ∧ Below w.heap.size w w' := by
  subst hr
  obtain ⟨K, hK⟩ := specDiskOk_ev D.st D.l1 D.l2 D.l3 D.l4 hf.h4
  exact spec_DiskOk.calls (hr0_1 := h.r1) (hc0_1 := h.h1) (hr0_2 := h.r2) (hc0_2 := h.h2) (hr0_3 := h.r3) (hc0_3 := h.h3) (hr0_4 := h.r4) (hc0_4 := h.h4) (h := hK K (Nat.le_refl _))
theorem l6In_call {w : World} (n lo hi : Int) (r : Bool) (hr : decide (lo ≤ n ∧ n ≤ hi) = r) : Calls Try.prog 51 #[.int .i64 n, .int .i64 lo, .int .i64 hi] w fun e w' => e = .returned (.bool r) ∧ Below w.heap.size w w' := by
  subst hr
  exact (spec_l6In.calls n lo hi _ w (l6In_eq n lo hi)).mono fun e w' h => by
    first
    | exact h
    | exact ⟨h.1, h.2.below⟩
    | (obtain ⟨h1, h2⟩ := h; subst h2; exact ⟨h1, Below.refl _ _⟩)
def M0 : Mm := ⟨none, 0, none, 0, none, 0, none, 0⟩
theorem own_no (w : World) (lo hi : Nat) : Own w lo hi M0 noD := ⟨Kd.R_nil _ _ _ _ _, Kd.R_nil _ _ _ _ _, Kd.R_nil _ _ _ _ _, Kd.R_nil _ _ _ _ _⟩
structure SpoilIn (D : Dd) (a b : Nat) (c : Int) : Prop where
  a1 : a < D.l1.length
  a3 : a < D.l3.length
  l1 : D.l1.length ≤ 1048576
  l3 : D.l3.length ≤ 1048576
  b : (D.l1.getD a ByteArray.empty).size = 0 ∨ b < (D.l1.getD a ByteArray.empty).size
  s : (D.l1.getD a ByteArray.empty).size ≤ 1099511627776
  c : 0 ≤ c ∧ c ≤ 255
theorem l3Spoil_call {w : World} {lo hi : Nat} {M : Mm} {D : Dd} {a b : Nat} {c : Int} (h : Own w lo hi M D) (hhi : hi ≤ w.heap.size) (hs : SpoilIn D a b c) :
    Calls Try.prog 87 #[.agg (cD M D), .int .i64 (a : Int), .int .i64 (b : Int), .int .i64 c] w fun e w' => e = .returned (.agg (cD M (spoilD D a b c))) ∧ Own w' lo hi M (spoilD D a b c) ∧ Below lo w w' ∧ ∀ k, k < w.heap.size → (k < lo ∨ hi ≤ k) → w'.heap[k]? = w.heap[k]? := by
  by_cases hz : (D.l1.getD a ByteArray.empty).size = 0 ∨ D.l3.getD a false = true
  · have e : spoilD D a b c = D := if_pos hz
    rw [e]
    refine spoil_same h hhi hs.a1 hs.a3 hs.l1 hs.l3 ?_
    by_cases h6 : (D.l1.getD a ByteArray.empty).size = 0
    · exact .inl (empty_of h6)
    · exact .inr ⟨nonempty_of h6, hz.resolve_left h6⟩
  · have e : spoilD D a b c = { D with l1 := D.l1.set a (turned (D.l1.getD a ByteArray.empty) b c), l3 := D.l3.set a true } := if_neg hz
    have h7 : D.l3.getD a false = false := by
      cases hh : D.l3.getD a false with
      | false => rfl
      | true => exact absurd (.inr hh) hz
    rw [e]
    refine (spoil_main h hhi hs.a1 hs.a3 hs.l1 hs.l3 (hs.b.resolve_left fun hh => hz (.inl hh)) hs.s hs.c h7).mono fun e w' hh => ?_
    exact ⟨by rw [cD_set]; exact hh.1, hh.2⟩
set_option maxHeartbeats 8000000 in
set_option maxRecDepth 100000 in
theorem specSpoil_no {w : World} {M : Mm} {D : Dd} (a b c : Int) (hf : FitsD D) (h : Rd w M D) (hno : ¬ (GoodD D ∧ SpoilOk a b c)) : Calls Try.prog 43 #[.agg (cD M D), .int .i64 a, .int .i64 b, .int .i64 c] w (Gives noD w) := by
  have hs28 := sizeE28
  have HF := Az.mk hf
  have HR := Az.mk h
  have H := Az.mk (Hd.start w)
  have tk0 : True := trivial
  have hb0 : goodB D.st D.l1 D.l2 D.l3 D.l4 = true ↔ GoodD D := by simp [goodB, GoodD]
  clear h hf
  cases e0 : goodB D.st D.l1 D.l2 D.l3 D.l4 with
  | false =>
    have HGB := Az.mk e0
    clear hno hb0 e0
    go_enter Try.func43, Try.ntmps43
    go_wp2_with (first | ((with_reducible refine zqg (N := 4) rfl ?_); refine H.out.bx rfl ((cD M D)) 28 ?hr ?_; (case hr => first | (go_simp; done) | (go_simp; rfl)); intro g4 w4 H1; clear H; have H := H1; clear H1; (try simp only [Act.put, List.setIfInBounds_toArray, List.set_cons_zero, List.set_cons_succ])) | ((with_reducible refine zqg (N := 8) rfl ?_); refine H.out.bx rfl (#[.int .i64 0, .slice none 0 0, .slice none 0 0, .slice none 0 0, .slice none 0 0]) 28 ?hr ?_; (case hr => first | (go_simp; done) | (go_simp; rfl)); intro g8 w8 H1; clear H; have H := H1; clear H1; (try simp only [Act.put, List.setIfInBounds_toArray, List.set_cons_zero, List.set_cons_succ])) | ((with_reducible refine zqg (N := 9) rfl ?_); refine H.out.ld_row 1 rfl rfl rfl rfl Try.underlying28 rfl hs28 ?_; (try simp only [Act.put, List.setIfInBounds_toArray, List.set_cons_zero, List.set_cons_succ])) | (go_at_call 26; have _tk := tk0; refine (specOk_call HF.out HGB.out (HR.out.below H.out.bel)).mono ?_; rintro e w10 ⟨rfl, hb⟩; have H1 := Az.mk (H.out.step hb); clear hb; clear H; have H := H1; clear H1; clear tk0 _tk; have tk1 : True := trivial) | (go_at_call 51; have _tk := tk1; refine (l6In_call _ _ _ _ H14.out).mono ?_; rintro e w14 ⟨rfl, hb⟩; have H1 := Az.mk (H.out.step hb); clear hb; clear H; have H := H1; clear H1; clear tk1 _tk; have tk2 : True := trivial) | (go_at_call 51; have _tk := tk2; refine (l6In_call _ _ _ _ H19.out).mono ?_; rintro e w19 ⟨rfl, hb⟩; have H1 := Az.mk (H.out.step hb); clear hb; clear H; have H := H1; clear H1; clear tk2 _tk; have tk3 : True := trivial) | (go_at_call 51; have _tk := tk3; refine (l6In_call _ _ _ _ H24.out).mono ?_; rintro e w24 ⟨rfl, hb⟩; have H1 := Az.mk (H.out.step hb); clear hb; clear H; have H := H1; clear H1; clear tk3 _tk; have tk4 : True := trivial) | ((with_reducible refine gate_store (t := 28) (p := 8) rfl ?_); refine H.out.st_row 0 rfl rfl (x := .tmp 8) (y := .tmp 27) rfl rfl rfl ((#[.int .i64 0, .slice none 0 0, .slice none 0 0, .slice none 0 0, .slice none 0 0])) rfl hs28 rfl (by simp [Value.oneCell']) ?_; intro ws2_1 H1; clear H; have H := H1; clear H1))
    exact bodyPost_ret (results_cell_row rfl _ _ g8 28 _ (0, 0) _ rfl (H.out.box 0 rfl) Try.underlying28 rfl (by kernel_rfl)) rfl ⟨M0, rfl, own_no _ _ _, H.out.bel⟩
  | true =>
    cases e1 : decide (0 ≤ a ∧ a ≤ 11) with
    | false =>
      have H14 := Az.mk e1
      have HGB := Az.mk e0
      clear hno hb0 e0 e1
      go_enter Try.func43, Try.ntmps43
      go_wp2_with (first | ((with_reducible refine zqg (N := 4) rfl ?_); refine H.out.bx rfl ((cD M D)) 28 ?hr ?_; (case hr => first | (go_simp; done) | (go_simp; rfl)); intro g4 w4 H1; clear H; have H := H1; clear H1; (try simp only [Act.put, List.setIfInBounds_toArray, List.set_cons_zero, List.set_cons_succ])) | ((with_reducible refine zqg (N := 8) rfl ?_); refine H.out.bx rfl (#[.int .i64 0, .slice none 0 0, .slice none 0 0, .slice none 0 0, .slice none 0 0]) 28 ?hr ?_; (case hr => first | (go_simp; done) | (go_simp; rfl)); intro g8 w8 H1; clear H; have H := H1; clear H1; (try simp only [Act.put, List.setIfInBounds_toArray, List.set_cons_zero, List.set_cons_succ])) | ((with_reducible refine zqg (N := 9) rfl ?_); refine H.out.ld_row 1 rfl rfl rfl rfl Try.underlying28 rfl hs28 ?_; (try simp only [Act.put, List.setIfInBounds_toArray, List.set_cons_zero, List.set_cons_succ])) | (go_at_call 26; have _tk := tk0; refine (specOk_call HF.out HGB.out (HR.out.below H.out.bel)).mono ?_; rintro e w10 ⟨rfl, hb⟩; have H1 := Az.mk (H.out.step hb); clear hb; clear H; have H := H1; clear H1; clear tk0 _tk; have tk1 : True := trivial) | (go_at_call 51; have _tk := tk1; refine (l6In_call _ _ _ _ H14.out).mono ?_; rintro e w14 ⟨rfl, hb⟩; have H1 := Az.mk (H.out.step hb); clear hb; clear H; have H := H1; clear H1; clear tk1 _tk; have tk2 : True := trivial) | (go_at_call 51; have _tk := tk2; refine (l6In_call _ _ _ _ H19.out).mono ?_; rintro e w19 ⟨rfl, hb⟩; have H1 := Az.mk (H.out.step hb); clear hb; clear H; have H := H1; clear H1; clear tk2 _tk; have tk3 : True := trivial) | (go_at_call 51; have _tk := tk3; refine (l6In_call _ _ _ _ H24.out).mono ?_; rintro e w24 ⟨rfl, hb⟩; have H1 := Az.mk (H.out.step hb); clear hb; clear H; have H := H1; clear H1; clear tk3 _tk; have tk4 : True := trivial) | ((with_reducible refine gate_store (t := 28) (p := 8) rfl ?_); refine H.out.st_row 0 rfl rfl (x := .tmp 8) (y := .tmp 27) rfl rfl rfl ((#[.int .i64 0, .slice none 0 0, .slice none 0 0, .slice none 0 0, .slice none 0 0])) rfl hs28 rfl (by simp [Value.oneCell']) ?_; intro ws2_1 H1; clear H; have H := H1; clear H1))
      exact bodyPost_ret (results_cell_row rfl _ _ g8 28 _ (0, 0) _ rfl (H.out.box 0 rfl) Try.underlying28 rfl (by kernel_rfl)) rfl ⟨M0, rfl, own_no _ _ _, H.out.bel⟩
    | true =>
      cases e2 : decide (0 ≤ b ∧ b ≤ 2) with
      | false =>
        have H19 := Az.mk e2
        have HGB := Az.mk e0
        have H14 := Az.mk e1
        clear hno hb0 e0 e1 e2
        go_enter Try.func43, Try.ntmps43
        go_wp2_with (first | ((with_reducible refine zqg (N := 4) rfl ?_); refine H.out.bx rfl ((cD M D)) 28 ?hr ?_; (case hr => first | (go_simp; done) | (go_simp; rfl)); intro g4 w4 H1; clear H; have H := H1; clear H1; (try simp only [Act.put, List.setIfInBounds_toArray, List.set_cons_zero, List.set_cons_succ])) | ((with_reducible refine zqg (N := 8) rfl ?_); refine H.out.bx rfl (#[.int .i64 0, .slice none 0 0, .slice none 0 0, .slice none 0 0, .slice none 0 0]) 28 ?hr ?_; (case hr => first | (go_simp; done) | (go_simp; rfl)); intro g8 w8 H1; clear H; have H := H1; clear H1; (try simp only [Act.put, List.setIfInBounds_toArray, List.set_cons_zero, List.set_cons_succ])) | ((with_reducible refine zqg (N := 9) rfl ?_); refine H.out.ld_row 1 rfl rfl rfl rfl Try.underlying28 rfl hs28 ?_; (try simp only [Act.put, List.setIfInBounds_toArray, List.set_cons_zero, List.set_cons_succ])) | (go_at_call 26; have _tk := tk0; refine (specOk_call HF.out HGB.out (HR.out.below H.out.bel)).mono ?_; rintro e w10 ⟨rfl, hb⟩; have H1 := Az.mk (H.out.step hb); clear hb; clear H; have H := H1; clear H1; clear tk0 _tk; have tk1 : True := trivial) | (go_at_call 51; have _tk := tk1; refine (l6In_call _ _ _ _ H14.out).mono ?_; rintro e w14 ⟨rfl, hb⟩; have H1 := Az.mk (H.out.step hb); clear hb; clear H; have H := H1; clear H1; clear tk1 _tk; have tk2 : True := trivial) | (go_at_call 51; have _tk := tk2; refine (l6In_call _ _ _ _ H19.out).mono ?_; rintro e w19 ⟨rfl, hb⟩; have H1 := Az.mk (H.out.step hb); clear hb; clear H; have H := H1; clear H1; clear tk2 _tk; have tk3 : True := trivial) | (go_at_call 51; have _tk := tk3; refine (l6In_call _ _ _ _ H24.out).mono ?_; rintro e w24 ⟨rfl, hb⟩; have H1 := Az.mk (H.out.step hb); clear hb; clear H; have H := H1; clear H1; clear tk3 _tk; have tk4 : True := trivial) | ((with_reducible refine gate_store (t := 28) (p := 8) rfl ?_); refine H.out.st_row 0 rfl rfl (x := .tmp 8) (y := .tmp 27) rfl rfl rfl ((#[.int .i64 0, .slice none 0 0, .slice none 0 0, .slice none 0 0, .slice none 0 0])) rfl hs28 rfl (by simp [Value.oneCell']) ?_; intro ws2_1 H1; clear H; have H := H1; clear H1))
        exact bodyPost_ret (results_cell_row rfl _ _ g8 28 _ (0, 0) _ rfl (H.out.box 0 rfl) Try.underlying28 rfl (by kernel_rfl)) rfl ⟨M0, rfl, own_no _ _ _, H.out.bel⟩
      | true =>
        cases e3 : decide (1 ≤ c ∧ c ≤ 255) with
        | false =>
          have H24 := Az.mk e3
          have HGB := Az.mk e0
          have H14 := Az.mk e1
          have H19 := Az.mk e2
          clear hno hb0 e0 e1 e2 e3
          go_enter Try.func43, Try.ntmps43
          go_wp2_with (first | ((with_reducible refine zqg (N := 4) rfl ?_); refine H.out.bx rfl ((cD M D)) 28 ?hr ?_; (case hr => first | (go_simp; done) | (go_simp; rfl)); intro g4 w4 H1; clear H; have H := H1; clear H1; (try simp only [Act.put, List.setIfInBounds_toArray, List.set_cons_zero, List.set_cons_succ])) | ((with_reducible refine zqg (N := 8) rfl ?_); refine H.out.bx rfl (#[.int .i64 0, .slice none 0 0, .slice none 0 0, .slice none 0 0, .slice none 0 0]) 28 ?hr ?_; (case hr => first | (go_simp; done) | (go_simp; rfl)); intro g8 w8 H1; clear H; have H := H1; clear H1; (try simp only [Act.put, List.setIfInBounds_toArray, List.set_cons_zero, List.set_cons_succ])) | ((with_reducible refine zqg (N := 9) rfl ?_); refine H.out.ld_row 1 rfl rfl rfl rfl Try.underlying28 rfl hs28 ?_; (try simp only [Act.put, List.setIfInBounds_toArray, List.set_cons_zero, List.set_cons_succ])) | (go_at_call 26; have _tk := tk0; refine (specOk_call HF.out HGB.out (HR.out.below H.out.bel)).mono ?_; rintro e w10 ⟨rfl, hb⟩; have H1 := Az.mk (H.out.step hb); clear hb; clear H; have H := H1; clear H1; clear tk0 _tk; have tk1 : True := trivial) | (go_at_call 51; have _tk := tk1; refine (l6In_call _ _ _ _ H14.out).mono ?_; rintro e w14 ⟨rfl, hb⟩; have H1 := Az.mk (H.out.step hb); clear hb; clear H; have H := H1; clear H1; clear tk1 _tk; have tk2 : True := trivial) | (go_at_call 51; have _tk := tk2; refine (l6In_call _ _ _ _ H19.out).mono ?_; rintro e w19 ⟨rfl, hb⟩; have H1 := Az.mk (H.out.step hb); clear hb; clear H; have H := H1; clear H1; clear tk2 _tk; have tk3 : True := trivial) | (go_at_call 51; have _tk := tk3; refine (l6In_call _ _ _ _ H24.out).mono ?_; rintro e w24 ⟨rfl, hb⟩; have H1 := Az.mk (H.out.step hb); clear hb; clear H; have H := H1; clear H1; clear tk3 _tk; have tk4 : True := trivial) | ((with_reducible refine gate_store (t := 28) (p := 8) rfl ?_); refine H.out.st_row 0 rfl rfl (x := .tmp 8) (y := .tmp 27) rfl rfl rfl ((#[.int .i64 0, .slice none 0 0, .slice none 0 0, .slice none 0 0, .slice none 0 0])) rfl hs28 rfl (by simp [Value.oneCell']) ?_; intro ws2_1 H1; clear H; have H := H1; clear H1))
          exact bodyPost_ret (results_cell_row rfl _ _ g8 28 _ (0, 0) _ rfl (H.out.box 0 rfl) Try.underlying28 rfl (by kernel_rfl)) rfl ⟨M0, rfl, own_no _ _ _, H.out.bel⟩
        | true =>
          exact absurd ⟨hb0.1 e0, by have h1 := of_decide_eq_true e1; have h2 := of_decide_eq_true e2; have h3 := of_decide_eq_true e3; unfold SpoilOk; omega⟩ hno
set_option maxHeartbeats 8000000 in
set_option maxRecDepth 100000 in
theorem specSpoil_yes {w : World} {M : Mm} {D : Dd} (a b : Nat) (c : Int) (h : Rd w M D) (hg : GoodD D) (hs : SpoilOk a b c) : Calls Try.prog 43 #[.agg (cD M D), .int .i64 (a : Int), .int .i64 (b : Int), .int .i64 c] w (Gives (spoilD D a b c) w) := by
  have hs28 := sizeE28
  have HF := Az.mk (fits_good hg)
  have HR := Az.mk h
  have H := Az.mk (Hd.start w)
  have tk0 : True := trivial
  have HGB : Az (goodB D.st D.l1 D.l2 D.l3 D.l4 = true) := ⟨decide_eq_true hg⟩
  have hs' := hs
  unfold SpoilOk at hs'
  have H14 : Az (decide (0 ≤ (a : Int) ∧ (a : Int) ≤ 11) = true) := ⟨decide_eq_true (by omega)⟩
  have H19 : Az (decide (0 ≤ (b : Int) ∧ (b : Int) ≤ 2) = true) := ⟨decide_eq_true (by omega)⟩
  have H24 : Az (decide (1 ≤ c ∧ c ≤ 255) = true) := ⟨decide_eq_true (by omega)⟩
  have hso := slot_good hg (a := a) (by omega)
  have HS : Az (SpoilIn D a b c) := ⟨by have := hg.sh.2.1; omega, by have := hg.sh.2.2.2.1; omega, by have := hg.sh.2.1; omega, by have := hg.sh.2.2.2.1; omega, by rcases hso with h | h <;> omega, by rcases hso with h | h <;> omega, by omega⟩
  clear h hg hs hs' hso
  go_enter Try.func43, Try.ntmps43
  go_wp2_with (first | ((with_reducible refine zqg (N := 4) rfl ?_); refine H.out.bx rfl ((cD M D)) 28 ?hr ?_; (case hr => first | (go_simp; done) | (go_simp; rfl)); intro g4 w4 H1; clear H; have H := H1; clear H1; (try simp only [Act.put, List.setIfInBounds_toArray, List.set_cons_zero, List.set_cons_succ])) | ((with_reducible refine zqg (N := 8) rfl ?_); refine H.out.bx rfl (#[.int .i64 0, .slice none 0 0, .slice none 0 0, .slice none 0 0, .slice none 0 0]) 28 ?hr ?_; (case hr => first | (go_simp; done) | (go_simp; rfl)); intro g8 w8 H1; clear H; have H := H1; clear H1; (try simp only [Act.put, List.setIfInBounds_toArray, List.set_cons_zero, List.set_cons_succ])) | ((with_reducible refine zqg (N := 9) rfl ?_); refine H.out.ld_row 1 rfl rfl rfl rfl Try.underlying28 rfl hs28 ?_; (try simp only [Act.put, List.setIfInBounds_toArray, List.set_cons_zero, List.set_cons_succ])) | (go_at_call 26; have _tk := tk0; refine (specOk_call HF.out HGB.out (HR.out.below H.out.bel)).mono ?_; rintro e w10 ⟨rfl, hb⟩; have H1 := Az.mk (H.out.step hb); clear hb; clear H; have H := H1; clear H1; clear tk0 _tk; have tk1 : True := trivial) | (go_at_call 51; have _tk := tk1; refine (l6In_call _ _ _ _ H14.out).mono ?_; rintro e w14 ⟨rfl, hb⟩; have H1 := Az.mk (H.out.step hb); clear hb; clear H; have H := H1; clear H1; clear tk1 _tk; have tk2 : True := trivial) | (go_at_call 51; have _tk := tk2; refine (l6In_call _ _ _ _ H19.out).mono ?_; rintro e w19 ⟨rfl, hb⟩; have H1 := Az.mk (H.out.step hb); clear hb; clear H; have H := H1; clear H1; clear tk2 _tk; have tk3 : True := trivial) | (go_at_call 51; have _tk := tk3; refine (l6In_call _ _ _ _ H24.out).mono ?_; rintro e w24 ⟨rfl, hb⟩; have H1 := Az.mk (H.out.step hb); clear hb; clear H; have H := H1; clear H1; clear tk3 _tk; have tk4 : True := trivial) | ((with_reducible refine zqg (N := 28) rfl ?_); refine H.out.ld_row 1 rfl rfl rfl rfl Try.underlying28 rfl hs28 ?_; (try simp only [Act.put, List.setIfInBounds_toArray, List.set_cons_zero, List.set_cons_succ])) | (go_at_call 80; have _tk := tk4; refine (l3Copy_call HF.out (HR.out.below H.out.bel)).mono ?_; rintro e w29 ⟨M29, rfl, ho, hb⟩; have O29 := Az.mk ho; clear ho; have H1 := Az.mk (H.out.made hb); clear hb; clear H; have H := H1; clear H1; clear tk4 _tk; have tk5 : True := trivial) | (go_at_call 87; have _tk := tk5; refine (l3Spoil_call (H.out.own 0 rfl O29.out) (H.out.same_le 0 rfl) HS.out).mono ?_; rintro e w33 ⟨rfl, ho, hb, hk⟩; have O33 := Az.mk ho; have hb := hb.mono (H.out.same_ge 0 rfl); clear ho; have H1 := Az.mk (H.out.wrote 0 rfl hb hk); clear hb hk; clear H; have H := H1; clear H1; clear tk5 _tk; have tk6 : True := trivial) | ((with_reducible refine gate_store (t := 28) (p := 8) rfl ?_); refine H.out.st_row 1 rfl rfl (x := .tmp 8) (y := .tmp 33) rfl rfl rfl ((cD M29 (spoilD D a b c))) rfl hs28 rfl (cD_one _ _) ?_; intro ws3_6 H1; clear H; have H := H1; clear H1))
  exact bodyPost_ret (results_cell_row rfl _ _ g8 28 _ (0, 0) _ rfl (H.out.box 1 rfl) Try.underlying28 rfl (by kernel_rfl)) rfl ⟨M29, rfl, (H.out.own 0 rfl O33.out).lower (H.out.same_ge 0 rfl) (H.out.same_le 0 rfl), H.out.bel⟩
theorem specSpoil_call {w : World} {M : Mm} {D : Dd} (a b c : Int) (hf : FitsD D) (h : Rd w M D) : Calls Try.prog 43 #[.agg (cD M D), .int .i64 a, .int .i64 b, .int .i64 c] w (Gives (spoilS D a b c) w) := by
  by_cases hg : GoodD D ∧ SpoilOk a b c
  · have e : spoilS D a b c = spoilD D a.toNat b.toNat c := if_pos hg
    rw [e]
    obtain ⟨a, rfl⟩ := Int.eq_ofNat_of_zero_le hg.2.1
    obtain ⟨b, rfl⟩ := Int.eq_ofNat_of_zero_le hg.2.2.2.1
    exact specSpoil_yes a b c h hg.1 hg.2
  · have e : spoilS D a b c = noD := if_neg hg
    rw [e]
    exact specSpoil_no a b c hf h hg
end Go.Proofs.Ytkgpnloghmbmlaa.Hd
namespace Go.Proofs.Ytkgpnloghmbmlaa.Hq
open Go.RowKit Go.Proofs.Ytkgpnloghmbmlaa.Print Go.Proofs.YtkgpnloghmbmlaaW.PrintWords Go.Proofs.YtkgpnloghmbmlaaW.PrintLast Go.Proofs.YtkgpnloghmbmlaaW.PrintMore Go.Proofs.Ytkgpnloghmbmlaa.Hd Go.Proofs.Ytkgpnloghmbmlaa.Pure
set_option linter.unusedVariables false
structure OwS (w : World) (b : Nat) (S : Nat → Prop) (M : Mm) (D : Dd) : Prop where
  o1 : Kd.R Kd.string 9 w b (fun k => S k ∧ some k ≠ (M.s2 D).ownBlock) (M.s1 D) D.l1
  o2 : Kd.R Kd.string 9 w b (fun k => S k ∧ some k ≠ (M.s1 D).ownBlock) (M.s2 D) D.l2
  o3 : Kd.R Kd.bool 4 w b (fun k => S k) (M.s3 D) D.l3
  o4 : Kd.R k54 54 w b (fun k => S k) (M.s4 D) D.l4
section
variable {w w' : World} {b : Nat} {S : Nat → Prop} {M : Mm} {D : Dd}
theorem OwS.rd (h : OwS w b S M D) : Rd w M D :=
  ⟨(R_C h.o1 rfl).1, (R_C h.o1 rfl).2, (R_C h.o2 rfl).1, (R_C h.o2 rfl).2, (R_C h.o3 rfl).1, (R_C h.o3 rfl).2, (R_C h.o4 rfl).1, (R_C h.o4 rfl).2⟩
theorem OwS.move (h : OwS w b S M D) (hk : ∀ k, S k → w'.heap[k]? = w.heap[k]?) : OwS w' b S M D :=
  ⟨Kd.R_move h.o1 fun k hk1 => hk k hk1.1, Kd.R_move h.o2 fun k hk1 => hk k hk1.1, Kd.R_move h.o3 fun k hk1 => hk k hk1, Kd.R_move h.o4 fun k hk1 => hk k hk1⟩
theorem Hq.ows {base : Nat} {w0 : World} {L : List Part} {wc : World} (h : Hq base w0 w L) (i : Nat) (e : L[i]? = some (.set S wc)) (ho : OwS wc b S M D) : OwS w b S M D := ho.move (h.same i e)
theorem OwS.of_own {lo hi : Nat} (h : Own w lo hi M D) (hb : b ≤ lo) : OwS w b (fun k => lo ≤ k ∧ k < hi) M D :=
  ⟨Kd.R_lower (Kd.R_mono (Kd.R_bound h.o1) fun k hk => ⟨⟨hk.2.1, hk.1.1⟩, hk.1.2⟩) hb, Kd.R_lower (Kd.R_mono (Kd.R_bound h.o2) fun k hk => ⟨⟨hk.2.1, hk.1.1⟩, hk.1.2⟩) hb, Kd.R_lower (Kd.R_mono (Kd.R_bound h.o3) fun k hk => ⟨hk.2.1, hk.1⟩) hb, Kd.R_lower (Kd.R_mono (Kd.R_bound h.o4) fun k hk => ⟨hk.2.1, hk.1⟩) hb⟩
def Touch (b : Nat) (S : Nat → Prop) (D' : Dd) (w : World) (e : Ending) (w' : World) : Prop := ∃ M' : Mm, e = .returned (.agg (cD M' D')) ∧ OwS w' b (fun k => (S k ∨ w.heap.size ≤ k) ∧ k < w'.heap.size) M' D' ∧ Below b w w' ∧ ∀ k, k < w.heap.size → ¬ S k → w'.heap[k]? = w.heap[k]?
theorem touch_of {w0 : World} {M : Mm} (hB : Below w0.heap.size w0 w) (h : OwS w w0.heap.size S M D) {e : Ending} {st : Int} {l1 l2 : List ByteArray} {l3 : List Bool} {l4 : List S54} {P1 P2 P3 P4 : Nat → Prop} (i1 : ∀ k, P1 k → S k) (i2 : ∀ k, P2 k → S k) (i3 : ∀ k, P3 k → S k) (i4 : ∀ k, P4 k → S k)
    (hr : ∃ v1_ v2_ v3_ v4_ : Value, e = .returned (.agg #[.int .i64 st, v1_, v2_, v3_, v4_]) ∧ Kd.R Kd.string 9 w' w0.heap.size (fun k_ => ((P1 k_ ∨ P2 k_ ∨ P3 k_ ∨ P4 k_) ∨ w.heap.size ≤ k_) ∧ some k_ ≠ (v2_ : Value).ownBlock) v1_ l1 ∧ Kd.R Kd.string 9 w' w0.heap.size (fun k_ => ((P1 k_ ∨ P2 k_ ∨ P3 k_ ∨ P4 k_) ∨ w.heap.size ≤ k_) ∧ some k_ ≠ (v1_ : Value).ownBlock) v2_ l2 ∧ Kd.R Kd.bool 4 w' w0.heap.size (fun k_ => ((P1 k_ ∨ P2 k_ ∨ P3 k_ ∨ P4 k_) ∨ w.heap.size ≤ k_)) v3_ l3 ∧ Kd.R k54 54 w' w0.heap.size (fun k_ => ((P1 k_ ∨ P2 k_ ∨ P3 k_ ∨ P4 k_) ∨ w.heap.size ≤ k_)) v4_ l4 ∧ Below w0.heap.size w0 w' ∧ Kept w w' (fun k_ => P1 k_ ∨ P2 k_ ∨ P3 k_ ∨ P4 k_)) :
    Touch w0.heap.size S ⟨st, l1, l2, l3, l4⟩ w e w' := by
  obtain ⟨v1, v2, v3, v4, he, q1, q2, q3, q4, hb', hk⟩ := hr
  obtain ⟨A1, c1, rfl⟩ := Kd.R_slice q1
  obtain ⟨A2, c2, rfl⟩ := Kd.R_slice q2
  obtain ⟨A3, c3, rfl⟩ := Kd.R_slice q3
  obtain ⟨A4, c4, rfl⟩ := Kd.R_slice q4
  have up : ∀ k, ((P1 k ∨ P2 k ∨ P3 k ∨ P4 k) ∨ w.heap.size ≤ k) → k < w'.heap.size → (S k ∨ w.heap.size ≤ k) ∧ k < w'.heap.size := fun k h1 h2 => by
    refine ⟨?_, h2⟩
    rcases h1 with (h1 | h1 | h1 | h1) | h1
    · exact .inl (i1 k h1)
    · exact .inl (i2 k h1)
    · exact .inl (i3 k h1)
    · exact .inl (i4 k h1)
    · exact .inr h1
  refine ⟨⟨A1, c1, A2, c2, A3, c3, A4, c4⟩, he, ⟨?_, ?_, ?_, ?_⟩, ⟨hb'.os.trans hB.os.symm, hb'.tape.trans hB.tape.symm, hb'.output.trans hB.output.symm, hk.1, fun k h1 => (hb'.block k h1).trans (hB.block k h1).symm⟩, fun k h1 h2 => hk.2 k h1 ?_⟩
  · exact Kd.R_mono (Kd.R_bound q1) fun k hk => ⟨up k hk.1.1 hk.2.2.1, hk.1.2⟩
  · exact Kd.R_mono (Kd.R_bound q2) fun k hk => ⟨up k hk.1.1 hk.2.2.1, hk.1.2⟩
  · exact Kd.R_mono (Kd.R_bound q3) fun k hk => up k hk.1 hk.2.2.1
  · exact Kd.R_mono (Kd.R_bound q4) fun k hk => up k hk.1 hk.2.2.1
  · rintro (h3 | h3 | h3 | h3)
    · exact h2 (i1 k h3)
    · exact h2 (i2 k h3)
    · exact h2 (i3 k h3)
    · exact h2 (i4 k h3)
theorem l3Flush_callq {w0 : World} (hB : Below w0.heap.size w0 w) (h : OwS w w0.heap.size S M D) (hg : GoodD D) : Calls Try.prog 79 #[.agg (cD M D)] w (Touch w0.heap.size S (comeD D) w) := by
  have hf := fits_good hg
  obtain ⟨K, hK⟩ := flush_ev (st := D.st) hf.h4 (good_put hg) hg.sh.2.1 hg.sh.2.2.1 hg.sh.2.2.2.1
  have g1 := own_ge h.o1
  have g2 := own_ge h.o2
  have g3 := own_ge h.o3
  have g4 := own_ge h.o4
  refine (spec_l3Flush.calls (k := K) (P0_1_ := fun k => (M.s1 D).ownBlock = some k) (P0_2_ := fun k => (M.s2 D).ownBlock = some k) (P0_3_ := fun k => (M.s3 D).ownBlock = some k) (P0_4_ := fun k => (M.s4 D).ownBlock = some k) (w0 := w0) (hB := hB)
    (ho0_1 := R_base h.o1 (fun k hk => (g1 k hk).1) (fun _ hk => hk)) (hp0_1_0_2 := fun k h1 h2 => (g1 k h1).2.2 h2.symm) (ho0_2 := R_base h.o2 (fun k hk => (g2 k hk).1) (fun _ hk => hk)) (hp0_2_0_1 := fun k h1 h2 => (g2 k h1).2.2 h2.symm)
    (ho0_3 := R_base h.o3 (fun k hk => (g3 k hk).1) (fun _ hk => hk)) (ho0_4 := R_base54 h.o4 (fun k hk => (g4 k hk).1) (fun _ hk => hk)) (h := hK K (Nat.le_refl _))).mono fun e w' hr => ?_
  exact touch_of hB h (fun k hk => (g1 k hk).2.1) (fun k hk => (g2 k hk).2.1) (fun k hk => (g3 k hk).2) (fun k hk => (g4 k hk).2) hr
end
end Go.Proofs.Ytkgpnloghmbmlaa.Hq
namespace Go.Proofs.Ytkgpnloghmbmlaa.Hq
open Go.RowKit Go.Proofs.Ytkgpnloghmbmlaa.Print Go.Proofs.YtkgpnloghmbmlaaW.PrintWords Go.Proofs.YtkgpnloghmbmlaaW.PrintLast Go.Proofs.YtkgpnloghmbmlaaW.PrintMore Go.Proofs.Ytkgpnloghmbmlaa.Hd
set_option linter.unusedVariables false
set_option linter.unusedSimpArgs false
theorem OwS.put1 {w : World} {lo g c1 : Nat} {S : Nat → Prop} {A2 A3 A4 : Option Addr} {c2 c3 c4 : Nat} {D : Dd} (h : OwS w lo S ⟨some ⟨g, 0, none⟩, c1, A2, c2, A3, c3, A4, c4⟩ D) (i : Nat) (x : ByteArray) : OwS (w.setCell ⟨g, i, none⟩ (.string x)) lo S ⟨some ⟨g, 0, none⟩, c1, A2, c2, A3, c3, A4, c4⟩ { D with l1 := D.l1.set i x } := by
  have hg := (Kd.R_putg (enc := Value.string) (h1 := fun _ => rfl) h.o1 (i : Int) x)
  have hl : (D.l1.set i x).length = D.l1.length := List.length_set
  have h1 : Kd.string.R 9 (w.setCell ⟨g, i, none⟩ (.string x)) lo _ (.slice (some ⟨g, 0, none⟩) D.l1.length c1) (D.l1.set i x) := hg.1
  have hb : w.grownBy (w.setCell ⟨g, i, none⟩ (.string x)) (some g) := hg.2
  refine ⟨?_, ?_, ?_, ?_⟩
  · show Kd.R Kd.string 9 _ lo _ (.slice (some ⟨g, 0, none⟩) (D.l1.set i x).length c1) _
    rw [hl]
    exact h1
  · refine R_own_only (w := w) ?_ ownerless_string fun k hk => hb.block k (own_lt' h.o2 k hk) fun e => (own_ge h.o2 k hk).2.2 e
    show Kd.R Kd.string 9 w lo (fun k => S k ∧ some k ≠ (Value.slice (some ⟨g, 0, none⟩) (D.l1.set i x).length c1).ownBlock) _ _
    rw [hl]
    exact h.o2
  · exact R_far_types h.o3 h.o1 (by decide) hb ownerless_bool
  · exact R_far_types h.o4 h.o1 (by decide) hb ownerless_k54
theorem OwS.put3 {w : World} {lo g c3 : Nat} {S : Nat → Prop} {A1 A2 A4 : Option Addr} {c1 c2 c4 : Nat} {D : Dd} (h : OwS w lo S ⟨A1, c1, A2, c2, some ⟨g, 0, none⟩, c3, A4, c4⟩ D) (i : Nat) (x : Bool) : OwS (w.setCell ⟨g, i, none⟩ (.bool x)) lo S ⟨A1, c1, A2, c2, some ⟨g, 0, none⟩, c3, A4, c4⟩ { D with l3 := D.l3.set i x } := by
  have hg := (Kd.R_putg (enc := Value.bool) (h1 := fun _ => rfl) h.o3 (i : Int) x)
  have hl : (D.l3.set i x).length = D.l3.length := List.length_set
  have h1 : Kd.bool.R 4 (w.setCell ⟨g, i, none⟩ (.bool x)) lo _ (.slice (some ⟨g, 0, none⟩) D.l3.length c3) (D.l3.set i x) := hg.1
  have hb : w.grownBy (w.setCell ⟨g, i, none⟩ (.bool x)) (some g) := hg.2
  refine ⟨R_far_types h.o1 h.o3 (by decide) hb ownerless_string, R_far_types h.o2 h.o3 (by decide) hb ownerless_string, ?_, R_far_types h.o4 h.o3 (by decide) hb ownerless_k54⟩
  show Kd.R Kd.bool 4 _ lo _ (.slice (some ⟨g, 0, none⟩) (D.l3.set i x).length c3) _
  rw [hl]
  exact h1
theorem ows_cell3 {w : World} {lo g c3 : Nat} {S : Nat → Prop} {A1 A2 A4 : Option Addr} {c1 c2 c4 : Nat} {D : Dd} (h : OwS w lo S ⟨A1, c1, A2, c2, some ⟨g, 0, none⟩, c3, A4, c4⟩ D) {i : Nat} (hi3 : i < D.l3.length) : w.cell? ⟨g, i, none⟩ = some (.bool (rdOf false D.l3 (i : Int))) ∧ w.frozen? ⟨g, i, none⟩ = false :=
  Kd.R_cell (enc := Value.bool) (h1 := fun _ => rfl) false h.o3 (i : Int) (by omega) (by omega)
theorem ows_cell1 {w : World} {lo g c1 : Nat} {S : Nat → Prop} {A2 A3 A4 : Option Addr} {c2 c3 c4 : Nat} {D : Dd} (h : OwS w lo S ⟨some ⟨g, 0, none⟩, c1, A2, c2, A3, c3, A4, c4⟩ D) {i : Nat} (hi1 : i < D.l1.length) : w.cell? ⟨g, i, none⟩ = some (.string (rdOf ByteArray.empty D.l1 (i : Int))) ∧ w.frozen? ⟨g, i, none⟩ = false :=
  Kd.R_cell (enc := Value.string) (h1 := fun _ => rfl) ByteArray.empty h.o1 (i : Int) (by omega) (by omega)
set_option maxHeartbeats 8000000 in
set_option maxRecDepth 100000 in
theorem qspoil_main {w : World} {lo : Nat} {S : Nat → Prop} {M : Mm} {D : Dd} {a b : Nat} {by_ : Int} (h : OwS w lo S M D) (hS : ∀ k, S k → lo ≤ k ∧ k < w.heap.size) (ha1 : a < D.l1.length) (ha3 : a < D.l3.length) (hl : D.l1.length ≤ 1048576) (hl3 : D.l3.length ≤ 1048576) (hb : b < (D.l1.getD a ByteArray.empty).size) (hs : (D.l1.getD a ByteArray.empty).size ≤ 1099511627776) (hby : 0 ≤ by_ ∧ by_ ≤ 255) (hsp : D.l3.getD a false = false) :
    Calls Try.prog 87 #[.agg (cD M D), .int .i64 (a : Int), .int .i64 (b : Int), .int .i64 by_] w fun e w' => e = .returned (.agg (cD M D)) ∧ OwS w' lo S M { D with l1 := D.l1.set a (turned (D.l1.getD a ByteArray.empty) b by_), l3 := D.l3.set a true } ∧ Below lo w w' ∧ ∀ k, k < w.heap.size → ¬ S k → w'.heap[k]? = w.heap[k]? := by
  have hs28 := sizeL28
  obtain ⟨A1, c1, A2, c2, A3, c3, A4, c4⟩ := M
  obtain ⟨g1, e1, p1, q1, _⟩ := own_addr h.o1 (by omega)
  have hg1 : S g1 := q1.1
  obtain ⟨g3, e3, p3, q3, _⟩ := own_addr h.o3 (by omega)
  have hg3 : S g3 := q3
  simp only at e1 e3
  subst e1
  subst e3
  obtain ⟨tx, htx⟩ : ∃ t, t = D.l1.getD a ByteArray.empty := ⟨_, rfl⟩
  have H := Az.mk (Hq.start_set w (Nat.le_of_lt (Nat.lt_of_le_of_lt (hS g1 hg1).1 (hS g1 hg1).2)) hS)
  have hc1 : w.cell? ⟨g1, a, none⟩ = some (.string tx) := by
    rw [(ows_cell1 h ha1).1, htx]
    simp [rdOf]
  have hne : tx.toList.isEmpty = false := by
    rw [← htx] at hb
    have : tx.toList.length = tx.size := by simp [ByteArray.toList_eq]
    cases h2 : tx.toList with
    | nil => rw [h2] at this; simp at this; omega
    | cons _ _ => rfl
  have b0 := eq_true (show (0 : Int) ≤ (b : Int) by omega)
  have b1 := eq_true (show (b : Int) < (tx.size : Int) by rw [← htx] at hb; omega)
  have HBT : Az (b < (bytesOf tx).length) := ⟨by rw [← htx] at hb; simpa [bytesOf] using hb⟩
  have a0 := eq_true (show (0 : Int) ≤ (a : Int) by omega)
  have a1 := eq_true (show (a : Int) < (D.l1.length : Int) by omega)
  have hc3 : w.cell? ⟨g3, a, none⟩ = some (.bool false) := by
    have e : rdOf false D.l3 (a : Int) = false := by simpa [rdOf] using hsp
    rw [(ows_cell3 h ha3).1, e]
  have F1 := Az.mk (ows_cell1 h ha1).2
  have HA3 := Az.mk ha3
  have HC1 := Az.mk hc1
  have HC3 := Az.mk hc3
  have a3 := eq_true (show (a : Int) < (D.l3.length : Int) by omega)
  have G1 := Az.mk hg1
  have G3 := Az.mk hg3
  have HBY := Az.mk hby
  have HO := Az.mk h
  have HTX := Az.mk htx
  clear h hl hl3 hb hs htx hc1 hc3 hg1 hg3 p1 q1 p3 q3 hby hS ha1 ha3 hsp
  go_enter Try.func87, Try.ntmps87
  go_wp2_with (first | ((with_reducible refine zqg (N := 4) rfl ?_); refine H.out.bx rfl (cD ⟨some ⟨g1, 0, none⟩, c1, A2, c2, some ⟨g3, 0, none⟩, c3, A4, c4⟩ D) 28 ?hr ?_; (case hr => first | (go_simp; done) | (go_simp; rfl)); intro g4 w4 H1; clear H; have H := H1; clear H1; (try simp only [Act.put, List.setIfInBounds_toArray, List.set_cons_zero, List.set_cons_succ])) | ((with_reducible refine zqg (N := 8) rfl ?_); refine H.out.bx rfl (#[.int .i64 0, .slice none 0 0, .slice none 0 0, .slice none 0 0, .slice none 0 0]) 28 ?hr ?_; (case hr => first | (go_simp; done) | (go_simp; rfl)); intro g8 w8 H1; clear H; have H := H1; clear H1; (try simp only [Act.put, List.setIfInBounds_toArray, List.set_cons_zero, List.set_cons_succ])) | ((with_reducible refine zqg (N := 11) rfl ?_); refine H.out.ld_cell 1 rfl 1 (v := .slice (some ⟨g1, 0, none⟩) D.l1.length c1) rfl rfl rfl rfl Try.underlying24 rfl ?_; (try simp only [Act.put, List.setIfInBounds_toArray, List.set_cons_zero, List.set_cons_succ])) | ((with_reducible refine zqg (N := 14) rfl ?_); refine ld_c (H.out.cell 2 rfl G1.out HC1.out) rfl rfl rfl Try.underlying9 rfl ?_; (try simp only [Act.put, List.setIfInBounds_toArray, List.set_cons_zero, List.set_cons_succ])) | ((with_reducible refine zqg (N := 18) rfl ?_); refine gate_guard (by rfl) ?_; dsimp only; refine H.out.ld_cell 1 rfl 3 (v := .slice (some ⟨g3, 0, none⟩) D.l3.length c3) rfl rfl rfl rfl Try.underlying25 rfl ?_; (try simp only [Act.put, List.setIfInBounds_toArray, List.set_cons_zero, List.set_cons_succ])) | ((with_reducible refine zqg (N := 21) rfl ?_); refine gate_guard (by rfl) ?_; dsimp only; refine ld_c (H.out.cell 2 rfl G3.out HC3.out) rfl rfl rfl Try.underlying4 rfl ?_; (try simp only [Act.put, List.setIfInBounds_toArray, List.set_cons_zero, List.set_cons_succ])) | ((with_reducible refine zqg (N := 25) rfl ?_); refine H.out.ld_cell 1 rfl 1 (v := .slice (some ⟨g1, 0, none⟩) D.l1.length c1) rfl rfl rfl rfl Try.underlying24 rfl ?_; (try simp only [Act.put, List.setIfInBounds_toArray, List.set_cons_zero, List.set_cons_succ])) | ((with_reducible refine zqg (N := 28) rfl ?_); refine ld_c (H.out.cell 2 rfl G1.out HC1.out) rfl rfl rfl Try.underlying9 rfl ?_; (try simp only [Act.put, List.setIfInBounds_toArray, List.set_cons_zero, List.set_cons_succ])) | ((with_reducible refine zqg (N := 29) rfl ?_); refine H.out.conv_sb rfl Try.underlying9 Try.underlying22 Try.underlying5 rfl rfl ?_; intro g29 c29 w29 H1 B29; clear H; have H := H1; clear H1; (try simp only [Act.put, List.setIfInBounds_toArray, List.set_cons_zero, List.set_cons_succ])) | ((with_reducible refine zqg (N := 35) rfl ?_); refine ld_c ((B29.out b HBT.out).1) rfl rfl rfl Try.underlying5 rfl ?_; (try simp only [Act.put, List.setIfInBounds_toArray, List.set_cons_zero, List.set_cons_succ])) | ((with_reducible refine gate_store (t := 5) (p := 39) rfl ?_); refine st_c (R := fun w1 => Az (Hq lo w w1 [.set (fun k => k = g29) w1, .box g8 (#[.int .i64 0, .slice none 0 0, .slice none 0 0, .slice none 0 0, .slice none 0 0]) 28, .box g4 (cD ⟨some ⟨g1, 0, none⟩, c1, A2, c2, some ⟨g3, 0, none⟩, c3, A4, c4⟩ D) 28, .set S w, .set (fun k => ¬ S k ∧ lo ≤ k ∧ k < w.heap.size) w]) ∧ Az (BytesAt w1 g29 ((bytesOf tx).set b (bits .xor .u8 ((bytesOf tx)[b]?.getD 0) (by_ % 256))))) sizeS5 (B29.out b HBT.out).1 (B29.out b HBT.out).2 rfl rfl rfl rfl rfl rfl ⟨⟨H.out.set_cell 0 rfl rfl _⟩, ⟨B29.out.put HBT.out⟩⟩ ?_; intro ws4 H1; clear H; have H := H1.1; have B39 := H1.2; clear H1; (try simp only [Act.put, List.setIfInBounds_toArray, List.set_cons_zero, List.set_cons_succ])) | ((with_reducible refine zqg (N := 41) rfl ?_); refine H.out.ld_cell 2 rfl 1 (v := .slice (some ⟨g1, 0, none⟩) D.l1.length c1) rfl rfl rfl rfl Try.underlying24 rfl ?_; (try simp only [Act.put, List.setIfInBounds_toArray, List.set_cons_zero, List.set_cons_succ])) | ((with_reducible refine zqg (N := 44) rfl ?_); refine conv_bs rfl Try.underlying9 Try.underlying22 Try.underlying5 rfl rfl (by rw [List.length_set]; simp [bytesOf]) B39.out ?_; (try simp only [Act.put, List.setIfInBounds_toArray, List.set_cons_zero, List.set_cons_succ])) | ((with_reducible refine gate_store (t := 9) (p := 45) rfl ?_); refine st_c (R := fun w1 => Az (Hq lo w w1 [.set (fun k => k = g29) ws4, .box g8 (#[.int .i64 0, .slice none 0 0, .slice none 0 0, .slice none 0 0, .slice none 0 0]) 28, .box g4 (cD ⟨some ⟨g1, 0, none⟩, c1, A2, c2, some ⟨g3, 0, none⟩, c3, A4, c4⟩ D) 28, .set S w1, .set (fun k => ¬ S k ∧ lo ≤ k ∧ k < w.heap.size) w]) ∧ Az (OwS w1 lo S ⟨some ⟨g1, 0, none⟩, c1, A2, c2, some ⟨g3, 0, none⟩, c3, A4, c4⟩ { D with l1 := D.l1.set a (strOfNums ((bytesOf tx).set b (bits .xor .u8 ((bytesOf tx)[b]?.getD 0) (by_ % 256)))) })) sizeS9 (H.out.cell 3 rfl G1.out HC1.out) (H.out.frz 3 rfl G1.out F1.out) rfl rfl rfl rfl rfl rfl ⟨⟨H.out.set_cell 3 rfl G1.out _⟩, ⟨(H.out.ows 3 rfl HO.out).put1 a _⟩⟩ ?_; intro ws5 H1; clear H; have H := H1.1; have O45 := H1.2; clear H1; (try simp only [Act.put, List.setIfInBounds_toArray, List.set_cons_zero, List.set_cons_succ])) | ((with_reducible refine zqg (N := 47) rfl ?_); refine H.out.ld_cell 2 rfl 3 (v := .slice (some ⟨g3, 0, none⟩) D.l3.length c3) rfl rfl rfl rfl Try.underlying25 rfl ?_; (try simp only [Act.put, List.setIfInBounds_toArray, List.set_cons_zero, List.set_cons_succ])) | ((with_reducible refine gate_store (t := 4) (p := 49) rfl ?_); have hc3 := ows_cell3 O45.out HA3.out; refine st_c (R := fun w1 => Az (Hq lo w w1 [.set (fun k => k = g29) ws4, .box g8 (#[.int .i64 0, .slice none 0 0, .slice none 0 0, .slice none 0 0, .slice none 0 0]) 28, .box g4 (cD ⟨some ⟨g1, 0, none⟩, c1, A2, c2, some ⟨g3, 0, none⟩, c3, A4, c4⟩ D) 28, .set S w1, .set (fun k => ¬ S k ∧ lo ≤ k ∧ k < w.heap.size) w]) ∧ Az (OwS w1 lo S ⟨some ⟨g1, 0, none⟩, c1, A2, c2, some ⟨g3, 0, none⟩, c3, A4, c4⟩ { D with l1 := D.l1.set a (strOfNums ((bytesOf tx).set b (bits .xor .u8 ((bytesOf tx)[b]?.getD 0) (by_ % 256)))), l3 := D.l3.set a true })) sizeS4 hc3.1 hc3.2 rfl rfl rfl rfl rfl rfl ⟨⟨H.out.set_cell 3 rfl G3.out _⟩, ⟨O45.out.put3 a _⟩⟩ ?_; clear hc3; intro ws6 H1; clear H; have H := H1.1; have O49 := H1.2; clear H1; (try simp only [Act.put, List.setIfInBounds_toArray, List.set_cons_zero, List.set_cons_succ])) | ((with_reducible refine zqg (N := 50) rfl ?_); refine H.out.ld_row 2 rfl rfl rfl rfl Try.underlying28 rfl hs28 ?_; (try simp only [Act.put, List.setIfInBounds_toArray, List.set_cons_zero, List.set_cons_succ])) | ((with_reducible refine gate_store (t := 28) (p := 8) rfl ?_); refine H.out.st_row 1 rfl rfl (x := .tmp 8) (y := .tmp 50) rfl rfl rfl (cD ⟨some ⟨g1, 0, none⟩, c1, A2, c2, some ⟨g3, 0, none⟩, c3, A4, c4⟩ D) rfl hs28 rfl (cD_one1 _ _) ?_; intro ws7 H1; clear H; have H := H1; clear H1))
  have e := HTX.out
  subst e
  exact bodyPost_ret (results_cell_row rfl _ _ g8 28 _ (0, 0) _ rfl (H.out.box 1 rfl) Try.underlying28 rfl (by kernel_rfl)) rfl ⟨rfl, H.out.ows 3 rfl O49.out, H.out.bel, H.out.kept 4 rfl⟩
set_option maxHeartbeats 8000000 in
set_option maxRecDepth 100000 in
theorem qspoil_same {w : World} {lo : Nat} {S : Nat → Prop} {M : Mm} {D : Dd} {a : Nat} {b by_ : Int} (h : OwS w lo S M D) (hS : ∀ k, S k → lo ≤ k ∧ k < w.heap.size) (ha1 : a < D.l1.length) (ha3 : a < D.l3.length) (hl : D.l1.length ≤ 1048576) (hl3 : D.l3.length ≤ 1048576) (hz : (D.l1.getD a ByteArray.empty).toList.isEmpty = true ∨ ((D.l1.getD a ByteArray.empty).toList.isEmpty = false ∧ D.l3.getD a false = true)) :
    Calls Try.prog 87 #[.agg (cD M D), .int .i64 (a : Int), .int .i64 b, .int .i64 by_] w fun e w' => e = .returned (.agg (cD M D)) ∧ OwS w' lo S M D ∧ Below lo w w' ∧ ∀ k, k < w.heap.size → ¬ S k → w'.heap[k]? = w.heap[k]? := by
  have hs28 := sizeL28
  obtain ⟨A1, c1, A2, c2, A3, c3, A4, c4⟩ := M
  obtain ⟨g1, e1, p1, q1, _⟩ := own_addr h.o1 (by omega)
  have hg1 : S g1 := q1.1
  obtain ⟨g3, e3, p3, q3, _⟩ := own_addr h.o3 (by omega)
  have hg3 : S g3 := q3
  simp only at e1 e3
  subst e1
  subst e3
  obtain ⟨tx, htx⟩ : ∃ t, t = D.l1.getD a ByteArray.empty := ⟨_, rfl⟩
  have H := Az.mk (Hq.start_set w (Nat.le_of_lt (Nat.lt_of_le_of_lt (hS g1 hg1).1 (hS g1 hg1).2)) hS)
  have hc1 : w.cell? ⟨g1, a, none⟩ = some (.string tx) := by
    rw [(ows_cell1 h ha1).1, htx]
    simp [rdOf]
  rw [← htx] at hz
  have a0 := eq_true (show (0 : Int) ≤ (a : Int) by omega)
  have a1 := eq_true (show (a : Int) < (D.l1.length : Int) by omega)
  have a3 := eq_true (show (a : Int) < (D.l3.length : Int) by omega)
  have HC1 := Az.mk hc1
  have HA3 := Az.mk ha3
  have G1 := Az.mk hg1
  have G3 := Az.mk hg3
  have HO := Az.mk h
  rcases hz with hne | ⟨hne, hsp⟩
  · clear h hl hl3 htx hc1 hg1 hg3 p1 q1 p3 q3 hS ha1 ha3
    go_enter Try.func87, Try.ntmps87
    go_wp2_with (first | ((with_reducible refine zqg (N := 4) rfl ?_); refine H.out.bx rfl (cD ⟨some ⟨g1, 0, none⟩, c1, A2, c2, some ⟨g3, 0, none⟩, c3, A4, c4⟩ D) 28 ?hr ?_; (case hr => first | (go_simp; done) | (go_simp; rfl)); intro g4 w4 H1; clear H; have H := H1; clear H1; (try simp only [Act.put, List.setIfInBounds_toArray, List.set_cons_zero, List.set_cons_succ])) | ((with_reducible refine zqg (N := 8) rfl ?_); refine H.out.bx rfl (#[.int .i64 0, .slice none 0 0, .slice none 0 0, .slice none 0 0, .slice none 0 0]) 28 ?hr ?_; (case hr => first | (go_simp; done) | (go_simp; rfl)); intro g8 w8 H1; clear H; have H := H1; clear H1; (try simp only [Act.put, List.setIfInBounds_toArray, List.set_cons_zero, List.set_cons_succ])) | ((with_reducible refine zqg (N := 11) rfl ?_); refine H.out.ld_cell 1 rfl 1 (v := .slice (some ⟨g1, 0, none⟩) D.l1.length c1) rfl rfl rfl rfl Try.underlying24 rfl ?_; (try simp only [Act.put, List.setIfInBounds_toArray, List.set_cons_zero, List.set_cons_succ])) | ((with_reducible refine zqg (N := 14) rfl ?_); refine ld_c (H.out.cell 2 rfl G1.out HC1.out) rfl rfl rfl Try.underlying9 rfl ?_; (try simp only [Act.put, List.setIfInBounds_toArray, List.set_cons_zero, List.set_cons_succ])) | ((with_reducible refine zqg (N := 18) rfl ?_); refine gate_guard (by rfl) ?_; dsimp only; refine H.out.ld_cell 1 rfl 3 (v := .slice (some ⟨g3, 0, none⟩) D.l3.length c3) rfl rfl rfl rfl Try.underlying25 rfl ?_; (try simp only [Act.put, List.setIfInBounds_toArray, List.set_cons_zero, List.set_cons_succ])) | ((with_reducible refine zqg (N := 21) rfl ?_); refine gate_guard (by rfl) ?_; dsimp only; refine ld_c (H.out.cell 2 rfl G3.out HC3.out) rfl rfl rfl Try.underlying4 rfl ?_; (try simp only [Act.put, List.setIfInBounds_toArray, List.set_cons_zero, List.set_cons_succ])) | ((with_reducible refine zqg (N := 23) rfl ?_); refine H.out.ld_row 1 rfl rfl rfl rfl Try.underlying28 rfl hs28 ?_; (try simp only [Act.put, List.setIfInBounds_toArray, List.set_cons_zero, List.set_cons_succ])) | ((with_reducible refine gate_store (t := 28) (p := 8) rfl ?_); refine H.out.st_row 0 rfl rfl (x := .tmp 8) (y := .tmp 23) rfl rfl rfl (cD ⟨some ⟨g1, 0, none⟩, c1, A2, c2, some ⟨g3, 0, none⟩, c3, A4, c4⟩ D) rfl hs28 rfl (cD_one1 _ _) ?_; intro ws7 H1; clear H; have H := H1; clear H1))
    exact bodyPost_ret (results_cell_row rfl _ _ g8 28 _ (0, 0) _ rfl (H.out.box 0 rfl) Try.underlying28 rfl (by kernel_rfl)) rfl ⟨rfl, H.out.ows 2 rfl HO.out, H.out.bel, H.out.kept 3 rfl⟩
  · have hc3 : w.cell? ⟨g3, a, none⟩ = some (.bool true) := by
      have e : rdOf false D.l3 (a : Int) = true := by simpa [rdOf] using hsp
      rw [(ows_cell3 h ha3).1, e]
    have HC3 := Az.mk hc3
    clear h hl hl3 htx hc1 hc3 hg1 hg3 p1 q1 p3 q3 hS ha1 ha3 hsp
    go_enter Try.func87, Try.ntmps87
    go_wp2_with (first | ((with_reducible refine zqg (N := 4) rfl ?_); refine H.out.bx rfl (cD ⟨some ⟨g1, 0, none⟩, c1, A2, c2, some ⟨g3, 0, none⟩, c3, A4, c4⟩ D) 28 ?hr ?_; (case hr => first | (go_simp; done) | (go_simp; rfl)); intro g4 w4 H1; clear H; have H := H1; clear H1; (try simp only [Act.put, List.setIfInBounds_toArray, List.set_cons_zero, List.set_cons_succ])) | ((with_reducible refine zqg (N := 8) rfl ?_); refine H.out.bx rfl (#[.int .i64 0, .slice none 0 0, .slice none 0 0, .slice none 0 0, .slice none 0 0]) 28 ?hr ?_; (case hr => first | (go_simp; done) | (go_simp; rfl)); intro g8 w8 H1; clear H; have H := H1; clear H1; (try simp only [Act.put, List.setIfInBounds_toArray, List.set_cons_zero, List.set_cons_succ])) | ((with_reducible refine zqg (N := 11) rfl ?_); refine H.out.ld_cell 1 rfl 1 (v := .slice (some ⟨g1, 0, none⟩) D.l1.length c1) rfl rfl rfl rfl Try.underlying24 rfl ?_; (try simp only [Act.put, List.setIfInBounds_toArray, List.set_cons_zero, List.set_cons_succ])) | ((with_reducible refine zqg (N := 14) rfl ?_); refine ld_c (H.out.cell 2 rfl G1.out HC1.out) rfl rfl rfl Try.underlying9 rfl ?_; (try simp only [Act.put, List.setIfInBounds_toArray, List.set_cons_zero, List.set_cons_succ])) | ((with_reducible refine zqg (N := 18) rfl ?_); refine gate_guard (by rfl) ?_; dsimp only; refine H.out.ld_cell 1 rfl 3 (v := .slice (some ⟨g3, 0, none⟩) D.l3.length c3) rfl rfl rfl rfl Try.underlying25 rfl ?_; (try simp only [Act.put, List.setIfInBounds_toArray, List.set_cons_zero, List.set_cons_succ])) | ((with_reducible refine zqg (N := 21) rfl ?_); refine gate_guard (by rfl) ?_; dsimp only; refine ld_c (H.out.cell 2 rfl G3.out HC3.out) rfl rfl rfl Try.underlying4 rfl ?_; (try simp only [Act.put, List.setIfInBounds_toArray, List.set_cons_zero, List.set_cons_succ])) | ((with_reducible refine zqg (N := 23) rfl ?_); refine H.out.ld_row 1 rfl rfl rfl rfl Try.underlying28 rfl hs28 ?_; (try simp only [Act.put, List.setIfInBounds_toArray, List.set_cons_zero, List.set_cons_succ])) | ((with_reducible refine gate_store (t := 28) (p := 8) rfl ?_); refine H.out.st_row 0 rfl rfl (x := .tmp 8) (y := .tmp 23) rfl rfl rfl (cD ⟨some ⟨g1, 0, none⟩, c1, A2, c2, some ⟨g3, 0, none⟩, c3, A4, c4⟩ D) rfl hs28 rfl (cD_one1 _ _) ?_; intro ws7 H1; clear H; have H := H1; clear H1))
    exact bodyPost_ret (results_cell_row rfl _ _ g8 28 _ (0, 0) _ rfl (H.out.box 0 rfl) Try.underlying28 rfl (by kernel_rfl)) rfl ⟨rfl, H.out.ows 2 rfl HO.out, H.out.bel, H.out.kept 3 rfl⟩
end Go.Proofs.Ytkgpnloghmbmlaa.Hq
namespace Go.Proofs.Ytkgpnloghmbmlaa.Print
open Go.RowKit Go.Proofs.YtkgpnloghmbmlaaW.PrintWords Go.Proofs.YtkgpnloghmbmlaaW.PrintLast Go.Proofs.YtkgpnloghmbmlaaW.PrintMore
attribute [local go_sem] max2_int min2_int max_two min_two max_three min_three max_four min_four   -- for this text's walks alone
set_option linter.unusedVariables false
set_option linter.unusedSimpArgs false
def IsS104 (w0 W : World) (g : Nat) (f0 : List Int) (f1 : Int) : Prop := ∃ A0 c0, W.heap[g]? = some (.cells #[.slice A0 f0.length c0, .int .i64 f1] 104 (0, 0)) ∧ w0.heap.size ≤ g ∧ Kd.C (Kd.int .u8) w0 A0 f0.length f0
theorem IsS104.grown {w0 W : World} {g : Nat} {f0 : List Int} {f1 : Int} {W1 : World} {row : Option Nat} (h : IsS104 w0 W g f0 f1) (hw : W.grownBy W1 row) (hne : some g ≠ row) : IsS104 w0 W1 g f0 f1 := by
 obtain ⟨A0, c0, hb, hg, hr0⟩ := h
 exact ⟨A0, c0, blk_grown hb hw hne, hg, hr0⟩
theorem IsS104.kept {w0 W : World} {g : Nat} {f0 : List Int} {f1 : Int} {W1 : World} {S : Nat → Prop} (h : IsS104 w0 W g f0 f1) (hk : Kept W W1 S) (hne : ¬ S g) : IsS104 w0 W1 g f0 f1 := by
 obtain ⟨A0, c0, hb, hg, hr0⟩ := h
 exact ⟨A0, c0, blk_kept hb hk hne, hg, hr0⟩
theorem IsS104.below {w0 W : World} {g : Nat} {f0 : List Int} {f1 : Int} {W1 : World} (h : IsS104 w0 W g f0 f1) (hw : Below W.heap.size W W1) : IsS104 w0 W1 g f0 f1 := h.grown (grown_of_below hw none) (by simp)
theorem IsS104.alloc {w0 W : World} {g : Nat} {f0 : List Int} {f1 : Int} (h : IsS104 w0 W g f0 f1) (o : Obj) : IsS104 w0 (W.alloc o) g f0 f1 := h.below (zq2 (Below.refl _ _) o)
theorem IsS104.drewN {w0 W : World} {g : Nat} {f0 : List Int} {f1 : Int} (h : IsS104 w0 W g f0 f1) (m : Nat) : IsS104 w0 (W.drewN m) g f0 f1 := h
theorem IsS104.drew {w0 W : World} {g : Nat} {f0 : List Int} {f1 : Int} (h : IsS104 w0 W g f0 f1) : IsS104 w0 W.drew g f0 f1 := h
theorem IsS104.at_ {w0 W : World} {g : Nat} {f0 : List Int} {f1 : Int} {w' : World} {m : Nat} (hq : W.drewN m = w') (h : IsS104 w0 W g f0 f1) : IsS104 w0 w' g f0 f1 := by subst hq; exact IsS104.drewN h m
theorem IsS104.apart {w0 W : World} {g : Nat} {f0 : List Int} {f1 : Int} {α : Type} {d : Kd α} {e : Nat} {base : Nat} {ok : Nat → Prop} {v : Value} {xs : List α} (h : IsS104 w0 W g f0 f1) (ho : d.R e W base ok v xs) (ht : ∀ q, q ∈ e :: d.E → q ≠ 104) : d.R e W base (fun k => ok k ∧ k ≠ g) v xs := by
 obtain ⟨A0, c0, hb, hg, hr0⟩ := h
 exact Kd.R_types ho hb ht
theorem IsS104.own_ne {w0 W : World} {g : Nat} {f0 : List Int} {f1 : Int} {α : Type} {d : Kd α} {e : Nat} {base : Nat} {ok : Nat → Prop} {v : Value} {xs : List α} (h : IsS104 w0 W g f0 f1) (ho : d.R e W base ok v xs) (ht : e ≠ 104) : some g ≠ v.ownBlock := by
 obtain ⟨A0, c0, hb, hg, hr0⟩ := h
 exact Kd.R_ne ho hb ht
theorem IsS104.lt {w0 W : World} {g : Nat} {f0 : List Int} {f1 : Int} (h : IsS104 w0 W g f0 f1) : g < W.heap.size := by
 obtain ⟨A0, c0, hb, hg, hr0⟩ := h
 exact blk_lt hb
theorem IsS104.ge {w0 W : World} {g : Nat} {f0 : List Int} {f1 : Int} (h : IsS104 w0 W g f0 f1) : w0.heap.size ≤ g := by
 obtain ⟨A0, c0, hb, hg, hr0⟩ := h
 exact hg
theorem IsS104.far {w0 W : World} {g : Nat} {f0 : List Int} {f1 : Int} {p : Addr} (h : IsS104 w0 W g f0 f1) (hne : g ≠ p.block) (u : Value) : IsS104 w0 (W.setCell p u) g f0 f1 := by
 obtain ⟨A0, c0, hb, hg, hr0⟩ := h
 exact ⟨A0, c0, blk_far hb hne u, hg, hr0⟩
theorem cellS104_0 {W : World} {g : Nat} {A0 : Option Addr} {c0 : Nat} {f0 : List Int} {f1 : Int} (h : W.heap[g]? = some (.cells #[.slice A0 f0.length c0, .int .i64 f1] 104 (0, 0))) : W.cell? ⟨g, 0, none⟩ = some (.slice A0 f0.length c0) := (zq4 h 0).trans rfl
theorem cellS104_1 {W : World} {g : Nat} {A0 : Option Addr} {c0 : Nat} {f0 : List Int} {f1 : Int} (h : W.heap[g]? = some (.cells #[.slice A0 f0.length c0, .int .i64 f1] 104 (0, 0))) : W.cell? ⟨g, 1, none⟩ = some (.int .i64 f1) := (zq4 h 1).trans rfl
theorem IsS104.set_1 {w0 W : World} {g : Nat} {f0 : List Int} {f1 : Int} (h : IsS104 w0 W g f0 f1) (x : Int) : IsS104 w0 (W.setCell ⟨g, 1, none⟩ (.int .i64 x)) g f0 x := by
 obtain ⟨A0, c0, hb, hg, hr0⟩ := h
 exact ⟨A0, c0, by simpa using blk_set hb 1 (.int .i64 x), hg, hr0⟩
def spec_l6Open.f (l0 : List Int) : Option (List Int × Int) := if (l0.length : Int) > 2000 then (if 2000 ≤ (l0.length : Int) then (some (l0.take 2000, 0)) else (none)) else (some (l0, 0))
set_option maxHeartbeats 8000000 in
set_option maxRecDepth 100000 in
theorem spec_l6Open.calls (A0 : Option Addr) (c0 : Nat) (l0 : List Int) (r1 : List Int) (r2 : Int) (w0 w : World) (hB : Below w0.heap.size w0 w) (hr0 : Kd.C (Kd.int .u8) w0 A0 l0.length l0) (hc0 : l0.length ≤ c0) (h : spec_l6Open.f l0 = some (r1, r2)) :
  Calls Try.prog 47 #[.slice A0 l0.length c0] w fun e w' => ∃ g_ : Nat, e = .returned (.pointer (some ⟨g_, 0, none⟩)) ∧ IsS104 w0 w' g_ r1 r2 ∧ Below w0.heap.size w0 w' ∧ Below w.heap.size w w' := by
 have hu104 := Try.underlying104
 have HR0 := Az.mk hr0
 have HC0 := Az.mk hc0
 clear hr0 hc0
 have HBW := Az.mk (Below.refl w.heap.size w)
 have HW0 := Az.mk hB.size
 have HB := Az.mk hB
 clear hB
 have H : (if (l0.length : Int) > 2000 then (if 2000 ≤ (l0.length : Int) then (some (l0.take 2000, 0)) else (none)) else (some (l0, 0))) = some (r1, r2) := h
 clear h
 by_cases c2 : (l0.length : Int) > 2000
 ·rw [if_pos c2] at H
  have c2b0 : decide (2000 < (l0.length : Int)) = true := decide_eq_true c2
  have c2b1 : decide (2000 < l0.length) = true := decide_eq_true (by omega)
  clear c2
  by_cases c3 : 2000 ≤ (l0.length : Int)
  ·rw [if_pos c3] at H
   have c3b0 := eq_true c3
   have c3b1 : decide (2000 ≤ (l0.length : Int)) = true := decide_eq_true c3
   clear c3
   simp only [Option.some.injEq, Prod.mk.injEq] at H
   obtain ⟨rfl, rfl⟩ := H
   obtain ⟨i04, hi04, _, hsz4, _⟩ := info_parts info5
   obtain ⟨hcut4, hA4, hC4⟩ := print_take_of (P := Try.prog) (Value.int .u8) 0 22 5 .i64 Try.underlying22 hi04 hsz4 A0 c0 l0 2000 (by omega) (of_decide_eq_true (by first | (with_reducible assumption) | assumption)) HC0.out
   have HR415 := Az.mk (Kd.C_of_reads (h1 := fun _ => rfl) (hA4 _ (Kd.reads_of_C HR0.out)))
   have HC415 := Az.mk hC4
   clear hA4 hC4 hi04 hsz4
   go_enter Try.func47, Try.ntmps47
   go_wp2_with (first | ((with_reducible refine zqg (N := 10) rfl ?_); refine zqb ?hg (N := 10) ?hd (cs := #[.slice A0 (l0.take 2000).length c0, .int .i64 0]) (t := 104) ?hr ?_; (case hd => rfl); (case hg => rfl); (case hr => first | (go_simp; done) | (go_simp; rfl)); intro gb416 hg w5 hbox hb; have n0_ := Az.mk (below_step HBW.out hb); have n1_ := Az.mk (below_step (by repeat (first | (with_reducible first | exact HB.out | apply zq2 | apply zq1 | apply zqd) | exact HB.out)) hb); have n2_ := Az.mk (hbox); have n3_ := Az.mk ((by rw [hg]; exact (below_size (by repeat (first | (with_reducible first | exact HBW.out | apply zq2 | apply zq1 | apply zqd) | exact HBW.out))) : w.heap.size ≤ gb416)); have n4_ := Az.mk ((Nat.le_trans HW0.out (by rw [hg]; exact (below_size (by repeat (first | (with_reducible first | exact HBW.out | apply zq2 | apply zq1 | apply zqd) | exact HBW.out))) : w.heap.size ≤ gb416) : w0.heap.size ≤ gb416)); clear HBW; clear HB; have HBW := n0_; have HB := n1_; have BK416 := n2_; have GW416 := n3_; have GE416 := n4_; clear n0_ n1_ n2_ n3_ n4_; clear hb hbox hg))
   go_ret
   exact ⟨_, rfl, (show IsS104 w0 _ gb416 (l0.take 2000) 0 from ⟨_, _, by (with_reducible repeat (first | refine zq6 ?_ _ | refine zq8 ?_ | refine zq7 ?_ _)); exact BK416.out, GE416.out, HR415.out⟩), by repeat (first | (with_reducible first | exact HB.out | apply zq2 | apply zq1 | apply zqd | refine zq3 ?_ GE416.out) | exact HB.out), by repeat (first | (with_reducible first | exact HBW.out | apply zq2 | apply zq1 | apply zqd | refine zq3 ?_ GW416.out) | exact HBW.out)⟩
  ·rw [if_neg c3] at H
   exact absurd H (by simp)
 ·rw [if_neg c2] at H
  have c2b0 : decide (2000 < (l0.length : Int)) = false := decide_eq_false c2
  have c2b1 : decide (2000 < l0.length) = false := decide_eq_false (by omega)
  clear c2
  simp only [Option.some.injEq, Prod.mk.injEq] at H
  obtain ⟨rfl, rfl⟩ := H
  go_enter Try.func47, Try.ntmps47
  go_wp2_with (first | ((with_reducible refine zqg (N := 10) rfl ?_); refine zqb ?hg (N := 10) ?hd (cs := #[.slice A0 l0.length c0, .int .i64 0]) (t := 104) ?hr ?_; (case hd => rfl); (case hg => rfl); (case hr => first | (go_simp; done) | (go_simp; rfl)); intro gb417 hg w6 hbox hb; have n0_ := Az.mk (below_step HBW.out hb); have n1_ := Az.mk (below_step (by repeat (first | (with_reducible first | exact HB.out | apply zq2 | apply zq1 | apply zqd) | exact HB.out)) hb); have n2_ := Az.mk (hbox); have n3_ := Az.mk ((by rw [hg]; exact (below_size (by repeat (first | (with_reducible first | exact HBW.out | apply zq2 | apply zq1 | apply zqd) | exact HBW.out))) : w.heap.size ≤ gb417)); have n4_ := Az.mk ((Nat.le_trans HW0.out (by rw [hg]; exact (below_size (by repeat (first | (with_reducible first | exact HBW.out | apply zq2 | apply zq1 | apply zqd) | exact HBW.out))) : w.heap.size ≤ gb417) : w0.heap.size ≤ gb417)); clear HBW; clear HB; have HBW := n0_; have HB := n1_; have BK417 := n2_; have GW417 := n3_; have GE417 := n4_; clear n0_ n1_ n2_ n3_ n4_; clear hb hbox hg))
  go_ret
  exact ⟨_, rfl, (show IsS104 w0 _ gb417 l0 0 from ⟨_, _, by (with_reducible repeat (first | refine zq6 ?_ _ | refine zq8 ?_ | refine zq7 ?_ _)); exact BK417.out, GE417.out, HR0.out⟩), by repeat (first | (with_reducible first | exact HB.out | apply zq2 | apply zq1 | apply zqd | refine zq3 ?_ GE417.out) | exact HB.out), by repeat (first | (with_reducible first | exact HBW.out | apply zq2 | apply zq1 | apply zqd | refine zq3 ?_ GW417.out) | exact HBW.out)⟩
end Go.Proofs.Ytkgpnloghmbmlaa.Print
namespace Go.Proofs.Ytkgpnloghmbmlaa.Print
open Go.RowKit Go.Proofs.YtkgpnloghmbmlaaW.PrintWords Go.Proofs.YtkgpnloghmbmlaaW.PrintLast Go.Proofs.YtkgpnloghmbmlaaW.PrintMore
attribute [local go_sem] max2_int min2_int max_two min_two max_three min_three max_four min_four   -- for this text's walks alone
set_option linter.unusedVariables false
set_option linter.unusedSimpArgs false
def spec_l6Rd_pick.j0 : Nat → Int → Bool → List Int → Int → Option (Int × Int)
 | 0, _, _, _, _ => none
 | k + 1, x1, x24, x1000, x1001 => if x24 = true then (some (0, x1001)) else (if (wrap64 (x1001 - 1)) < (x1000.length : Int) then (if 0 ≤ (wrap64 (x1001 - 1)) then (if x1 = 0 then (none) else (some (Int.tmod (wrap64 (rd x1000 (wrap64 (x1001 - 1)))) x1, x1001))) else (none)) else (if (x1000.length : Int) = 0 then (none) else (if 0 ≤ (Int.tmod (wrap64 (x1001 - 1)) (x1000.length : Int)) then (if (Int.tmod (wrap64 (x1001 - 1)) (x1000.length : Int)) < (x1000.length : Int) then (if 0 ≤ (Int.tmod (wrap64 ((wrap64 ((wrap64 (x1001 - 1)) * 7)) + 3)) (x1000.length : Int)) then (if (Int.tmod (wrap64 ((wrap64 ((wrap64 (x1001 - 1)) * 7)) + 3)) (x1000.length : Int)) < (x1000.length : Int) then (if x1 = 0 then (none) else (some (Int.tmod (Go.bits .xor .i64 (wrap64 ((wrap64 ((wrap64 ((wrap64 ((wrap64 (rd x1000 (Int.tmod (wrap64 (x1001 - 1)) (x1000.length : Int)))) * 131)) + (wrap64 ((wrap64 (rd x1000 (Int.tmod (wrap64 ((wrap64 ((wrap64 (x1001 - 1)) * 7)) + 3)) (x1000.length : Int)))) * 1117)))) + (wrap64 ((wrap64 (x1001 - 1)) * 29)))) + (wrap64 ((wrap64 (Int.tdiv (wrap64 (x1001 - 1)) (x1000.length : Int))) * 53)))) (wrap64 (Int.tdiv (wrap64 ((wrap64 ((wrap64 ((wrap64 ((wrap64 (rd x1000 (Int.tmod (wrap64 (x1001 - 1)) (x1000.length : Int)))) * 131)) + (wrap64 ((wrap64 (rd x1000 (Int.tmod (wrap64 ((wrap64 ((wrap64 (x1001 - 1)) * 7)) + 3)) (x1000.length : Int)))) * 1117)))) + (wrap64 ((wrap64 (x1001 - 1)) * 29)))) + (wrap64 ((wrap64 (Int.tdiv (wrap64 (x1001 - 1)) (x1000.length : Int))) * 53)))) 64))) x1, x1001))) else (none)) else (none)) else (none)) else (none))))
def spec_l6Rd_pick.f (k : Nat) (s0_0 : List Int) (s0_1 : Int) (a1 : Int) : Option (Int × Int) := if a1 < 1 then (spec_l6Rd_pick.j0 k a1 true s0_0 (wrap64 (s0_1 + 1))) else (spec_l6Rd_pick.j0 k a1 ((s0_0.length : Int) == 0) s0_0 (wrap64 (s0_1 + 1)))
set_option maxHeartbeats 8000000 in
set_option maxRecDepth 100000 in
theorem spec_l6Rd_pick.calls (k : Nat) (g : Nat) (s0_0 : List Int) (s0_1 : Int) (a1 : Int) (r1 : Int) (r2 : Int) (w0 w : World) (hI : IsS104 w0 w g s0_0 s0_1) (hB : Below w0.heap.size w0 w) (h : spec_l6Rd_pick.f k s0_0 s0_1 a1 = some (r1, r2)) :
  Calls Try.prog 48 #[.pointer (some ⟨g, 0, none⟩), .int .i64 a1] w fun e w' => e = .returned (.int .i64 r1) ∧ IsS104 w0 w' g s0_0 r2 ∧ Below w0.heap.size w0 w' ∧ KeepBut w w' g none := by
 have HI0 := Az.mk hI
 have HK := Az.mk (KeepBut.refl w g none)
 have HL := Az.mk hB.size
 clear hI
 have HW0 := Az.mk hB.size
 have HB := Az.mk hB
 clear hB
 have H : (if a1 < 1 then (spec_l6Rd_pick.j0 k a1 true s0_0 (wrap64 (s0_1 + 1))) else (spec_l6Rd_pick.j0 k a1 ((s0_0.length : Int) == 0) s0_0 (wrap64 (s0_1 + 1)))) = some (r1, r2) := h
 clear h
 have HC3 := Az.mk H
 clear H
 obtain ⟨ASz4_0, cSz4_0, HGz4, hgz4, HSz4_0⟩ := HI0.out
 have hcz4_0 := cellS104_0 HGz4
 have hcz4_1 := cellS104_1 HGz4
 have hfz4_1 := zq5 HGz4 1
 clear HGz4 hgz4
 go_enter Try.func48, Try.ntmps48
 go_upto_region 2 with (fail)
 repeat (go_quiet (fail); go_upto_region 2 with (fail))
 go_cut [24] (fun v24 wc => ∃ (kq : Nat) (x24_2 : Bool), v24 = .bool x24_2 ∧ Az (spec_l6Rd_pick.j0 kq a1 x24_2 s0_0 (wrap64 (s0_1 + 1)) = some (r1, r2)) ∧ Az (kq ≤ k) ∧ Az (IsS104 w0 wc g s0_0 (wrap64 (s0_1 + 1))) ∧ Az (KeepBut w wc g none) ∧ Az (Below w0.heap.size w0 wc))
 case first =>
  have H := HC3.out
  clear HC3
  by_cases c5 : a1 < 1
  ·rw [if_pos c5] at H
   have c5b0 : decide (a1 < 1) = true := decide_eq_true c5
   clear c5
   (first | rw [c5b0] | (simp only [i64_w, i32_w]; rw [c5b0]) | skip)
   have H' := Az.mk H
   clear H
   go_wp2
   repeat (go_quiet (fail); try go_wp2)
   go_meet
   case rel => exact ⟨_, (true), (by first | rfl | (simp; done) | (simp [*]; done)), H', ⟨by first | omega | exact Nat.le_refl _⟩, ⟨by repeat (first | (with_reducible first | exact HI0.out | apply IsS104.alloc | apply IsS104.drewN | apply IsS104.drew | apply IsS104.set_1) | exact HI0.out)⟩, ⟨by repeat (first | (with_reducible first | exact HK.out | apply KeepBut.set_ | apply keep_drewN | apply keep_drew | apply keep_alloc) | exact HK.out)⟩, ⟨by repeat (first | (with_reducible first | exact HB.out | apply zq2 | apply zq1 | apply zqd | refine zq3 ?_ (IsS104.ge HI0.out)) | exact HB.out)⟩⟩
  ·rw [if_neg c5] at H
   have c5b0 : decide (a1 < 1) = false := decide_eq_false c5
   clear c5
   (first | rw [c5b0] | (simp only [i64_w, i32_w]; rw [c5b0]) | skip)
   have H' := Az.mk H
   clear H
   obtain ⟨ASz6_0, cSz6_0, HGz6, hgz6, HSz6_0⟩ := HI0.out
   have hcz6_0 := cellS104_0 HGz6
   have hcz6_1 := cellS104_1 HGz6
   have hfz6_1 := zq5 HGz6 1
   clear HGz6 hgz6
   go_wp2
   repeat (go_quiet (fail); try go_wp2)
   go_meet
   case rel => exact ⟨_, (((s0_0.length : Int) == 0)), (by first | rfl | (simp; done) | (simp [*]; done)), H', ⟨by first | omega | exact Nat.le_refl _⟩, ⟨by repeat (first | (with_reducible first | exact HI0.out | apply IsS104.alloc | apply IsS104.drewN | apply IsS104.drew | apply IsS104.set_1) | exact HI0.out)⟩, ⟨by repeat (first | (with_reducible first | exact HK.out | apply KeepBut.set_ | apply keep_drewN | apply keep_drew | apply keep_alloc) | exact HK.out)⟩, ⟨by repeat (first | (with_reducible first | exact HB.out | apply zq2 | apply zq1 | apply zqd | refine zq3 ?_ (IsS104.ge HI0.out)) | exact HB.out)⟩⟩
 case rest =>
  clear HC3
  try clear p2
  try clear c4
  try clear c5
  try clear c5b0
  try clear p6
  try clear hcz4_0
  try clear hcz4_1
  try clear hcz6_0
  try clear hcz6_1
  try clear hfz4_1
  try clear hfz6_1
  obtain ⟨kq, x24_2, rfl, HA, HJ2, HI0, HK, HB⟩ := hcut
  cases kq with
  | zero => exact absurd HA.out (by simp [spec_l6Rd_pick.j0])
  | succ kj2 =>
   have H := HA.out
   clear HA
   simp only [spec_l6Rd_pick.j0] at H
   by_cases c7 : x24_2 = true
   ·subst c7
    have H1 : (some (0, (wrap64 (s0_1 + 1)))) = some (r1, r2) := by rw [if_pos rfl] at H; exact H
    clear H
    have H := H1
    clear H1
    simp only [Option.some.injEq, Prod.mk.injEq] at H
    obtain ⟨rfl, rfl⟩ := H
    go_wp2
    repeat (go_quiet (fail); try go_wp2)
    go_ret
    exact ⟨by first | rfl | (simp [errW_none, errW_some] <;> rfl) | (simp [*, errW_none, errW_some] <;> rfl), by repeat (first | (with_reducible first | exact HI0.out | apply IsS104.alloc | apply IsS104.drewN | apply IsS104.drew | apply IsS104.set_1) | exact HI0.out), by repeat (first | (with_reducible first | exact HB.out | apply zq2 | apply zq1 | apply zqd | refine zq3 ?_ (IsS104.ge HI0.out)) | exact HB.out), by repeat (first | (with_reducible first | exact HK.out | apply KeepBut.set_ | apply keep_drewN | apply keep_drew | apply keep_alloc) | exact HK.out)⟩
   ·replace c7 := Bool.eq_false_iff.mpr c7
    subst c7
    have H1 : (if (wrap64 ((wrap64 (s0_1 + 1)) - 1)) < (s0_0.length : Int) then (if 0 ≤ (wrap64 ((wrap64 (s0_1 + 1)) - 1)) then (if a1 = 0 then (none) else (some (Int.tmod (wrap64 (rd s0_0 (wrap64 ((wrap64 (s0_1 + 1)) - 1)))) a1, (wrap64 (s0_1 + 1))))) else (none)) else (if (s0_0.length : Int) = 0 then (none) else (if 0 ≤ (Int.tmod (wrap64 ((wrap64 (s0_1 + 1)) - 1)) (s0_0.length : Int)) then (if (Int.tmod (wrap64 ((wrap64 (s0_1 + 1)) - 1)) (s0_0.length : Int)) < (s0_0.length : Int) then (if 0 ≤ (Int.tmod (wrap64 ((wrap64 ((wrap64 ((wrap64 (s0_1 + 1)) - 1)) * 7)) + 3)) (s0_0.length : Int)) then (if (Int.tmod (wrap64 ((wrap64 ((wrap64 ((wrap64 (s0_1 + 1)) - 1)) * 7)) + 3)) (s0_0.length : Int)) < (s0_0.length : Int) then (if a1 = 0 then (none) else (some (Int.tmod (Go.bits .xor .i64 (wrap64 ((wrap64 ((wrap64 ((wrap64 ((wrap64 (rd s0_0 (Int.tmod (wrap64 ((wrap64 (s0_1 + 1)) - 1)) (s0_0.length : Int)))) * 131)) + (wrap64 ((wrap64 (rd s0_0 (Int.tmod (wrap64 ((wrap64 ((wrap64 ((wrap64 (s0_1 + 1)) - 1)) * 7)) + 3)) (s0_0.length : Int)))) * 1117)))) + (wrap64 ((wrap64 ((wrap64 (s0_1 + 1)) - 1)) * 29)))) + (wrap64 ((wrap64 (Int.tdiv (wrap64 ((wrap64 (s0_1 + 1)) - 1)) (s0_0.length : Int))) * 53)))) (wrap64 (Int.tdiv (wrap64 ((wrap64 ((wrap64 ((wrap64 ((wrap64 (rd s0_0 (Int.tmod (wrap64 ((wrap64 (s0_1 + 1)) - 1)) (s0_0.length : Int)))) * 131)) + (wrap64 ((wrap64 (rd s0_0 (Int.tmod (wrap64 ((wrap64 ((wrap64 ((wrap64 (s0_1 + 1)) - 1)) * 7)) + 3)) (s0_0.length : Int)))) * 1117)))) + (wrap64 ((wrap64 ((wrap64 (s0_1 + 1)) - 1)) * 29)))) + (wrap64 ((wrap64 (Int.tdiv (wrap64 ((wrap64 (s0_1 + 1)) - 1)) (s0_0.length : Int))) * 53)))) 64))) a1, (wrap64 (s0_1 + 1))))) else (none)) else (none)) else (none)) else (none)))) = some (r1, r2) := by rw [if_neg (show ¬ (false = true) by decide)] at H; exact H
    clear H
    have H := H1
    clear H1
    by_cases c8 : (wrap64 ((wrap64 (s0_1 + 1)) - 1)) < (s0_0.length : Int)
    ·rw [if_pos c8] at H
     have c8b0 : decide ((wrap64 ((wrap64 (s0_1 + 1)) - 1)) < (s0_0.length : Int)) = true := decide_eq_true c8
     clear c8
     obtain ⟨ji9, hji9⟩ : ∃ j_ : Int, (wrap64 ((wrap64 (s0_1 + 1)) - 1)) = j_ := ⟨_, rfl⟩
     replace H : (if 0 ≤ (ji9) then (if a1 = 0 then (none) else (some (Int.tmod (wrap64 (rd s0_0 (ji9))) a1, (wrap64 (s0_1 + 1))))) else (none)) = some (r1, r2) := by first | (rw [hji9] at H; exact H) | (simp only [hji9] at H ⊢; exact H)
     (try rw [hji9] at c8b0)
     have hji9w : (IntKind.i64.wrap ((wrap64 (s0_1 + 1)) - 1)) = ji9 := (i64_w _).trans hji9
     by_cases c10 : 0 ≤ (ji9)
     ·rw [if_pos c10] at H
      have c10b0 : decide (0 ≤ (ji9)) = true := decide_eq_true c10
      clear c10
      by_cases c11 : a1 = 0
      ·rw [if_pos c11] at H
       exact absurd H (by simp)
      ·rw [if_neg c11] at H
       have c11b0 : (a1 == 0) = false := beq_eq_false_iff_ne.mpr c11
       have c11b1 : (a1 != 0) = true := bne_iff_ne.mpr c11
       simp only [Option.some.injEq, Prod.mk.injEq] at H
       obtain ⟨rfl, rfl⟩ := H
       obtain ⟨ASz12_0, cSz12_0, HGz12, hgz12, HSz12_0⟩ := HI0.out
       have hcz12_0 := cellS104_0 HGz12
       have hcz12_1 := cellS104_1 HGz12
       have hfz12_1 := zq5 HGz12 1
       clear HGz12 hgz12
       have p418 : 0 ≤ ((ji9) : Int) := of_decide_eq_true (by first | (with_reducible assumption) | assumption)
       have q418 : (ji9) < (s0_0.length : Int) := of_decide_eq_true (by first | (with_reducible assumption) | assumption)
       obtain ⟨ad418, e418, hx418_0⟩ := Kd.at_int HSz12_0 (ji9) p418 q418
       cases e418
       replace hx418_0 := pw_cell_below HB.out hx418_0
       replace p418 := eq_true p418
       replace q418 := eq_true q418
       go_wp2
       repeat (go_quiet (fail); try go_wp2)
       go_ret
       exact ⟨by first | rfl | (simp [errW_none, errW_some] <;> rfl) | (simp only [← hji9]; first | rfl | (simp [errW_none, errW_some] <;> rfl)) | (simp [*, errW_none, errW_some] <;> rfl), by repeat (first | (with_reducible first | exact HI0.out | apply IsS104.alloc | apply IsS104.drewN | apply IsS104.drew | apply IsS104.set_1) | exact HI0.out), by repeat (first | (with_reducible first | exact HB.out | apply zq2 | apply zq1 | apply zqd | refine zq3 ?_ (IsS104.ge HI0.out)) | exact HB.out), by repeat (first | (with_reducible first | exact HK.out | apply KeepBut.set_ | apply keep_drewN | apply keep_drew | apply keep_alloc) | exact HK.out)⟩
     ·rw [if_neg c10] at H
      exact absurd H (by simp)
    ·rw [if_neg c8] at H
     have c8b0 : decide ((wrap64 ((wrap64 (s0_1 + 1)) - 1)) < (s0_0.length : Int)) = false := decide_eq_false c8
     clear c8
     by_cases c13 : (s0_0.length : Int) = 0
     ·rw [if_pos c13] at H
      exact absurd H (by simp)
     ·rw [if_neg c13] at H
      have c13b0 : ((s0_0.length : Int) == 0) = false := beq_eq_false_iff_ne.mpr c13
      have c13b1 : ((s0_0.length : Int) != 0) = true := bne_iff_ne.mpr c13
      have c13b2 : ¬ (s0_0 = []) := fun h_ => c13 (by rw [h_]; rfl)
      obtain ⟨ji14, hji14⟩ : ∃ j_ : Int, (Int.tmod (wrap64 ((wrap64 (s0_1 + 1)) - 1)) (s0_0.length : Int)) = j_ := ⟨_, rfl⟩
      replace H : (if 0 ≤ (ji14) then (if (ji14) < (s0_0.length : Int) then (if 0 ≤ (Int.tmod (wrap64 ((wrap64 ((wrap64 ((wrap64 (s0_1 + 1)) - 1)) * 7)) + 3)) (s0_0.length : Int)) then (if (Int.tmod (wrap64 ((wrap64 ((wrap64 ((wrap64 (s0_1 + 1)) - 1)) * 7)) + 3)) (s0_0.length : Int)) < (s0_0.length : Int) then (if a1 = 0 then (none) else (some (Int.tmod (Go.bits .xor .i64 (wrap64 ((wrap64 ((wrap64 ((wrap64 ((wrap64 (rd s0_0 (ji14))) * 131)) + (wrap64 ((wrap64 (rd s0_0 (Int.tmod (wrap64 ((wrap64 ((wrap64 ((wrap64 (s0_1 + 1)) - 1)) * 7)) + 3)) (s0_0.length : Int)))) * 1117)))) + (wrap64 ((wrap64 ((wrap64 (s0_1 + 1)) - 1)) * 29)))) + (wrap64 ((wrap64 (Int.tdiv (wrap64 ((wrap64 (s0_1 + 1)) - 1)) (s0_0.length : Int))) * 53)))) (wrap64 (Int.tdiv (wrap64 ((wrap64 ((wrap64 ((wrap64 ((wrap64 (rd s0_0 (ji14))) * 131)) + (wrap64 ((wrap64 (rd s0_0 (Int.tmod (wrap64 ((wrap64 ((wrap64 ((wrap64 (s0_1 + 1)) - 1)) * 7)) + 3)) (s0_0.length : Int)))) * 1117)))) + (wrap64 ((wrap64 ((wrap64 (s0_1 + 1)) - 1)) * 29)))) + (wrap64 ((wrap64 (Int.tdiv (wrap64 ((wrap64 (s0_1 + 1)) - 1)) (s0_0.length : Int))) * 53)))) 64))) a1, (wrap64 (s0_1 + 1))))) else (none)) else (none)) else (none)) else (none)) = some (r1, r2) := by first | (rw [hji14] at H; exact H) | (simp only [hji14] at H ⊢; exact H)
      by_cases c15 : 0 ≤ (ji14)
      ·rw [if_pos c15] at H
       have c15b0 : decide (0 ≤ (ji14)) = true := decide_eq_true c15
       clear c15
       by_cases c16 : (ji14) < (s0_0.length : Int)
       ·rw [if_pos c16] at H
        have c16b0 : decide ((ji14) < (s0_0.length : Int)) = true := decide_eq_true c16
        clear c16
        obtain ⟨ji17, hji17⟩ : ∃ j_ : Int, (Int.tmod (wrap64 ((wrap64 ((wrap64 ((wrap64 (s0_1 + 1)) - 1)) * 7)) + 3)) (s0_0.length : Int)) = j_ := ⟨_, rfl⟩
        replace H : (if 0 ≤ (ji17) then (if (ji17) < (s0_0.length : Int) then (if a1 = 0 then (none) else (some (Int.tmod (Go.bits .xor .i64 (wrap64 ((wrap64 ((wrap64 ((wrap64 ((wrap64 (rd s0_0 (ji14))) * 131)) + (wrap64 ((wrap64 (rd s0_0 (ji17))) * 1117)))) + (wrap64 ((wrap64 ((wrap64 (s0_1 + 1)) - 1)) * 29)))) + (wrap64 ((wrap64 (Int.tdiv (wrap64 ((wrap64 (s0_1 + 1)) - 1)) (s0_0.length : Int))) * 53)))) (wrap64 (Int.tdiv (wrap64 ((wrap64 ((wrap64 ((wrap64 ((wrap64 (rd s0_0 (ji14))) * 131)) + (wrap64 ((wrap64 (rd s0_0 (ji17))) * 1117)))) + (wrap64 ((wrap64 ((wrap64 (s0_1 + 1)) - 1)) * 29)))) + (wrap64 ((wrap64 (Int.tdiv (wrap64 ((wrap64 (s0_1 + 1)) - 1)) (s0_0.length : Int))) * 53)))) 64))) a1, (wrap64 (s0_1 + 1))))) else (none)) else (none)) = some (r1, r2) := by first | (rw [hji17] at H; exact H) | (simp only [hji17] at H ⊢; exact H)
        by_cases c18 : 0 ≤ (ji17)
        ·rw [if_pos c18] at H
         have c18b0 : decide (0 ≤ (ji17)) = true := decide_eq_true c18
         clear c18
         by_cases c19 : (ji17) < (s0_0.length : Int)
         ·rw [if_pos c19] at H
          have c19b0 : decide ((ji17) < (s0_0.length : Int)) = true := decide_eq_true c19
          clear c19
          by_cases c20 : a1 = 0
          ·rw [if_pos c20] at H
           exact absurd H (by simp)
          ·rw [if_neg c20] at H
           have c20b0 : (a1 == 0) = false := beq_eq_false_iff_ne.mpr c20
           have c20b1 : (a1 != 0) = true := bne_iff_ne.mpr c20
           simp only [Option.some.injEq, Prod.mk.injEq] at H
           obtain ⟨rfl, rfl⟩ := H
           obtain ⟨ASz21_0, cSz21_0, HGz21, hgz21, HSz21_0⟩ := HI0.out
           have hcz21_0 := cellS104_0 HGz21
           have hcz21_1 := cellS104_1 HGz21
           have hfz21_1 := zq5 HGz21 1
           clear HGz21 hgz21
           have p419 : 0 ≤ ((ji14) : Int) := of_decide_eq_true (by first | (with_reducible assumption) | assumption)
           have q419 : (ji14) < (s0_0.length : Int) := of_decide_eq_true (by first | (with_reducible assumption) | assumption)
           obtain ⟨ad419, e419, hx419_0⟩ := Kd.at_int HSz21_0 (ji14) p419 q419
           cases e419
           replace hx419_0 := pw_cell_below HB.out hx419_0
           replace p419 := eq_true p419
           replace q419 := eq_true q419
           have p420 : 0 ≤ ((ji17) : Int) := of_decide_eq_true (by first | (with_reducible assumption) | assumption)
           have q420 : (ji17) < (s0_0.length : Int) := of_decide_eq_true (by first | (with_reducible assumption) | assumption)
           obtain ⟨ad420, e420, hx420_0⟩ := Kd.at_int HSz21_0 (ji17) p420 q420
           obtain rfl : ad419 = ad420 := (by injection e420)
           replace hx420_0 := pw_cell_below HB.out hx420_0
           replace p420 := eq_true p420
           replace q420 := eq_true q420
           go_wp2
           repeat (go_quiet (fail); try go_wp2)
           go_ret
           exact ⟨by first | rfl | (simp [errW_none, errW_some] <;> rfl) | (simp only [← hji14, ← hji17]; first | rfl | (simp [errW_none, errW_some] <;> rfl)) | (simp [*, errW_none, errW_some] <;> rfl), by repeat (first | (with_reducible first | exact HI0.out | apply IsS104.alloc | apply IsS104.drewN | apply IsS104.drew | apply IsS104.set_1) | exact HI0.out), by repeat (first | (with_reducible first | exact HB.out | apply zq2 | apply zq1 | apply zqd | refine zq3 ?_ (IsS104.ge HI0.out)) | exact HB.out), by repeat (first | (with_reducible first | exact HK.out | apply KeepBut.set_ | apply keep_drewN | apply keep_drew | apply keep_alloc) | exact HK.out)⟩
         ·rw [if_neg c19] at H
          exact absurd H (by simp)
        ·rw [if_neg c18] at H
         exact absurd H (by simp)
       ·rw [if_neg c16] at H
        exact absurd H (by simp)
      ·rw [if_neg c15] at H
       exact absurd H (by simp)
end Go.Proofs.Ytkgpnloghmbmlaa.Print
namespace Go.Proofs.Ytkgpnloghmbmlaa.Pure
open Go.RowKit Go.Proofs.Ytkgpnloghmbmlaa.Print Go.Proofs.YtkgpnloghmbmlaaW.PrintWords
structure Code (b : List Int) : Prop where
  byte : ∀ x ∈ b, 0 ≤ x ∧ x < 256
  len : b.length ≤ 2000
theorem tmod_bd {x n : Int} (hx : 0 ≤ x) (hn : 0 < n) : 0 ≤ Int.tmod x n ∧ Int.tmod x n < n :=
  ⟨Int.tmod_nonneg n hx, Int.tmod_lt_of_pos x hn⟩
theorem pick_ev {b : List Int} (hb : Code b) (p n : Int) (hp : 0 ≤ p ∧ p ≤ 1099511627776) (hn : n ≤ 1099511627776) :
    ∃ r, Ev (fun k => spec_l6Rd_pick.f k b p n) (r, p + 1) ∧ 0 ≤ r ∧ (1 ≤ n → r < n) ∧ (n < 1 → r = 0) := by
  have e1 : wrap64 (p + 1) = p + 1 := wrap_ok (by omega)
  have e2 : wrap64 (p + 1 - 1) = p := by rw [wrap_ok (by omega)]; omega
  unfold spec_l6Rd_pick.f
  simp only [e1]
  by_cases h1 : n < 1
  · refine ⟨0, Ev.pos h1 (Ev.next ?_), by omega, by omega, by omega⟩
    simp only [spec_l6Rd_pick.j0]
    exact Ev.pos trivial (Ev.ret rfl)
  · by_cases h0 : (b.length : Int) = 0
    · refine ⟨0, Ev.neg h1 (Ev.next ?_), by omega, by omega, by omega⟩
      simp only [spec_l6Rd_pick.j0]
      exact Ev.pos (by simpa using h0) (Ev.ret rfl)
    · have h0' : ¬ (((b.length : Int) == 0) = true) := by simpa using h0
      have hl : 0 < (b.length : Int) := by omega
      by_cases h2 : p < (b.length : Int)
      · have hr := rd_bd b hb.byte p
        have e3 : wrap64 (rd b p) = rd b p := wrap_ok (by omega)
        have hm := tmod_bd hr.1 (show 0 < n by omega)
        refine ⟨Int.tmod (rd b p) n, Ev.neg h1 (Ev.next ?_), hm.1, fun _ => hm.2, by omega⟩
        simp only [spec_l6Rd_pick.j0, e2, e3]
        exact Ev.neg h0' (Ev.pos h2 (Ev.pos hp.1 (Ev.neg (by omega) (Ev.ret rfl))))
      · have hm1 := tmod_bd hp.1 hl
        have e3 : wrap64 (p * 7) = p * 7 := wrap_ok (by omega)
        have e4 : wrap64 (p * 7 + 3) = p * 7 + 3 := wrap_ok (by omega)
        have hm2 := tmod_bd (x := p * 7 + 3) (by omega) hl
        have hr1 := rd_bd b hb.byte (Int.tmod p (b.length : Int))
        have hr2 := rd_bd b hb.byte (Int.tmod (p * 7 + 3) (b.length : Int))
        generalize hg1 : rd b (Int.tmod p (b.length : Int)) = r1 at hr1
        generalize hg2 : rd b (Int.tmod (p * 7 + 3) (b.length : Int)) = r2 at hr2
        have hd : 0 ≤ Int.tdiv p (b.length : Int) ∧ Int.tdiv p (b.length : Int) ≤ p := by
          rw [Int.tdiv_eq_ediv_of_nonneg hp.1]
          exact ⟨Int.ediv_nonneg hp.1 (by omega), Int.ediv_le_self _ hp.1⟩
        generalize hg3 : Int.tdiv p (b.length : Int) = dd at hd
        have e5 : wrap64 r1 = r1 := wrap_ok (by omega)
        have e6 : wrap64 r2 = r2 := wrap_ok (by omega)
        have e7 : wrap64 (r1 * 131) = r1 * 131 := wrap_ok (by omega)
        have e8 : wrap64 (r2 * 1117) = r2 * 1117 := wrap_ok (by omega)
        have e9 : wrap64 (r1 * 131 + r2 * 1117) = r1 * 131 + r2 * 1117 := wrap_ok (by omega)
        have e10 : wrap64 (p * 29) = p * 29 := wrap_ok (by omega)
        have e11 : wrap64 (r1 * 131 + r2 * 1117 + p * 29) = r1 * 131 + r2 * 1117 + p * 29 := wrap_ok (by omega)
        have e12 : wrap64 dd = dd := wrap_ok (by omega)
        have e13 : wrap64 (dd * 53) = dd * 53 := wrap_ok (by omega)
        obtain ⟨X, hX⟩ : ∃ X, X = r1 * 131 + r2 * 1117 + p * 29 + dd * 53 := ⟨_, rfl⟩
        have hXb : 0 ≤ X ∧ X < 4611686018427387904 := by omega
        have e14 : wrap64 X = X := wrap_ok (by omega)
        have hdX : 0 ≤ Int.tdiv X 64 ∧ Int.tdiv X 64 < 4611686018427387904 := by
          rw [Int.tdiv_eq_ediv_of_nonneg hXb.1]
          omega
        have e15 : wrap64 (Int.tdiv X 64) = Int.tdiv X 64 := wrap_ok (by omega)
        have hx := xor64_bd X (Int.tdiv X 64) hXb hdX
        have hm := tmod_bd hx.1 (show 0 < n by omega)
        refine ⟨Int.tmod (Go.bits .xor .i64 X (Int.tdiv X 64)) n, Ev.neg h1 (Ev.next ?_), hm.1, fun _ => hm.2, by omega⟩
        simp only [spec_l6Rd_pick.j0, e2, e3, e4, hg1, hg2, hg3, e5, e6, e7, e8, e9, e10, e11, e12, e13, ← hX, e14, e15]
        exact Ev.neg h0' (Ev.neg h2 (Ev.neg h0 (Ev.pos hm1.1 (Ev.pos hm1.2 (Ev.pos hm2.1 (Ev.pos hm2.2 (Ev.neg (by omega) (Ev.ret rfl))))))))
theorem open_ev (l : List Int) (h : ∀ x ∈ l, (Lit.int .u8 x).wf = true) : ∃ b, spec_l6Open.f l = some (b, 0) ∧ Code b := by
  have hb := wf_u8 h
  unfold spec_l6Open.f
  by_cases h1 : (l.length : Int) > 2000
  · rw [if_pos h1, if_pos (by omega)]
    exact ⟨_, rfl, fun x hx => hb x (List.mem_of_mem_take hx), by rw [List.length_take]; omega⟩
  · rw [if_neg h1]
    exact ⟨_, rfl, hb, by omega⟩
end Go.Proofs.Ytkgpnloghmbmlaa.Pure
namespace Go.Proofs.Ytkgpnloghmbmlaa.Print
open Go.RowKit Go.Proofs.YtkgpnloghmbmlaaW.PrintWords Go.Proofs.YtkgpnloghmbmlaaW.PrintLast Go.Proofs.YtkgpnloghmbmlaaW.PrintMore
attribute [local go_sem] max2_int min2_int max_two min_two max_three min_three max_four min_four   -- for this text's walks alone
set_option linter.unusedVariables false
set_option linter.unusedSimpArgs false
theorem eqA54 (d : Nat) (w : World) (x0 y0 : Bool) (x1 y1 : Int) (x2 y2 : ByteArray) :
  (Op.equalIn (d + 2) 54 (.agg #[.bool x0, .int .i64 x1, .string x2]) (.agg #[.bool y0, .int .i64 y1, .string y2])).run Try.prog w = .ok (x0 == y0 && (x1 == y1 && (x2.toList == y2.toList))) w := by
 refine eqA_of Try.underlying54 (by kernel_rfl) ?_
 refine eqf_cons (by rfl) (by go_simp; rfl) (by go_simp; rfl) (by go_simp) ?_
 refine eqf_cons (by rfl) (by go_simp; rfl) (by go_simp; rfl) (by go_simp) ?_
 exact eqf_last (by rfl) (by go_simp; rfl) (by go_simp; rfl) (by go_simp)
end Go.Proofs.Ytkgpnloghmbmlaa.Print
namespace Go.Proofs.Ytkgpnloghmbmlaa.Print
open Go.RowKit Go.Proofs.YtkgpnloghmbmlaaW.PrintWords Go.Proofs.YtkgpnloghmbmlaaW.PrintLast Go.Proofs.YtkgpnloghmbmlaaW.PrintMore
attribute [local go_sem] max2_int min2_int max_two min_two max_three min_three max_four min_four   -- for this text's walks alone
set_option linter.unusedVariables false
set_option linter.unusedSimpArgs false
def laws_lpaTexts.l0 : Nat → List ByteArray → List ByteArray → Int → Option (Bool)
 | 0, _, _, _ => none
 | k + 1, x0, x1, x5 => if x5 < (x0.length : Int) then (if 0 ≤ x5 then (if x5 < (x1.length : Int) then (if (rdOf ByteArray.empty x0 x5).toList = (rdOf ByteArray.empty x1 x5).toList then (laws_lpaTexts.l0 k x0 x1 (wrap64 (x5 + 1))) else (some false)) else (none)) else (none)) else (some true)
def laws_lpaTexts.f (k : Nat) (l0 : List ByteArray) (l1 : List ByteArray) : Option (Bool) := if (l0.length : Int) = (l1.length : Int) then (laws_lpaTexts.l0 k l0 l1 0) else (some false)
set_option maxHeartbeats 8000000 in
set_option maxRecDepth 100000 in
theorem laws_lpaTexts.calls (k : Nat) (A0 : Option Addr) (c0 : Nat) (l0 : List ByteArray) (A1 : Option Addr) (c1 : Nat) (l1 : List ByteArray) (r : Bool) (w : World) (hr0 : Kd.C Kd.string w A0 l0.length l0) (hc0 : l0.length ≤ c0) (hr1 : Kd.C Kd.string w A1 l1.length l1) (hc1 : l1.length ≤ c1) (h : laws_lpaTexts.f k l0 l1 = some r) :
  Calls Try.prog 40 #[.slice A0 l0.length c0, .slice A1 l1.length c1] w fun e w' => e = .returned (.bool r) ∧ Drawn0 w w' := by
 have HR0 := Az.mk hr0
 have HC0 := Az.mk hc0
 clear hr0 hc0
 have HR1 := Az.mk hr1
 have HC1 := Az.mk hc1
 clear hr1 hc1
 have H : (if (l0.length : Int) = (l1.length : Int) then (laws_lpaTexts.l0 k l0 l1 0) else (some false)) = some r := h
 clear h
 by_cases c3 : (l0.length : Int) = (l1.length : Int)
 ·rw [if_pos c3] at H
  have c3b0 : ((l0.length : Int) == (l1.length : Int)) = true := beq_iff_eq.mpr c3
  have c3b1 : ((l0.length : Int) != (l1.length : Int)) = false := bne_eq_false_iff_eq.mpr c3
  have c3b2 : (l0.length == l1.length) = true := by first | simpa using c3 | (simp at c3 ⊢; omega)
  clear c3
  have H' := Az.mk H
  clear H
  go_enter Try.func40, Try.ntmps40
  go_wp2
  repeat (go_quiet (fail); try go_wp2)
  go_loopg [5] k (fun kq v5 w' => ∃ (x5_1 : Int), v5 = .int .i64 x5_1 ∧ Az (laws_lpaTexts.l0 kq l0 l1 x5_1 = some r) ∧ Az (kq ≤ k) ∧ Drawn0 w w')
  case atStart => exact ⟨(0), (by first | rfl | (simp; done) | (simp [*]; done)), H', ⟨Nat.le_refl _⟩, by repeat (first | exact Drawn0.refl _ | apply Drawn0.step)⟩
  case round =>
   clear H'
   try clear c1
   try clear p2
   try clear c3
   try clear c3b0
   try clear c3b1
   try clear c3b2
   obtain ⟨x5_1, rfl, HA, HK1, ⟨m1, rfl⟩⟩ := hrel
   cases gk with
   | zero => exact absurd HA.out (by simp [laws_lpaTexts.l0])
   | succ k1 =>
    have H := HA.out
    clear HA
    simp only [laws_lpaTexts.l0] at H
    by_cases c4 : x5_1 < (l0.length : Int)
    ·rw [if_pos c4] at H
     have c4b0 : decide (x5_1 < (l0.length : Int)) = true := decide_eq_true c4
     clear c4
     by_cases c5 : 0 ≤ x5_1
     ·rw [if_pos c5] at H
      have c5b0 : decide (0 ≤ x5_1) = true := decide_eq_true c5
      clear c5
      by_cases c6 : x5_1 < (l1.length : Int)
      ·rw [if_pos c6] at H
       have c6b0 : decide (x5_1 < (l1.length : Int)) = true := decide_eq_true c6
       clear c6
       by_cases c7 : (rdOf ByteArray.empty l0 x5_1).toList = (rdOf ByteArray.empty l1 x5_1).toList
       ·rw [if_pos c7] at H
        have c7b0 : ((rdOf ByteArray.empty l0 x5_1).toList == (rdOf ByteArray.empty l1 x5_1).toList) = true := beq_iff_eq.mpr c7
        have c7b1 : ((rdOf ByteArray.empty l0 x5_1).toList != (rdOf ByteArray.empty l1 x5_1).toList) = false := bne_eq_false_iff_eq.mpr c7
        clear c7
        have H' := Az.mk H
        clear H
        have p426 : 0 ≤ (x5_1 : Int) := of_decide_eq_true (by first | (with_reducible assumption) | assumption)
        have q426 : x5_1 < (l0.length : Int) := of_decide_eq_true (by first | (with_reducible assumption) | assumption)
        obtain ⟨ad426, e426, hx426_0⟩ := Kd.at_string HR0.out x5_1 p426 q426
        cases e426
        replace p426 := eq_true p426
        replace q426 := eq_true q426
        have p427 : 0 ≤ (x5_1 : Int) := of_decide_eq_true (by first | (with_reducible assumption) | assumption)
        have q427 : x5_1 < (l1.length : Int) := of_decide_eq_true (by first | (with_reducible assumption) | assumption)
        obtain ⟨ad427, e427, hx427_0⟩ := Kd.at_string HR1.out x5_1 p427 q427
        cases e427
        replace p427 := eq_true p427
        replace q427 := eq_true q427
        go_wp2
        repeat (go_quiet (fail); try go_wp2)
        go_roundg k1
        case measure => have := HK1.out; omega
        case rel => exact ⟨(wrap64 (x5_1 + 1)), (by first | rfl | (simp; done) | (simp [*]; done)), H', ⟨by have := HK1.out; omega⟩, by repeat (first | exact Drawn0.refl _ | apply Drawn0.step)⟩
       ·rw [if_neg c7] at H
        have c7b0 : ((rdOf ByteArray.empty l0 x5_1).toList == (rdOf ByteArray.empty l1 x5_1).toList) = false := beq_eq_false_iff_ne.mpr c7
        have c7b1 : ((rdOf ByteArray.empty l0 x5_1).toList != (rdOf ByteArray.empty l1 x5_1).toList) = true := bne_iff_ne.mpr c7
        obtain rfl := Option.some.inj H
        have p426 : 0 ≤ (x5_1 : Int) := of_decide_eq_true (by first | (with_reducible assumption) | assumption)
        have q426 : x5_1 < (l0.length : Int) := of_decide_eq_true (by first | (with_reducible assumption) | assumption)
        obtain ⟨ad426, e426, hx426_0⟩ := Kd.at_string HR0.out x5_1 p426 q426
        cases e426
        replace p426 := eq_true p426
        replace q426 := eq_true q426
        have p427 : 0 ≤ (x5_1 : Int) := of_decide_eq_true (by first | (with_reducible assumption) | assumption)
        have q427 : x5_1 < (l1.length : Int) := of_decide_eq_true (by first | (with_reducible assumption) | assumption)
        obtain ⟨ad427, e427, hx427_0⟩ := Kd.at_string HR1.out x5_1 p427 q427
        cases e427
        replace p427 := eq_true p427
        replace q427 := eq_true q427
        go_wp2
        repeat (go_quiet (fail); try go_wp2)
        go_ret
        exact ⟨by first | rfl | (simp; done) | (simp [*]; done), by repeat (first | exact Drawn0.refl _ | apply Drawn0.step)⟩
      ·rw [if_neg c6] at H
       exact absurd H (by simp)
     ·rw [if_neg c5] at H
      exact absurd H (by simp)
    ·rw [if_neg c4] at H
     have c4b0 : decide (x5_1 < (l0.length : Int)) = false := decide_eq_false c4
     clear c4
     obtain rfl := Option.some.inj H
     go_wp2
     repeat (go_quiet (fail); try go_wp2)
     go_ret
     exact ⟨by first | rfl | (simp; done) | (simp [*]; done), by repeat (first | exact Drawn0.refl _ | apply Drawn0.step)⟩
 ·rw [if_neg c3] at H
  have c3b0 : ((l0.length : Int) == (l1.length : Int)) = false := beq_eq_false_iff_ne.mpr c3
  have c3b1 : ((l0.length : Int) != (l1.length : Int)) = true := bne_iff_ne.mpr c3
  have c3b2 : (l0.length == l1.length) = false := by first | simpa using c3 | (simp at c3 ⊢; omega)
  obtain rfl := Option.some.inj H
  go_enter Try.func40, Try.ntmps40
  go_wp2
  repeat (go_quiet (fail); try go_wp2)
  go_ret
  exact ⟨by first | rfl | (simp; done) | (simp [*]; done), by repeat (first | exact Drawn0.refl _ | apply Drawn0.step)⟩
end Go.Proofs.Ytkgpnloghmbmlaa.Print
namespace Go.Proofs.Ytkgpnloghmbmlaa.Print
open Go.RowKit Go.Proofs.YtkgpnloghmbmlaaW.PrintWords Go.Proofs.YtkgpnloghmbmlaaW.PrintLast Go.Proofs.YtkgpnloghmbmlaaW.PrintMore
attribute [local go_sem] max2_int min2_int max_two min_two max_three min_three max_four min_four   -- for this text's walks alone
set_option linter.unusedVariables false
set_option linter.unusedSimpArgs false
attribute [local go_sem high] eqA54
mutual
def laws_lpaDisk.j0 : Nat → Bool → Int → List ByteArray → List ByteArray → List Bool → List (S54) → Int → List ByteArray → List ByteArray → List Bool → List (S54) → Option (Bool)
 | 0, _, _, _, _, _, _, _, _, _, _, _ => none
 | k + 1, x45, x429000, x429001, x429002, x429003, x429004, x430000, x430001, x430002, x430003, x430004 => if x45 = true then (some false) else (laws_lpaDisk.l0 k 0 x429000 x429001 x429002 x429003 x429004 x430000 x430001 x430002 x430003 x430004)
def laws_lpaDisk.l0 : Nat → Int → Int → List ByteArray → List ByteArray → List Bool → List (S54) → Int → List ByteArray → List ByteArray → List Bool → List (S54) → Option (Bool)
 | 0, _, _, _, _, _, _, _, _, _, _, _ => none
 | k + 1, x5, x429000, x429001, x429002, x429003, x429004, x430000, x430001, x430002, x430003, x430004 => if x5 < (x429003.length : Int) then (if 0 ≤ x5 then (if x5 < (x430003.length : Int) then (if ((rdOf false x429003 x5) != (rdOf false x430003 x5)) = true then (some false) else (laws_lpaDisk.l0 k (wrap64 (x5 + 1)) x429000 x429001 x429002 x429003 x429004 x430000 x430001 x430002 x430003 x430004)) else (none)) else (none)) else (laws_lpaDisk.l1 k 0 x429000 x429001 x429002 x429003 x429004 x430000 x430001 x430002 x430003 x430004)
def laws_lpaDisk.l1 : Nat → Int → Int → List ByteArray → List ByteArray → List Bool → List (S54) → Int → List ByteArray → List ByteArray → List Bool → List (S54) → Option (Bool)
 | 0, _, _, _, _, _, _, _, _, _, _, _ => none
 | k + 1, x6, x429000, x429001, x429002, x429003, x429004, x430000, x430001, x430002, x430003, x430004 => if x6 < (x429004.length : Int) then (if 0 ≤ x6 then (if x6 < (x430004.length : Int) then (if (!(((rd_T54 x429004 x6).f0) == ((rd_T54 x430004 x6).f0)) || (!(((rd_T54 x429004 x6).f1) == ((rd_T54 x430004 x6).f1)) || (!((((rd_T54 x429004 x6).f2).toList) == (((rd_T54 x430004 x6).f2).toList))))) = true then (some false) else (laws_lpaDisk.l1 k (wrap64 (x6 + 1)) x429000 x429001 x429002 x429003 x429004 x430000 x430001 x430002 x430003 x430004)) else (none)) else (none)) else (some true)
end
def laws_lpaDisk.f (k : Nat) (a0_0 : Int) (l0_1 : List ByteArray) (l0_2 : List ByteArray) (l0_3 : List Bool) (l0_4 : List (S54)) (a1_0 : Int) (l1_1 : List ByteArray) (l1_2 : List ByteArray) (l1_3 : List Bool) (l1_4 : List (S54)) : Option (Bool) := if a0_0 = a1_0 then ((laws_lpaTexts.f k l0_1 l1_1).bind fun t430 => (if t430 = true then ((laws_lpaTexts.f k l0_2 l1_2).bind fun t431 => (if t431 = true then (if (l0_3.length : Int) = (l1_3.length : Int) then (laws_lpaDisk.j0 k ((l0_4.length : Int) != (l1_4.length : Int)) a0_0 l0_1 l0_2 l0_3 l0_4 a1_0 l1_1 l1_2 l1_3 l1_4) else (laws_lpaDisk.j0 k true a0_0 l0_1 l0_2 l0_3 l0_4 a1_0 l1_1 l1_2 l1_3 l1_4)) else (laws_lpaDisk.j0 k true a0_0 l0_1 l0_2 l0_3 l0_4 a1_0 l1_1 l1_2 l1_3 l1_4))) else (laws_lpaDisk.j0 k true a0_0 l0_1 l0_2 l0_3 l0_4 a1_0 l1_1 l1_2 l1_3 l1_4))) else (laws_lpaDisk.j0 k true a0_0 l0_1 l0_2 l0_3 l0_4 a1_0 l1_1 l1_2 l1_3 l1_4)
set_option maxHeartbeats 8000000 in
set_option maxRecDepth 100000 in
theorem laws_lpaDisk.calls (k : Nat) (a0_0 : Int) (A0_1 : Option Addr) (c0_1 : Nat) (l0_1 : List ByteArray) (A0_2 : Option Addr) (c0_2 : Nat) (l0_2 : List ByteArray) (A0_3 : Option Addr) (c0_3 : Nat) (l0_3 : List Bool) (A0_4 : Option Addr) (c0_4 : Nat) (l0_4 : List (S54)) (a1_0 : Int) (A1_1 : Option Addr) (c1_1 : Nat) (l1_1 : List ByteArray) (A1_2 : Option Addr) (c1_2 : Nat) (l1_2 : List ByteArray) (A1_3 : Option Addr) (c1_3 : Nat) (l1_3 : List Bool) (A1_4 : Option Addr) (c1_4 : Nat) (l1_4 : List (S54)) (r : Bool) (w : World) (hr0_1 : Kd.C Kd.string w A0_1 l0_1.length l0_1) (hc0_1 : l0_1.length ≤ c0_1) (hr0_2 : Kd.C Kd.string w A0_2 l0_2.length l0_2) (hc0_2 : l0_2.length ≤ c0_2) (hr0_3 : Kd.C Kd.bool w A0_3 l0_3.length l0_3) (hc0_3 : l0_3.length ≤ c0_3) (hr0_4 : Kd.C k54 w A0_4 l0_4.length l0_4) (hc0_4 : l0_4.length ≤ c0_4) (hr1_1 : Kd.C Kd.string w A1_1 l1_1.length l1_1) (hc1_1 : l1_1.length ≤ c1_1) (hr1_2 : Kd.C Kd.string w A1_2 l1_2.length l1_2) (hc1_2 : l1_2.length ≤ c1_2) (hr1_3 : Kd.C Kd.bool w A1_3 l1_3.length l1_3) (hc1_3 : l1_3.length ≤ c1_3) (hr1_4 : Kd.C k54 w A1_4 l1_4.length l1_4) (hc1_4 : l1_4.length ≤ c1_4) (h : laws_lpaDisk.f k a0_0 l0_1 l0_2 l0_3 l0_4 a1_0 l1_1 l1_2 l1_3 l1_4 = some r) :
  Calls Try.prog 18 #[.agg #[.int .i64 a0_0, .slice A0_1 l0_1.length c0_1, .slice A0_2 l0_2.length c0_2, .slice A0_3 l0_3.length c0_3, .slice A0_4 l0_4.length c0_4], .agg #[.int .i64 a1_0, .slice A1_1 l1_1.length c1_1, .slice A1_2 l1_2.length c1_2, .slice A1_3 l1_3.length c1_3, .slice A1_4 l1_4.length c1_4]] w fun e w' => e = .returned (.bool r) ∧ Below w.heap.size w w' := by
 have hu28 := Try.underlying28
 have hu54 := Try.underlying54
 have HR0_1 := Az.mk hr0_1
 have HC0_1 := Az.mk hc0_1
 clear hr0_1 hc0_1
 have HR0_2 := Az.mk hr0_2
 have HC0_2 := Az.mk hc0_2
 clear hr0_2 hc0_2
 have HR0_3 := Az.mk hr0_3
 have HC0_3 := Az.mk hc0_3
 clear hr0_3 hc0_3
 have HR0_4 := Az.mk hr0_4
 have HC0_4 := Az.mk hc0_4
 clear hr0_4 hc0_4
 have HR1_1 := Az.mk hr1_1
 have HC1_1 := Az.mk hc1_1
 clear hr1_1 hc1_1
 have HR1_2 := Az.mk hr1_2
 have HC1_2 := Az.mk hc1_2
 clear hr1_2 hc1_2
 have HR1_3 := Az.mk hr1_3
 have HC1_3 := Az.mk hc1_3
 clear hr1_3 hc1_3
 have HR1_4 := Az.mk hr1_4
 have HC1_4 := Az.mk hc1_4
 clear hr1_4 hc1_4
 have HB := Az.mk (Below.refl w.heap.size w)
 have H : (if a0_0 = a1_0 then ((laws_lpaTexts.f k l0_1 l1_1).bind fun t430 => (if t430 = true then ((laws_lpaTexts.f k l0_2 l1_2).bind fun t431 => (if t431 = true then (if (l0_3.length : Int) = (l1_3.length : Int) then (laws_lpaDisk.j0 k ((l0_4.length : Int) != (l1_4.length : Int)) a0_0 l0_1 l0_2 l0_3 l0_4 a1_0 l1_1 l1_2 l1_3 l1_4) else (laws_lpaDisk.j0 k true a0_0 l0_1 l0_2 l0_3 l0_4 a1_0 l1_1 l1_2 l1_3 l1_4)) else (laws_lpaDisk.j0 k true a0_0 l0_1 l0_2 l0_3 l0_4 a1_0 l1_1 l1_2 l1_3 l1_4))) else (laws_lpaDisk.j0 k true a0_0 l0_1 l0_2 l0_3 l0_4 a1_0 l1_1 l1_2 l1_3 l1_4))) else (laws_lpaDisk.j0 k true a0_0 l0_1 l0_2 l0_3 l0_4 a1_0 l1_1 l1_2 l1_3 l1_4)) = some r := h
 clear h
 have HC3 := Az.mk H
 clear H
 go_enter Try.func18, Try.ntmps18
 go_upto_region 1 with (first | ((with_reducible refine zqg (N := 2) rfl ?_); (try (refine gate_guard (by rfl) ?_; dsimp only)); refine zqb ?hg (N := 2) ?hd (cs := #[.int .i64 a0_0, .slice A0_1 l0_1.length c0_1, .slice A0_2 l0_2.length c0_2, .slice A0_3 l0_3.length c0_3, .slice A0_4 l0_4.length c0_4]) (t := 28) ?hr ?_; (case hd => rfl); (case hg => rfl); (case hr => first | (go_simp; done) | (go_simp; rfl)); intro gb428 hg w4 hbox hb; have n0_ := Az.mk (below_step (by repeat (first | (with_reducible first | exact HB.out | apply zq2 | apply zq1 | apply zqd) | exact HB.out)) hb); have n1_ := Az.mk (hbox); have n2_ := Az.mk ((by rw [hg]; exact (below_size (by repeat (first | (with_reducible first | exact HB.out | apply zq2 | apply zq1 | apply zqd) | exact HB.out))) : w.heap.size ≤ gb428)); have n3_ := Az.mk ((by rw [hg]; exact (below_size (by repeat (first | (with_reducible first | exact HB.out | apply zq2 | apply zq1 | apply zqd) | exact HB.out))) : w.heap.size ≤ gb428)); clear HB; have HB := n0_; have BK428 := n1_; have GW428 := n2_; have GE428 := n3_; clear n0_ n1_ n2_ n3_; clear hb hbox hg) | ((with_reducible refine zqg (N := 3) rfl ?_); (try (refine gate_guard (by rfl) ?_; dsimp only)); refine zqb ?hg (N := 3) ?hd (cs := #[.int .i64 a1_0, .slice A1_1 l1_1.length c1_1, .slice A1_2 l1_2.length c1_2, .slice A1_3 l1_3.length c1_3, .slice A1_4 l1_4.length c1_4]) (t := 28) ?hr ?_; (case hd => rfl); (case hg => rfl); (case hr => first | (go_simp; done) | (go_simp; rfl)); intro gb429 hg w5 hbox hb; have n0_ := Az.mk (blk_below (g := gb428) (o := .cells #[.int .i64 a0_0, .slice A0_1 l0_1.length c0_1, .slice A0_2 l0_2.length c0_2, .slice A0_3 l0_3.length c0_3, .slice A0_4 l0_4.length c0_4] 28 (0, 0)) (by (with_reducible repeat (first | refine zq6 ?_ _ | refine zq8 ?_ | refine zq7 ?_ _)); exact BK428.out) hb); have n1_ := Az.mk (below_step (by repeat (first | (with_reducible first | exact HB.out | apply zq2 | apply zq1 | apply zqd | refine zq3 ?_ GE428.out) | exact HB.out)) hb); have n2_ := Az.mk (hbox); have n3_ := Az.mk ((by rw [hg]; exact (below_size (by repeat (first | (with_reducible first | exact HB.out | apply zq2 | apply zq1 | apply zqd | refine zq3 ?_ GE428.out) | exact HB.out))) : w.heap.size ≤ gb429)); have n4_ := Az.mk ((by rw [hg]; exact (below_size (by repeat (first | (with_reducible first | exact HB.out | apply zq2 | apply zq1 | apply zqd | refine zq3 ?_ GE428.out) | exact HB.out))) : w.heap.size ≤ gb429)); have n5_ := Az.mk ((by rw [hg]; exact Nat.ne_of_lt (blk_lt (g := gb428) (o := .cells #[.int .i64 a0_0, .slice A0_1 l0_1.length c0_1, .slice A0_2 l0_2.length c0_2, .slice A0_3 l0_3.length c0_3, .slice A0_4 l0_4.length c0_4] 28 (0, 0)) (by (with_reducible repeat (first | refine zq6 ?_ _ | refine zq8 ?_ | refine zq7 ?_ _)); exact BK428.out)) : gb428 ≠ gb429)); have n6_ := Az.mk ((by rw [hg]; exact Nat.ne_of_gt (blk_lt (g := gb428) (o := .cells #[.int .i64 a0_0, .slice A0_1 l0_1.length c0_1, .slice A0_2 l0_2.length c0_2, .slice A0_3 l0_3.length c0_3, .slice A0_4 l0_4.length c0_4] 28 (0, 0)) (by (with_reducible repeat (first | refine zq6 ?_ _ | refine zq8 ?_ | refine zq7 ?_ _)); exact BK428.out)) : gb429 ≠ gb428)); clear BK428; clear HB; have BK428 := n0_; have HB := n1_; have BK429 := n2_; have GW429 := n3_; have GE429 := n4_; have NB428_429 := n5_; have NB429_428 := n6_; clear n0_ n1_ n2_ n3_ n4_ n5_ n6_; clear hb hbox hg))
 repeat (go_quiet (first | ((with_reducible refine zqg (N := 2) rfl ?_); (try (refine gate_guard (by rfl) ?_; dsimp only)); refine zqb ?hg (N := 2) ?hd (cs := #[.int .i64 a0_0, .slice A0_1 l0_1.length c0_1, .slice A0_2 l0_2.length c0_2, .slice A0_3 l0_3.length c0_3, .slice A0_4 l0_4.length c0_4]) (t := 28) ?hr ?_; (case hd => rfl); (case hg => rfl); (case hr => first | (go_simp; done) | (go_simp; rfl)); intro gb428 hg w4 hbox hb; have n0_ := Az.mk (below_step (by repeat (first | (with_reducible first | exact HB.out | apply zq2 | apply zq1 | apply zqd) | exact HB.out)) hb); have n1_ := Az.mk (hbox); have n2_ := Az.mk ((by rw [hg]; exact (below_size (by repeat (first | (with_reducible first | exact HB.out | apply zq2 | apply zq1 | apply zqd) | exact HB.out))) : w.heap.size ≤ gb428)); have n3_ := Az.mk ((by rw [hg]; exact (below_size (by repeat (first | (with_reducible first | exact HB.out | apply zq2 | apply zq1 | apply zqd) | exact HB.out))) : w.heap.size ≤ gb428)); clear HB; have HB := n0_; have BK428 := n1_; have GW428 := n2_; have GE428 := n3_; clear n0_ n1_ n2_ n3_; clear hb hbox hg) | ((with_reducible refine zqg (N := 3) rfl ?_); (try (refine gate_guard (by rfl) ?_; dsimp only)); refine zqb ?hg (N := 3) ?hd (cs := #[.int .i64 a1_0, .slice A1_1 l1_1.length c1_1, .slice A1_2 l1_2.length c1_2, .slice A1_3 l1_3.length c1_3, .slice A1_4 l1_4.length c1_4]) (t := 28) ?hr ?_; (case hd => rfl); (case hg => rfl); (case hr => first | (go_simp; done) | (go_simp; rfl)); intro gb429 hg w5 hbox hb; have n0_ := Az.mk (blk_below (g := gb428) (o := .cells #[.int .i64 a0_0, .slice A0_1 l0_1.length c0_1, .slice A0_2 l0_2.length c0_2, .slice A0_3 l0_3.length c0_3, .slice A0_4 l0_4.length c0_4] 28 (0, 0)) (by (with_reducible repeat (first | refine zq6 ?_ _ | refine zq8 ?_ | refine zq7 ?_ _)); exact BK428.out) hb); have n1_ := Az.mk (below_step (by repeat (first | (with_reducible first | exact HB.out | apply zq2 | apply zq1 | apply zqd | refine zq3 ?_ GE428.out) | exact HB.out)) hb); have n2_ := Az.mk (hbox); have n3_ := Az.mk ((by rw [hg]; exact (below_size (by repeat (first | (with_reducible first | exact HB.out | apply zq2 | apply zq1 | apply zqd | refine zq3 ?_ GE428.out) | exact HB.out))) : w.heap.size ≤ gb429)); have n4_ := Az.mk ((by rw [hg]; exact (below_size (by repeat (first | (with_reducible first | exact HB.out | apply zq2 | apply zq1 | apply zqd | refine zq3 ?_ GE428.out) | exact HB.out))) : w.heap.size ≤ gb429)); have n5_ := Az.mk ((by rw [hg]; exact Nat.ne_of_lt (blk_lt (g := gb428) (o := .cells #[.int .i64 a0_0, .slice A0_1 l0_1.length c0_1, .slice A0_2 l0_2.length c0_2, .slice A0_3 l0_3.length c0_3, .slice A0_4 l0_4.length c0_4] 28 (0, 0)) (by (with_reducible repeat (first | refine zq6 ?_ _ | refine zq8 ?_ | refine zq7 ?_ _)); exact BK428.out)) : gb428 ≠ gb429)); have n6_ := Az.mk ((by rw [hg]; exact Nat.ne_of_gt (blk_lt (g := gb428) (o := .cells #[.int .i64 a0_0, .slice A0_1 l0_1.length c0_1, .slice A0_2 l0_2.length c0_2, .slice A0_3 l0_3.length c0_3, .slice A0_4 l0_4.length c0_4] 28 (0, 0)) (by (with_reducible repeat (first | refine zq6 ?_ _ | refine zq8 ?_ | refine zq7 ?_ _)); exact BK428.out)) : gb429 ≠ gb428)); clear BK428; clear HB; have BK428 := n0_; have HB := n1_; have BK429 := n2_; have GW429 := n3_; have GE429 := n4_; have NB428_429 := n5_; have NB429_428 := n6_; clear n0_ n1_ n2_ n3_ n4_ n5_ n6_; clear hb hbox hg)); go_upto_region 1 with (first | ((with_reducible refine zqg (N := 2) rfl ?_); (try (refine gate_guard (by rfl) ?_; dsimp only)); refine zqb ?hg (N := 2) ?hd (cs := #[.int .i64 a0_0, .slice A0_1 l0_1.length c0_1, .slice A0_2 l0_2.length c0_2, .slice A0_3 l0_3.length c0_3, .slice A0_4 l0_4.length c0_4]) (t := 28) ?hr ?_; (case hd => rfl); (case hg => rfl); (case hr => first | (go_simp; done) | (go_simp; rfl)); intro gb428 hg w4 hbox hb; have n0_ := Az.mk (below_step (by repeat (first | (with_reducible first | exact HB.out | apply zq2 | apply zq1 | apply zqd) | exact HB.out)) hb); have n1_ := Az.mk (hbox); have n2_ := Az.mk ((by rw [hg]; exact (below_size (by repeat (first | (with_reducible first | exact HB.out | apply zq2 | apply zq1 | apply zqd) | exact HB.out))) : w.heap.size ≤ gb428)); have n3_ := Az.mk ((by rw [hg]; exact (below_size (by repeat (first | (with_reducible first | exact HB.out | apply zq2 | apply zq1 | apply zqd) | exact HB.out))) : w.heap.size ≤ gb428)); clear HB; have HB := n0_; have BK428 := n1_; have GW428 := n2_; have GE428 := n3_; clear n0_ n1_ n2_ n3_; clear hb hbox hg) | ((with_reducible refine zqg (N := 3) rfl ?_); (try (refine gate_guard (by rfl) ?_; dsimp only)); refine zqb ?hg (N := 3) ?hd (cs := #[.int .i64 a1_0, .slice A1_1 l1_1.length c1_1, .slice A1_2 l1_2.length c1_2, .slice A1_3 l1_3.length c1_3, .slice A1_4 l1_4.length c1_4]) (t := 28) ?hr ?_; (case hd => rfl); (case hg => rfl); (case hr => first | (go_simp; done) | (go_simp; rfl)); intro gb429 hg w5 hbox hb; have n0_ := Az.mk (blk_below (g := gb428) (o := .cells #[.int .i64 a0_0, .slice A0_1 l0_1.length c0_1, .slice A0_2 l0_2.length c0_2, .slice A0_3 l0_3.length c0_3, .slice A0_4 l0_4.length c0_4] 28 (0, 0)) (by (with_reducible repeat (first | refine zq6 ?_ _ | refine zq8 ?_ | refine zq7 ?_ _)); exact BK428.out) hb); have n1_ := Az.mk (below_step (by repeat (first | (with_reducible first | exact HB.out | apply zq2 | apply zq1 | apply zqd | refine zq3 ?_ GE428.out) | exact HB.out)) hb); have n2_ := Az.mk (hbox); have n3_ := Az.mk ((by rw [hg]; exact (below_size (by repeat (first | (with_reducible first | exact HB.out | apply zq2 | apply zq1 | apply zqd | refine zq3 ?_ GE428.out) | exact HB.out))) : w.heap.size ≤ gb429)); have n4_ := Az.mk ((by rw [hg]; exact (below_size (by repeat (first | (with_reducible first | exact HB.out | apply zq2 | apply zq1 | apply zqd | refine zq3 ?_ GE428.out) | exact HB.out))) : w.heap.size ≤ gb429)); have n5_ := Az.mk ((by rw [hg]; exact Nat.ne_of_lt (blk_lt (g := gb428) (o := .cells #[.int .i64 a0_0, .slice A0_1 l0_1.length c0_1, .slice A0_2 l0_2.length c0_2, .slice A0_3 l0_3.length c0_3, .slice A0_4 l0_4.length c0_4] 28 (0, 0)) (by (with_reducible repeat (first | refine zq6 ?_ _ | refine zq8 ?_ | refine zq7 ?_ _)); exact BK428.out)) : gb428 ≠ gb429)); have n6_ := Az.mk ((by rw [hg]; exact Nat.ne_of_gt (blk_lt (g := gb428) (o := .cells #[.int .i64 a0_0, .slice A0_1 l0_1.length c0_1, .slice A0_2 l0_2.length c0_2, .slice A0_3 l0_3.length c0_3, .slice A0_4 l0_4.length c0_4] 28 (0, 0)) (by (with_reducible repeat (first | refine zq6 ?_ _ | refine zq8 ?_ | refine zq7 ?_ _)); exact BK428.out)) : gb429 ≠ gb428)); clear BK428; clear HB; have BK428 := n0_; have HB := n1_; have BK429 := n2_; have GW429 := n3_; have GE429 := n4_; have NB428_429 := n5_; have NB429_428 := n6_; clear n0_ n1_ n2_ n3_ n4_ n5_ n6_; clear hb hbox hg)))
 (try simp only [Act.put, List.setIfInBounds_toArray, List.set_cons_zero, List.set_cons_succ])
 go_cut [45] (fun v45 wc => ∃ (kq : Nat) (x45_2 : Bool), v45 = .bool x45_2 ∧ Az (laws_lpaDisk.j0 kq x45_2 a0_0 l0_1 l0_2 l0_3 l0_4 a1_0 l1_1 l1_2 l1_3 l1_4 = some r) ∧ Az (kq ≤ k) ∧ Az (wc.heap[gb428]? = some (.cells #[.int .i64 a0_0, (.slice A0_1 l0_1.length c0_1), (.slice A0_2 l0_2.length c0_2), (.slice A0_3 l0_3.length c0_3), (.slice A0_4 l0_4.length c0_4)] 28 (0, 0))) ∧ Az (wc.heap[gb429]? = some (.cells #[.int .i64 a1_0, (.slice A1_1 l1_1.length c1_1), (.slice A1_2 l1_2.length c1_2), (.slice A1_3 l1_3.length c1_3), (.slice A1_4 l1_4.length c1_4)] 28 (0, 0))) ∧ Az (Below w.heap.size w wc))
 case first =>
  have H := HC3.out
  clear HC3
  by_cases c6 : a0_0 = a1_0
  ·rw [if_pos c6] at H
   have c6b0 : (a0_0 == a1_0) = true := beq_iff_eq.mpr c6
   have c6b1 : (a0_0 != a1_0) = false := bne_eq_false_iff_eq.mpr c6
   clear c6
   (first | rw [c6b0] | (simp only [i64_w, i32_w]; rw [c6b0]) | skip)
   replace H := Option.bind_eq_some_iff.mp H
   obtain ⟨t430, A70, H⟩ := H
   replace H : (if t430 = true then ((laws_lpaTexts.f k l0_2 l1_2).bind fun t431 => (if t431 = true then (if (l0_3.length : Int) = (l1_3.length : Int) then (laws_lpaDisk.j0 k ((l0_4.length : Int) != (l1_4.length : Int)) a0_0 l0_1 l0_2 l0_3 l0_4 a1_0 l1_1 l1_2 l1_3 l1_4) else (laws_lpaDisk.j0 k true a0_0 l0_1 l0_2 l0_3 l0_4 a1_0 l1_1 l1_2 l1_3 l1_4)) else (laws_lpaDisk.j0 k true a0_0 l0_1 l0_2 l0_3 l0_4 a1_0 l1_1 l1_2 l1_3 l1_4))) else (laws_lpaDisk.j0 k true a0_0 l0_1 l0_2 l0_3 l0_4 a1_0 l1_1 l1_2 l1_3 l1_4)) = some r := H
   have A7 := Az.mk A70
   clear A70
   by_cases c8 : t430 = true
   ·subst c8
    have H1 : ((laws_lpaTexts.f k l0_2 l1_2).bind fun t431 => (if t431 = true then (if (l0_3.length : Int) = (l1_3.length : Int) then (laws_lpaDisk.j0 k ((l0_4.length : Int) != (l1_4.length : Int)) a0_0 l0_1 l0_2 l0_3 l0_4 a1_0 l1_1 l1_2 l1_3 l1_4) else (laws_lpaDisk.j0 k true a0_0 l0_1 l0_2 l0_3 l0_4 a1_0 l1_1 l1_2 l1_3 l1_4)) else (laws_lpaDisk.j0 k true a0_0 l0_1 l0_2 l0_3 l0_4 a1_0 l1_1 l1_2 l1_3 l1_4))) = some r := by rw [if_pos rfl] at H; exact H
    clear H
    have H := H1
    clear H1
    replace H := Option.bind_eq_some_iff.mp H
    obtain ⟨t431, A90, H⟩ := H
    replace H : (if t431 = true then (if (l0_3.length : Int) = (l1_3.length : Int) then (laws_lpaDisk.j0 k ((l0_4.length : Int) != (l1_4.length : Int)) a0_0 l0_1 l0_2 l0_3 l0_4 a1_0 l1_1 l1_2 l1_3 l1_4) else (laws_lpaDisk.j0 k true a0_0 l0_1 l0_2 l0_3 l0_4 a1_0 l1_1 l1_2 l1_3 l1_4)) else (laws_lpaDisk.j0 k true a0_0 l0_1 l0_2 l0_3 l0_4 a1_0 l1_1 l1_2 l1_3 l1_4)) = some r := H
    have A9 := Az.mk A90
    clear A90
    by_cases c10 : t431 = true
    ·subst c10
     have H1 : (if (l0_3.length : Int) = (l1_3.length : Int) then (laws_lpaDisk.j0 k ((l0_4.length : Int) != (l1_4.length : Int)) a0_0 l0_1 l0_2 l0_3 l0_4 a1_0 l1_1 l1_2 l1_3 l1_4) else (laws_lpaDisk.j0 k true a0_0 l0_1 l0_2 l0_3 l0_4 a1_0 l1_1 l1_2 l1_3 l1_4)) = some r := by rw [if_pos rfl] at H; exact H
     clear H
     have H := H1
     clear H1
     by_cases c11 : (l0_3.length : Int) = (l1_3.length : Int)
     ·rw [if_pos c11] at H
      have c11b0 : ((l0_3.length : Int) == (l1_3.length : Int)) = true := beq_iff_eq.mpr c11
      have c11b1 : ((l0_3.length : Int) != (l1_3.length : Int)) = false := bne_eq_false_iff_eq.mpr c11
      have c11b2 : (l0_3.length == l1_3.length) = true := by first | simpa using c11 | (simp at c11 ⊢; omega)
      clear c11
      have H' := Az.mk H
      clear H
      have hnb12 := NB428_429.out
      have hnc12 := NB429_428.out
      have hcz13_0 : w5.cell? ⟨gb428, 0, none⟩ = some (.int .i64 a0_0) := (zq4 BK428.out 0).trans rfl
      have hcz13_1 : w5.cell? ⟨gb428, 1, none⟩ = some (.slice A0_1 l0_1.length c0_1) := (zq4 BK428.out 1).trans rfl
      have hcz13_2 : w5.cell? ⟨gb428, 2, none⟩ = some (.slice A0_2 l0_2.length c0_2) := (zq4 BK428.out 2).trans rfl
      have hcz13_3 : w5.cell? ⟨gb428, 3, none⟩ = some (.slice A0_3 l0_3.length c0_3) := (zq4 BK428.out 3).trans rfl
      have hcz13_4 : w5.cell? ⟨gb428, 4, none⟩ = some (.slice A0_4 l0_4.length c0_4) := (zq4 BK428.out 4).trans rfl
      have hfz13_0 := zq5 BK428.out 0
      have hfz13_1 := zq5 BK428.out 1
      have hfz13_2 := zq5 BK428.out 2
      have hfz13_3 := zq5 BK428.out 3
      have hfz13_4 := zq5 BK428.out 4
      have hcz14_0 : w5.cell? ⟨gb429, 0, none⟩ = some (.int .i64 a1_0) := (zq4 BK429.out 0).trans rfl
      have hcz14_1 : w5.cell? ⟨gb429, 1, none⟩ = some (.slice A1_1 l1_1.length c1_1) := (zq4 BK429.out 1).trans rfl
      have hcz14_2 : w5.cell? ⟨gb429, 2, none⟩ = some (.slice A1_2 l1_2.length c1_2) := (zq4 BK429.out 2).trans rfl
      have hcz14_3 : w5.cell? ⟨gb429, 3, none⟩ = some (.slice A1_3 l1_3.length c1_3) := (zq4 BK429.out 3).trans rfl
      have hcz14_4 : w5.cell? ⟨gb429, 4, none⟩ = some (.slice A1_4 l1_4.length c1_4) := (zq4 BK429.out 4).trans rfl
      have hfz14_0 := zq5 BK429.out 0
      have hfz14_1 := zq5 BK429.out 1
      have hfz14_2 := zq5 BK429.out 2
      have hfz14_3 := zq5 BK429.out 3
      have hfz14_4 := zq5 BK429.out 4
      go_wp2_with (first | (go_at_call 40; (with_reducible refine (laws_lpaTexts.calls k _ _ l0_1 _ _ l1_1 true _ ?side1 ?side2 ?side3 ?side4 A7.out).mono ?_); (case side1 => repeat (first | exact (Kd.C_below HR0_1.out HB.out) | (with_reducible refine Kd.C_alloc ?_ _) | (with_reducible refine Kd.C_drewN ?_ _) | (with_reducible refine Kd.C_drew ?_))); (case side2 => exact HC0_1.out); (case side3 => repeat (first | exact (Kd.C_below HR1_1.out HB.out) | (with_reducible refine Kd.C_alloc ?_ _) | (with_reducible refine Kd.C_drewN ?_ _) | (with_reducible refine Kd.C_drew ?_))); (case side4 => exact HC1_1.out); rintro e w' ⟨rfl, ⟨nd, rfl⟩⟩; (try first | exact ⟨rfl, _, World.drewN_drewN _ _ _⟩ | exact ⟨rfl, _, Eq.trans (World.drewN_drewN _ _ _) (congrArg (World.drewN _) (Nat.add_assoc _ _ _))⟩)) | (go_at_call 40; (with_reducible refine (laws_lpaTexts.calls k _ _ l0_2 _ _ l1_2 true _ ?side1 ?side2 ?side3 ?side4 A9.out).mono ?_); (case side1 => repeat (first | exact (Kd.C_below HR0_2.out (by repeat (first | (with_reducible first | exact HB.out | apply zq2 | apply zq1 | apply zqd | refine zq3 ?_ GE428.out | refine zq3 ?_ GE429.out) | exact HB.out))) | (with_reducible refine Kd.C_alloc ?_ _) | (with_reducible refine Kd.C_drewN ?_ _) | (with_reducible refine Kd.C_drew ?_))); (case side2 => exact HC0_2.out); (case side3 => repeat (first | exact (Kd.C_below HR1_2.out (by repeat (first | (with_reducible first | exact HB.out | apply zq2 | apply zq1 | apply zqd | refine zq3 ?_ GE428.out | refine zq3 ?_ GE429.out) | exact HB.out))) | (with_reducible refine Kd.C_alloc ?_ _) | (with_reducible refine Kd.C_drewN ?_ _) | (with_reducible refine Kd.C_drew ?_))); (case side4 => exact HC1_2.out); rintro e w' ⟨rfl, ⟨nd, rfl⟩⟩; (try first | exact ⟨rfl, _, World.drewN_drewN _ _ _⟩ | exact ⟨rfl, _, Eq.trans (World.drewN_drewN _ _ _) (congrArg (World.drewN _) (Nat.add_assoc _ _ _))⟩)))
      repeat (go_quiet (first | (go_at_call 40; (with_reducible refine (laws_lpaTexts.calls k _ _ l0_1 _ _ l1_1 true _ ?side1 ?side2 ?side3 ?side4 A7.out).mono ?_); (case side1 => repeat (first | exact (Kd.C_below HR0_1.out HB.out) | (with_reducible refine Kd.C_alloc ?_ _) | (with_reducible refine Kd.C_drewN ?_ _) | (with_reducible refine Kd.C_drew ?_))); (case side2 => exact HC0_1.out); (case side3 => repeat (first | exact (Kd.C_below HR1_1.out HB.out) | (with_reducible refine Kd.C_alloc ?_ _) | (with_reducible refine Kd.C_drewN ?_ _) | (with_reducible refine Kd.C_drew ?_))); (case side4 => exact HC1_1.out); rintro e w' ⟨rfl, ⟨nd, rfl⟩⟩; (try first | exact ⟨rfl, _, World.drewN_drewN _ _ _⟩ | exact ⟨rfl, _, Eq.trans (World.drewN_drewN _ _ _) (congrArg (World.drewN _) (Nat.add_assoc _ _ _))⟩)) | (go_at_call 40; (with_reducible refine (laws_lpaTexts.calls k _ _ l0_2 _ _ l1_2 true _ ?side1 ?side2 ?side3 ?side4 A9.out).mono ?_); (case side1 => repeat (first | exact (Kd.C_below HR0_2.out (by repeat (first | (with_reducible first | exact HB.out | apply zq2 | apply zq1 | apply zqd | refine zq3 ?_ GE428.out | refine zq3 ?_ GE429.out) | exact HB.out))) | (with_reducible refine Kd.C_alloc ?_ _) | (with_reducible refine Kd.C_drewN ?_ _) | (with_reducible refine Kd.C_drew ?_))); (case side2 => exact HC0_2.out); (case side3 => repeat (first | exact (Kd.C_below HR1_2.out (by repeat (first | (with_reducible first | exact HB.out | apply zq2 | apply zq1 | apply zqd | refine zq3 ?_ GE428.out | refine zq3 ?_ GE429.out) | exact HB.out))) | (with_reducible refine Kd.C_alloc ?_ _) | (with_reducible refine Kd.C_drewN ?_ _) | (with_reducible refine Kd.C_drew ?_))); (case side4 => exact HC1_2.out); rintro e w' ⟨rfl, ⟨nd, rfl⟩⟩; (try first | exact ⟨rfl, _, World.drewN_drewN _ _ _⟩ | exact ⟨rfl, _, Eq.trans (World.drewN_drewN _ _ _) (congrArg (World.drewN _) (Nat.add_assoc _ _ _))⟩))); try go_wp2_with (first | (go_at_call 40; (with_reducible refine (laws_lpaTexts.calls k _ _ l0_1 _ _ l1_1 true _ ?side1 ?side2 ?side3 ?side4 A7.out).mono ?_); (case side1 => repeat (first | exact (Kd.C_below HR0_1.out HB.out) | (with_reducible refine Kd.C_alloc ?_ _) | (with_reducible refine Kd.C_drewN ?_ _) | (with_reducible refine Kd.C_drew ?_))); (case side2 => exact HC0_1.out); (case side3 => repeat (first | exact (Kd.C_below HR1_1.out HB.out) | (with_reducible refine Kd.C_alloc ?_ _) | (with_reducible refine Kd.C_drewN ?_ _) | (with_reducible refine Kd.C_drew ?_))); (case side4 => exact HC1_1.out); rintro e w' ⟨rfl, ⟨nd, rfl⟩⟩; (try first | exact ⟨rfl, _, World.drewN_drewN _ _ _⟩ | exact ⟨rfl, _, Eq.trans (World.drewN_drewN _ _ _) (congrArg (World.drewN _) (Nat.add_assoc _ _ _))⟩)) | (go_at_call 40; (with_reducible refine (laws_lpaTexts.calls k _ _ l0_2 _ _ l1_2 true _ ?side1 ?side2 ?side3 ?side4 A9.out).mono ?_); (case side1 => repeat (first | exact (Kd.C_below HR0_2.out (by repeat (first | (with_reducible first | exact HB.out | apply zq2 | apply zq1 | apply zqd | refine zq3 ?_ GE428.out | refine zq3 ?_ GE429.out) | exact HB.out))) | (with_reducible refine Kd.C_alloc ?_ _) | (with_reducible refine Kd.C_drewN ?_ _) | (with_reducible refine Kd.C_drew ?_))); (case side2 => exact HC0_2.out); (case side3 => repeat (first | exact (Kd.C_below HR1_2.out (by repeat (first | (with_reducible first | exact HB.out | apply zq2 | apply zq1 | apply zqd | refine zq3 ?_ GE428.out | refine zq3 ?_ GE429.out) | exact HB.out))) | (with_reducible refine Kd.C_alloc ?_ _) | (with_reducible refine Kd.C_drewN ?_ _) | (with_reducible refine Kd.C_drew ?_))); (case side4 => exact HC1_2.out); rintro e w' ⟨rfl, ⟨nd, rfl⟩⟩; (try first | exact ⟨rfl, _, World.drewN_drewN _ _ _⟩ | exact ⟨rfl, _, Eq.trans (World.drewN_drewN _ _ _) (congrArg (World.drewN _) (Nat.add_assoc _ _ _))⟩))))
      go_meet
      case rel => exact ⟨_, (((l0_4.length : Int) != (l1_4.length : Int))), (by first | rfl | (simp; done) | (simp [*]; done)), H', ⟨by first | omega | exact Nat.le_refl _⟩, ⟨by (with_reducible repeat (first | refine zq6 ?_ _ | refine zq8 ?_ | refine zq7 ?_ _)); exact BK428.out⟩, ⟨by (with_reducible repeat (first | refine zq6 ?_ _ | refine zq8 ?_ | refine zq7 ?_ _)); exact BK429.out⟩, ⟨by repeat (first | (with_reducible first | exact HB.out | apply zq2 | apply zq1 | apply zqd | refine zq3 ?_ GE428.out | refine zq3 ?_ GE429.out) | exact HB.out)⟩⟩
     ·rw [if_neg c11] at H
      have c11b0 : ((l0_3.length : Int) == (l1_3.length : Int)) = false := beq_eq_false_iff_ne.mpr c11
      have c11b1 : ((l0_3.length : Int) != (l1_3.length : Int)) = true := bne_iff_ne.mpr c11
      have c11b2 : (l0_3.length == l1_3.length) = false := by first | simpa using c11 | (simp at c11 ⊢; omega)
      have H' := Az.mk H
      clear H
      have hnb15 := NB428_429.out
      have hnc15 := NB429_428.out
      have hcz16_0 : w5.cell? ⟨gb428, 0, none⟩ = some (.int .i64 a0_0) := (zq4 BK428.out 0).trans rfl
      have hcz16_1 : w5.cell? ⟨gb428, 1, none⟩ = some (.slice A0_1 l0_1.length c0_1) := (zq4 BK428.out 1).trans rfl
      have hcz16_2 : w5.cell? ⟨gb428, 2, none⟩ = some (.slice A0_2 l0_2.length c0_2) := (zq4 BK428.out 2).trans rfl
      have hcz16_3 : w5.cell? ⟨gb428, 3, none⟩ = some (.slice A0_3 l0_3.length c0_3) := (zq4 BK428.out 3).trans rfl
      have hcz16_4 : w5.cell? ⟨gb428, 4, none⟩ = some (.slice A0_4 l0_4.length c0_4) := (zq4 BK428.out 4).trans rfl
      have hfz16_0 := zq5 BK428.out 0
      have hfz16_1 := zq5 BK428.out 1
      have hfz16_2 := zq5 BK428.out 2
      have hfz16_3 := zq5 BK428.out 3
      have hfz16_4 := zq5 BK428.out 4
      have hcz17_0 : w5.cell? ⟨gb429, 0, none⟩ = some (.int .i64 a1_0) := (zq4 BK429.out 0).trans rfl
      have hcz17_1 : w5.cell? ⟨gb429, 1, none⟩ = some (.slice A1_1 l1_1.length c1_1) := (zq4 BK429.out 1).trans rfl
      have hcz17_2 : w5.cell? ⟨gb429, 2, none⟩ = some (.slice A1_2 l1_2.length c1_2) := (zq4 BK429.out 2).trans rfl
      have hcz17_3 : w5.cell? ⟨gb429, 3, none⟩ = some (.slice A1_3 l1_3.length c1_3) := (zq4 BK429.out 3).trans rfl
      have hcz17_4 : w5.cell? ⟨gb429, 4, none⟩ = some (.slice A1_4 l1_4.length c1_4) := (zq4 BK429.out 4).trans rfl
      have hfz17_0 := zq5 BK429.out 0
      have hfz17_1 := zq5 BK429.out 1
      have hfz17_2 := zq5 BK429.out 2
      have hfz17_3 := zq5 BK429.out 3
      have hfz17_4 := zq5 BK429.out 4
      go_wp2_with (first | (go_at_call 40; (with_reducible refine (laws_lpaTexts.calls k _ _ l0_1 _ _ l1_1 true _ ?side1 ?side2 ?side3 ?side4 A7.out).mono ?_); (case side1 => repeat (first | exact (Kd.C_below HR0_1.out HB.out) | (with_reducible refine Kd.C_alloc ?_ _) | (with_reducible refine Kd.C_drewN ?_ _) | (with_reducible refine Kd.C_drew ?_))); (case side2 => exact HC0_1.out); (case side3 => repeat (first | exact (Kd.C_below HR1_1.out HB.out) | (with_reducible refine Kd.C_alloc ?_ _) | (with_reducible refine Kd.C_drewN ?_ _) | (with_reducible refine Kd.C_drew ?_))); (case side4 => exact HC1_1.out); rintro e w' ⟨rfl, ⟨nd, rfl⟩⟩; (try first | exact ⟨rfl, _, World.drewN_drewN _ _ _⟩ | exact ⟨rfl, _, Eq.trans (World.drewN_drewN _ _ _) (congrArg (World.drewN _) (Nat.add_assoc _ _ _))⟩)) | (go_at_call 40; (with_reducible refine (laws_lpaTexts.calls k _ _ l0_2 _ _ l1_2 true _ ?side1 ?side2 ?side3 ?side4 A9.out).mono ?_); (case side1 => repeat (first | exact (Kd.C_below HR0_2.out (by repeat (first | (with_reducible first | exact HB.out | apply zq2 | apply zq1 | apply zqd | refine zq3 ?_ GE428.out | refine zq3 ?_ GE429.out) | exact HB.out))) | (with_reducible refine Kd.C_alloc ?_ _) | (with_reducible refine Kd.C_drewN ?_ _) | (with_reducible refine Kd.C_drew ?_))); (case side2 => exact HC0_2.out); (case side3 => repeat (first | exact (Kd.C_below HR1_2.out (by repeat (first | (with_reducible first | exact HB.out | apply zq2 | apply zq1 | apply zqd | refine zq3 ?_ GE428.out | refine zq3 ?_ GE429.out) | exact HB.out))) | (with_reducible refine Kd.C_alloc ?_ _) | (with_reducible refine Kd.C_drewN ?_ _) | (with_reducible refine Kd.C_drew ?_))); (case side4 => exact HC1_2.out); rintro e w' ⟨rfl, ⟨nd, rfl⟩⟩; (try first | exact ⟨rfl, _, World.drewN_drewN _ _ _⟩ | exact ⟨rfl, _, Eq.trans (World.drewN_drewN _ _ _) (congrArg (World.drewN _) (Nat.add_assoc _ _ _))⟩)))
      repeat (go_quiet (first | (go_at_call 40; (with_reducible refine (laws_lpaTexts.calls k _ _ l0_1 _ _ l1_1 true _ ?side1 ?side2 ?side3 ?side4 A7.out).mono ?_); (case side1 => repeat (first | exact (Kd.C_below HR0_1.out HB.out) | (with_reducible refine Kd.C_alloc ?_ _) | (with_reducible refine Kd.C_drewN ?_ _) | (with_reducible refine Kd.C_drew ?_))); (case side2 => exact HC0_1.out); (case side3 => repeat (first | exact (Kd.C_below HR1_1.out HB.out) | (with_reducible refine Kd.C_alloc ?_ _) | (with_reducible refine Kd.C_drewN ?_ _) | (with_reducible refine Kd.C_drew ?_))); (case side4 => exact HC1_1.out); rintro e w' ⟨rfl, ⟨nd, rfl⟩⟩; (try first | exact ⟨rfl, _, World.drewN_drewN _ _ _⟩ | exact ⟨rfl, _, Eq.trans (World.drewN_drewN _ _ _) (congrArg (World.drewN _) (Nat.add_assoc _ _ _))⟩)) | (go_at_call 40; (with_reducible refine (laws_lpaTexts.calls k _ _ l0_2 _ _ l1_2 true _ ?side1 ?side2 ?side3 ?side4 A9.out).mono ?_); (case side1 => repeat (first | exact (Kd.C_below HR0_2.out (by repeat (first | (with_reducible first | exact HB.out | apply zq2 | apply zq1 | apply zqd | refine zq3 ?_ GE428.out | refine zq3 ?_ GE429.out) | exact HB.out))) | (with_reducible refine Kd.C_alloc ?_ _) | (with_reducible refine Kd.C_drewN ?_ _) | (with_reducible refine Kd.C_drew ?_))); (case side2 => exact HC0_2.out); (case side3 => repeat (first | exact (Kd.C_below HR1_2.out (by repeat (first | (with_reducible first | exact HB.out | apply zq2 | apply zq1 | apply zqd | refine zq3 ?_ GE428.out | refine zq3 ?_ GE429.out) | exact HB.out))) | (with_reducible refine Kd.C_alloc ?_ _) | (with_reducible refine Kd.C_drewN ?_ _) | (with_reducible refine Kd.C_drew ?_))); (case side4 => exact HC1_2.out); rintro e w' ⟨rfl, ⟨nd, rfl⟩⟩; (try first | exact ⟨rfl, _, World.drewN_drewN _ _ _⟩ | exact ⟨rfl, _, Eq.trans (World.drewN_drewN _ _ _) (congrArg (World.drewN _) (Nat.add_assoc _ _ _))⟩))); try go_wp2_with (first | (go_at_call 40; (with_reducible refine (laws_lpaTexts.calls k _ _ l0_1 _ _ l1_1 true _ ?side1 ?side2 ?side3 ?side4 A7.out).mono ?_); (case side1 => repeat (first | exact (Kd.C_below HR0_1.out HB.out) | (with_reducible refine Kd.C_alloc ?_ _) | (with_reducible refine Kd.C_drewN ?_ _) | (with_reducible refine Kd.C_drew ?_))); (case side2 => exact HC0_1.out); (case side3 => repeat (first | exact (Kd.C_below HR1_1.out HB.out) | (with_reducible refine Kd.C_alloc ?_ _) | (with_reducible refine Kd.C_drewN ?_ _) | (with_reducible refine Kd.C_drew ?_))); (case side4 => exact HC1_1.out); rintro e w' ⟨rfl, ⟨nd, rfl⟩⟩; (try first | exact ⟨rfl, _, World.drewN_drewN _ _ _⟩ | exact ⟨rfl, _, Eq.trans (World.drewN_drewN _ _ _) (congrArg (World.drewN _) (Nat.add_assoc _ _ _))⟩)) | (go_at_call 40; (with_reducible refine (laws_lpaTexts.calls k _ _ l0_2 _ _ l1_2 true _ ?side1 ?side2 ?side3 ?side4 A9.out).mono ?_); (case side1 => repeat (first | exact (Kd.C_below HR0_2.out (by repeat (first | (with_reducible first | exact HB.out | apply zq2 | apply zq1 | apply zqd | refine zq3 ?_ GE428.out | refine zq3 ?_ GE429.out) | exact HB.out))) | (with_reducible refine Kd.C_alloc ?_ _) | (with_reducible refine Kd.C_drewN ?_ _) | (with_reducible refine Kd.C_drew ?_))); (case side2 => exact HC0_2.out); (case side3 => repeat (first | exact (Kd.C_below HR1_2.out (by repeat (first | (with_reducible first | exact HB.out | apply zq2 | apply zq1 | apply zqd | refine zq3 ?_ GE428.out | refine zq3 ?_ GE429.out) | exact HB.out))) | (with_reducible refine Kd.C_alloc ?_ _) | (with_reducible refine Kd.C_drewN ?_ _) | (with_reducible refine Kd.C_drew ?_))); (case side4 => exact HC1_2.out); rintro e w' ⟨rfl, ⟨nd, rfl⟩⟩; (try first | exact ⟨rfl, _, World.drewN_drewN _ _ _⟩ | exact ⟨rfl, _, Eq.trans (World.drewN_drewN _ _ _) (congrArg (World.drewN _) (Nat.add_assoc _ _ _))⟩))))
      go_meet
      case rel => exact ⟨_, (true), (by first | rfl | (simp; done) | (simp [*]; done)), H', ⟨by first | omega | exact Nat.le_refl _⟩, ⟨by (with_reducible repeat (first | refine zq6 ?_ _ | refine zq8 ?_ | refine zq7 ?_ _)); exact BK428.out⟩, ⟨by (with_reducible repeat (first | refine zq6 ?_ _ | refine zq8 ?_ | refine zq7 ?_ _)); exact BK429.out⟩, ⟨by repeat (first | (with_reducible first | exact HB.out | apply zq2 | apply zq1 | apply zqd | refine zq3 ?_ GE428.out | refine zq3 ?_ GE429.out) | exact HB.out)⟩⟩
    ·replace c10 := Bool.eq_false_iff.mpr c10
     subst c10
     have H1 : (laws_lpaDisk.j0 k true a0_0 l0_1 l0_2 l0_3 l0_4 a1_0 l1_1 l1_2 l1_3 l1_4) = some r := by rw [if_neg (show ¬ (false = true) by decide)] at H; exact H
     clear H
     have H := H1
     clear H1
     have H' := Az.mk H
     clear H
     have hnb18 := NB428_429.out
     have hnc18 := NB429_428.out
     have hcz19_0 : w5.cell? ⟨gb428, 0, none⟩ = some (.int .i64 a0_0) := (zq4 BK428.out 0).trans rfl
     have hcz19_1 : w5.cell? ⟨gb428, 1, none⟩ = some (.slice A0_1 l0_1.length c0_1) := (zq4 BK428.out 1).trans rfl
     have hcz19_2 : w5.cell? ⟨gb428, 2, none⟩ = some (.slice A0_2 l0_2.length c0_2) := (zq4 BK428.out 2).trans rfl
     have hcz19_3 : w5.cell? ⟨gb428, 3, none⟩ = some (.slice A0_3 l0_3.length c0_3) := (zq4 BK428.out 3).trans rfl
     have hcz19_4 : w5.cell? ⟨gb428, 4, none⟩ = some (.slice A0_4 l0_4.length c0_4) := (zq4 BK428.out 4).trans rfl
     have hfz19_0 := zq5 BK428.out 0
     have hfz19_1 := zq5 BK428.out 1
     have hfz19_2 := zq5 BK428.out 2
     have hfz19_3 := zq5 BK428.out 3
     have hfz19_4 := zq5 BK428.out 4
     have hcz20_0 : w5.cell? ⟨gb429, 0, none⟩ = some (.int .i64 a1_0) := (zq4 BK429.out 0).trans rfl
     have hcz20_1 : w5.cell? ⟨gb429, 1, none⟩ = some (.slice A1_1 l1_1.length c1_1) := (zq4 BK429.out 1).trans rfl
     have hcz20_2 : w5.cell? ⟨gb429, 2, none⟩ = some (.slice A1_2 l1_2.length c1_2) := (zq4 BK429.out 2).trans rfl
     have hcz20_3 : w5.cell? ⟨gb429, 3, none⟩ = some (.slice A1_3 l1_3.length c1_3) := (zq4 BK429.out 3).trans rfl
     have hcz20_4 : w5.cell? ⟨gb429, 4, none⟩ = some (.slice A1_4 l1_4.length c1_4) := (zq4 BK429.out 4).trans rfl
     have hfz20_0 := zq5 BK429.out 0
     have hfz20_1 := zq5 BK429.out 1
     have hfz20_2 := zq5 BK429.out 2
     have hfz20_3 := zq5 BK429.out 3
     have hfz20_4 := zq5 BK429.out 4
     go_wp2_with (first | (go_at_call 40; (with_reducible refine (laws_lpaTexts.calls k _ _ l0_1 _ _ l1_1 true _ ?side1 ?side2 ?side3 ?side4 A7.out).mono ?_); (case side1 => repeat (first | exact (Kd.C_below HR0_1.out HB.out) | (with_reducible refine Kd.C_alloc ?_ _) | (with_reducible refine Kd.C_drewN ?_ _) | (with_reducible refine Kd.C_drew ?_))); (case side2 => exact HC0_1.out); (case side3 => repeat (first | exact (Kd.C_below HR1_1.out HB.out) | (with_reducible refine Kd.C_alloc ?_ _) | (with_reducible refine Kd.C_drewN ?_ _) | (with_reducible refine Kd.C_drew ?_))); (case side4 => exact HC1_1.out); rintro e w' ⟨rfl, ⟨nd, rfl⟩⟩; (try first | exact ⟨rfl, _, World.drewN_drewN _ _ _⟩ | exact ⟨rfl, _, Eq.trans (World.drewN_drewN _ _ _) (congrArg (World.drewN _) (Nat.add_assoc _ _ _))⟩)) | (go_at_call 40; (with_reducible refine (laws_lpaTexts.calls k _ _ l0_2 _ _ l1_2 false _ ?side1 ?side2 ?side3 ?side4 A9.out).mono ?_); (case side1 => repeat (first | exact (Kd.C_below HR0_2.out (by repeat (first | (with_reducible first | exact HB.out | apply zq2 | apply zq1 | apply zqd | refine zq3 ?_ GE428.out | refine zq3 ?_ GE429.out) | exact HB.out))) | (with_reducible refine Kd.C_alloc ?_ _) | (with_reducible refine Kd.C_drewN ?_ _) | (with_reducible refine Kd.C_drew ?_))); (case side2 => exact HC0_2.out); (case side3 => repeat (first | exact (Kd.C_below HR1_2.out (by repeat (first | (with_reducible first | exact HB.out | apply zq2 | apply zq1 | apply zqd | refine zq3 ?_ GE428.out | refine zq3 ?_ GE429.out) | exact HB.out))) | (with_reducible refine Kd.C_alloc ?_ _) | (with_reducible refine Kd.C_drewN ?_ _) | (with_reducible refine Kd.C_drew ?_))); (case side4 => exact HC1_2.out); rintro e w' ⟨rfl, ⟨nd, rfl⟩⟩; (try first | exact ⟨rfl, _, World.drewN_drewN _ _ _⟩ | exact ⟨rfl, _, Eq.trans (World.drewN_drewN _ _ _) (congrArg (World.drewN _) (Nat.add_assoc _ _ _))⟩)))
     repeat (go_quiet (first | (go_at_call 40; (with_reducible refine (laws_lpaTexts.calls k _ _ l0_1 _ _ l1_1 true _ ?side1 ?side2 ?side3 ?side4 A7.out).mono ?_); (case side1 => repeat (first | exact (Kd.C_below HR0_1.out HB.out) | (with_reducible refine Kd.C_alloc ?_ _) | (with_reducible refine Kd.C_drewN ?_ _) | (with_reducible refine Kd.C_drew ?_))); (case side2 => exact HC0_1.out); (case side3 => repeat (first | exact (Kd.C_below HR1_1.out HB.out) | (with_reducible refine Kd.C_alloc ?_ _) | (with_reducible refine Kd.C_drewN ?_ _) | (with_reducible refine Kd.C_drew ?_))); (case side4 => exact HC1_1.out); rintro e w' ⟨rfl, ⟨nd, rfl⟩⟩; (try first | exact ⟨rfl, _, World.drewN_drewN _ _ _⟩ | exact ⟨rfl, _, Eq.trans (World.drewN_drewN _ _ _) (congrArg (World.drewN _) (Nat.add_assoc _ _ _))⟩)) | (go_at_call 40; (with_reducible refine (laws_lpaTexts.calls k _ _ l0_2 _ _ l1_2 false _ ?side1 ?side2 ?side3 ?side4 A9.out).mono ?_); (case side1 => repeat (first | exact (Kd.C_below HR0_2.out (by repeat (first | (with_reducible first | exact HB.out | apply zq2 | apply zq1 | apply zqd | refine zq3 ?_ GE428.out | refine zq3 ?_ GE429.out) | exact HB.out))) | (with_reducible refine Kd.C_alloc ?_ _) | (with_reducible refine Kd.C_drewN ?_ _) | (with_reducible refine Kd.C_drew ?_))); (case side2 => exact HC0_2.out); (case side3 => repeat (first | exact (Kd.C_below HR1_2.out (by repeat (first | (with_reducible first | exact HB.out | apply zq2 | apply zq1 | apply zqd | refine zq3 ?_ GE428.out | refine zq3 ?_ GE429.out) | exact HB.out))) | (with_reducible refine Kd.C_alloc ?_ _) | (with_reducible refine Kd.C_drewN ?_ _) | (with_reducible refine Kd.C_drew ?_))); (case side4 => exact HC1_2.out); rintro e w' ⟨rfl, ⟨nd, rfl⟩⟩; (try first | exact ⟨rfl, _, World.drewN_drewN _ _ _⟩ | exact ⟨rfl, _, Eq.trans (World.drewN_drewN _ _ _) (congrArg (World.drewN _) (Nat.add_assoc _ _ _))⟩))); try go_wp2_with (first | (go_at_call 40; (with_reducible refine (laws_lpaTexts.calls k _ _ l0_1 _ _ l1_1 true _ ?side1 ?side2 ?side3 ?side4 A7.out).mono ?_); (case side1 => repeat (first | exact (Kd.C_below HR0_1.out HB.out) | (with_reducible refine Kd.C_alloc ?_ _) | (with_reducible refine Kd.C_drewN ?_ _) | (with_reducible refine Kd.C_drew ?_))); (case side2 => exact HC0_1.out); (case side3 => repeat (first | exact (Kd.C_below HR1_1.out HB.out) | (with_reducible refine Kd.C_alloc ?_ _) | (with_reducible refine Kd.C_drewN ?_ _) | (with_reducible refine Kd.C_drew ?_))); (case side4 => exact HC1_1.out); rintro e w' ⟨rfl, ⟨nd, rfl⟩⟩; (try first | exact ⟨rfl, _, World.drewN_drewN _ _ _⟩ | exact ⟨rfl, _, Eq.trans (World.drewN_drewN _ _ _) (congrArg (World.drewN _) (Nat.add_assoc _ _ _))⟩)) | (go_at_call 40; (with_reducible refine (laws_lpaTexts.calls k _ _ l0_2 _ _ l1_2 false _ ?side1 ?side2 ?side3 ?side4 A9.out).mono ?_); (case side1 => repeat (first | exact (Kd.C_below HR0_2.out (by repeat (first | (with_reducible first | exact HB.out | apply zq2 | apply zq1 | apply zqd | refine zq3 ?_ GE428.out | refine zq3 ?_ GE429.out) | exact HB.out))) | (with_reducible refine Kd.C_alloc ?_ _) | (with_reducible refine Kd.C_drewN ?_ _) | (with_reducible refine Kd.C_drew ?_))); (case side2 => exact HC0_2.out); (case side3 => repeat (first | exact (Kd.C_below HR1_2.out (by repeat (first | (with_reducible first | exact HB.out | apply zq2 | apply zq1 | apply zqd | refine zq3 ?_ GE428.out | refine zq3 ?_ GE429.out) | exact HB.out))) | (with_reducible refine Kd.C_alloc ?_ _) | (with_reducible refine Kd.C_drewN ?_ _) | (with_reducible refine Kd.C_drew ?_))); (case side4 => exact HC1_2.out); rintro e w' ⟨rfl, ⟨nd, rfl⟩⟩; (try first | exact ⟨rfl, _, World.drewN_drewN _ _ _⟩ | exact ⟨rfl, _, Eq.trans (World.drewN_drewN _ _ _) (congrArg (World.drewN _) (Nat.add_assoc _ _ _))⟩))))
     go_meet
     case rel => exact ⟨_, (true), (by first | rfl | (simp; done) | (simp [*]; done)), H', ⟨by first | omega | exact Nat.le_refl _⟩, ⟨by (with_reducible repeat (first | refine zq6 ?_ _ | refine zq8 ?_ | refine zq7 ?_ _)); exact BK428.out⟩, ⟨by (with_reducible repeat (first | refine zq6 ?_ _ | refine zq8 ?_ | refine zq7 ?_ _)); exact BK429.out⟩, ⟨by repeat (first | (with_reducible first | exact HB.out | apply zq2 | apply zq1 | apply zqd | refine zq3 ?_ GE428.out | refine zq3 ?_ GE429.out) | exact HB.out)⟩⟩
   ·replace c8 := Bool.eq_false_iff.mpr c8
    subst c8
    have H1 : (laws_lpaDisk.j0 k true a0_0 l0_1 l0_2 l0_3 l0_4 a1_0 l1_1 l1_2 l1_3 l1_4) = some r := by rw [if_neg (show ¬ (false = true) by decide)] at H; exact H
    clear H
    have H := H1
    clear H1
    have H' := Az.mk H
    clear H
    have hnb21 := NB428_429.out
    have hnc21 := NB429_428.out
    have hcz22_0 : w5.cell? ⟨gb428, 0, none⟩ = some (.int .i64 a0_0) := (zq4 BK428.out 0).trans rfl
    have hcz22_1 : w5.cell? ⟨gb428, 1, none⟩ = some (.slice A0_1 l0_1.length c0_1) := (zq4 BK428.out 1).trans rfl
    have hcz22_2 : w5.cell? ⟨gb428, 2, none⟩ = some (.slice A0_2 l0_2.length c0_2) := (zq4 BK428.out 2).trans rfl
    have hcz22_3 : w5.cell? ⟨gb428, 3, none⟩ = some (.slice A0_3 l0_3.length c0_3) := (zq4 BK428.out 3).trans rfl
    have hcz22_4 : w5.cell? ⟨gb428, 4, none⟩ = some (.slice A0_4 l0_4.length c0_4) := (zq4 BK428.out 4).trans rfl
    have hfz22_0 := zq5 BK428.out 0
    have hfz22_1 := zq5 BK428.out 1
    have hfz22_2 := zq5 BK428.out 2
    have hfz22_3 := zq5 BK428.out 3
    have hfz22_4 := zq5 BK428.out 4
    have hcz23_0 : w5.cell? ⟨gb429, 0, none⟩ = some (.int .i64 a1_0) := (zq4 BK429.out 0).trans rfl
    have hcz23_1 : w5.cell? ⟨gb429, 1, none⟩ = some (.slice A1_1 l1_1.length c1_1) := (zq4 BK429.out 1).trans rfl
    have hcz23_2 : w5.cell? ⟨gb429, 2, none⟩ = some (.slice A1_2 l1_2.length c1_2) := (zq4 BK429.out 2).trans rfl
    have hcz23_3 : w5.cell? ⟨gb429, 3, none⟩ = some (.slice A1_3 l1_3.length c1_3) := (zq4 BK429.out 3).trans rfl
    have hcz23_4 : w5.cell? ⟨gb429, 4, none⟩ = some (.slice A1_4 l1_4.length c1_4) := (zq4 BK429.out 4).trans rfl
    have hfz23_0 := zq5 BK429.out 0
    have hfz23_1 := zq5 BK429.out 1
    have hfz23_2 := zq5 BK429.out 2
    have hfz23_3 := zq5 BK429.out 3
    have hfz23_4 := zq5 BK429.out 4
    go_wp2_with (first | (go_at_call 40; (with_reducible refine (laws_lpaTexts.calls k _ _ l0_1 _ _ l1_1 false _ ?side1 ?side2 ?side3 ?side4 A7.out).mono ?_); (case side1 => repeat (first | exact (Kd.C_below HR0_1.out HB.out) | (with_reducible refine Kd.C_alloc ?_ _) | (with_reducible refine Kd.C_drewN ?_ _) | (with_reducible refine Kd.C_drew ?_))); (case side2 => exact HC0_1.out); (case side3 => repeat (first | exact (Kd.C_below HR1_1.out HB.out) | (with_reducible refine Kd.C_alloc ?_ _) | (with_reducible refine Kd.C_drewN ?_ _) | (with_reducible refine Kd.C_drew ?_))); (case side4 => exact HC1_1.out); rintro e w' ⟨rfl, ⟨nd, rfl⟩⟩; (try first | exact ⟨rfl, _, World.drewN_drewN _ _ _⟩ | exact ⟨rfl, _, Eq.trans (World.drewN_drewN _ _ _) (congrArg (World.drewN _) (Nat.add_assoc _ _ _))⟩)))
    repeat (go_quiet (first | (go_at_call 40; (with_reducible refine (laws_lpaTexts.calls k _ _ l0_1 _ _ l1_1 false _ ?side1 ?side2 ?side3 ?side4 A7.out).mono ?_); (case side1 => repeat (first | exact (Kd.C_below HR0_1.out HB.out) | (with_reducible refine Kd.C_alloc ?_ _) | (with_reducible refine Kd.C_drewN ?_ _) | (with_reducible refine Kd.C_drew ?_))); (case side2 => exact HC0_1.out); (case side3 => repeat (first | exact (Kd.C_below HR1_1.out HB.out) | (with_reducible refine Kd.C_alloc ?_ _) | (with_reducible refine Kd.C_drewN ?_ _) | (with_reducible refine Kd.C_drew ?_))); (case side4 => exact HC1_1.out); rintro e w' ⟨rfl, ⟨nd, rfl⟩⟩; (try first | exact ⟨rfl, _, World.drewN_drewN _ _ _⟩ | exact ⟨rfl, _, Eq.trans (World.drewN_drewN _ _ _) (congrArg (World.drewN _) (Nat.add_assoc _ _ _))⟩))); try go_wp2_with (first | (go_at_call 40; (with_reducible refine (laws_lpaTexts.calls k _ _ l0_1 _ _ l1_1 false _ ?side1 ?side2 ?side3 ?side4 A7.out).mono ?_); (case side1 => repeat (first | exact (Kd.C_below HR0_1.out HB.out) | (with_reducible refine Kd.C_alloc ?_ _) | (with_reducible refine Kd.C_drewN ?_ _) | (with_reducible refine Kd.C_drew ?_))); (case side2 => exact HC0_1.out); (case side3 => repeat (first | exact (Kd.C_below HR1_1.out HB.out) | (with_reducible refine Kd.C_alloc ?_ _) | (with_reducible refine Kd.C_drewN ?_ _) | (with_reducible refine Kd.C_drew ?_))); (case side4 => exact HC1_1.out); rintro e w' ⟨rfl, ⟨nd, rfl⟩⟩; (try first | exact ⟨rfl, _, World.drewN_drewN _ _ _⟩ | exact ⟨rfl, _, Eq.trans (World.drewN_drewN _ _ _) (congrArg (World.drewN _) (Nat.add_assoc _ _ _))⟩))))
    go_meet
    case rel => exact ⟨_, (true), (by first | rfl | (simp; done) | (simp [*]; done)), H', ⟨by first | omega | exact Nat.le_refl _⟩, ⟨by (with_reducible repeat (first | refine zq6 ?_ _ | refine zq8 ?_ | refine zq7 ?_ _)); exact BK428.out⟩, ⟨by (with_reducible repeat (first | refine zq6 ?_ _ | refine zq8 ?_ | refine zq7 ?_ _)); exact BK429.out⟩, ⟨by repeat (first | (with_reducible first | exact HB.out | apply zq2 | apply zq1 | apply zqd | refine zq3 ?_ GE428.out | refine zq3 ?_ GE429.out) | exact HB.out)⟩⟩
  ·rw [if_neg c6] at H
   have c6b0 : (a0_0 == a1_0) = false := beq_eq_false_iff_ne.mpr c6
   have c6b1 : (a0_0 != a1_0) = true := bne_iff_ne.mpr c6
   (first | rw [c6b0] | (simp only [i64_w, i32_w]; rw [c6b0]) | skip)
   have H' := Az.mk H
   clear H
   have hnb24 := NB428_429.out
   have hnc24 := NB429_428.out
   have hcz25_0 : w5.cell? ⟨gb428, 0, none⟩ = some (.int .i64 a0_0) := (zq4 BK428.out 0).trans rfl
   have hcz25_1 : w5.cell? ⟨gb428, 1, none⟩ = some (.slice A0_1 l0_1.length c0_1) := (zq4 BK428.out 1).trans rfl
   have hcz25_2 : w5.cell? ⟨gb428, 2, none⟩ = some (.slice A0_2 l0_2.length c0_2) := (zq4 BK428.out 2).trans rfl
   have hcz25_3 : w5.cell? ⟨gb428, 3, none⟩ = some (.slice A0_3 l0_3.length c0_3) := (zq4 BK428.out 3).trans rfl
   have hcz25_4 : w5.cell? ⟨gb428, 4, none⟩ = some (.slice A0_4 l0_4.length c0_4) := (zq4 BK428.out 4).trans rfl
   have hfz25_0 := zq5 BK428.out 0
   have hfz25_1 := zq5 BK428.out 1
   have hfz25_2 := zq5 BK428.out 2
   have hfz25_3 := zq5 BK428.out 3
   have hfz25_4 := zq5 BK428.out 4
   have hcz26_0 : w5.cell? ⟨gb429, 0, none⟩ = some (.int .i64 a1_0) := (zq4 BK429.out 0).trans rfl
   have hcz26_1 : w5.cell? ⟨gb429, 1, none⟩ = some (.slice A1_1 l1_1.length c1_1) := (zq4 BK429.out 1).trans rfl
   have hcz26_2 : w5.cell? ⟨gb429, 2, none⟩ = some (.slice A1_2 l1_2.length c1_2) := (zq4 BK429.out 2).trans rfl
   have hcz26_3 : w5.cell? ⟨gb429, 3, none⟩ = some (.slice A1_3 l1_3.length c1_3) := (zq4 BK429.out 3).trans rfl
   have hcz26_4 : w5.cell? ⟨gb429, 4, none⟩ = some (.slice A1_4 l1_4.length c1_4) := (zq4 BK429.out 4).trans rfl
   have hfz26_0 := zq5 BK429.out 0
   have hfz26_1 := zq5 BK429.out 1
   have hfz26_2 := zq5 BK429.out 2
   have hfz26_3 := zq5 BK429.out 3
   have hfz26_4 := zq5 BK429.out 4
   go_wp2
   repeat (go_quiet (fail); try go_wp2)
   go_meet
   case rel => exact ⟨_, (true), (by first | rfl | (simp; done) | (simp [*]; done)), H', ⟨by first | omega | exact Nat.le_refl _⟩, ⟨by (with_reducible repeat (first | refine zq6 ?_ _ | refine zq8 ?_ | refine zq7 ?_ _)); exact BK428.out⟩, ⟨by (with_reducible repeat (first | refine zq6 ?_ _ | refine zq8 ?_ | refine zq7 ?_ _)); exact BK429.out⟩, ⟨by repeat (first | (with_reducible first | exact HB.out | apply zq2 | apply zq1 | apply zqd | refine zq3 ?_ GE428.out | refine zq3 ?_ GE429.out) | exact HB.out)⟩⟩
 case rest =>
  clear HC3
  try clear c1
  try clear c2
  try clear p2
  try clear c6
  try clear c6b0
  try clear c6b1
  try clear c8
  try clear c10
  try clear c11
  try clear c11b0
  try clear c11b1
  try clear c11b2
  try clear c12
  try clear c15
  try clear c18
  try clear c21
  try clear c24
  try clear hcz13_0
  try clear hcz13_1
  try clear hcz13_2
  try clear hcz13_3
  try clear hcz13_4
  try clear hcz14_0
  try clear hcz14_1
  try clear hcz14_2
  try clear hcz14_3
  try clear hcz14_4
  try clear hcz16_0
  try clear hcz16_1
  try clear hcz16_2
  try clear hcz16_3
  try clear hcz16_4
  try clear hcz17_0
  try clear hcz17_1
  try clear hcz17_2
  try clear hcz17_3
  try clear hcz17_4
  try clear hcz19_0
  try clear hcz19_1
  try clear hcz19_2
  try clear hcz19_3
  try clear hcz19_4
  try clear hcz20_0
  try clear hcz20_1
  try clear hcz20_2
  try clear hcz20_3
  try clear hcz20_4
  try clear hcz22_0
  try clear hcz22_1
  try clear hcz22_2
  try clear hcz22_3
  try clear hcz22_4
  try clear hcz23_0
  try clear hcz23_1
  try clear hcz23_2
  try clear hcz23_3
  try clear hcz23_4
  try clear hcz25_0
  try clear hcz25_1
  try clear hcz25_2
  try clear hcz25_3
  try clear hcz25_4
  try clear hcz26_0
  try clear hcz26_1
  try clear hcz26_2
  try clear hcz26_3
  try clear hcz26_4
  try clear hfz13_0
  try clear hfz13_1
  try clear hfz13_2
  try clear hfz13_3
  try clear hfz13_4
  try clear hfz14_0
  try clear hfz14_1
  try clear hfz14_2
  try clear hfz14_3
  try clear hfz14_4
  try clear hfz16_0
  try clear hfz16_1
  try clear hfz16_2
  try clear hfz16_3
  try clear hfz16_4
  try clear hfz17_0
  try clear hfz17_1
  try clear hfz17_2
  try clear hfz17_3
  try clear hfz17_4
  try clear hfz19_0
  try clear hfz19_1
  try clear hfz19_2
  try clear hfz19_3
  try clear hfz19_4
  try clear hfz20_0
  try clear hfz20_1
  try clear hfz20_2
  try clear hfz20_3
  try clear hfz20_4
  try clear hfz22_0
  try clear hfz22_1
  try clear hfz22_2
  try clear hfz22_3
  try clear hfz22_4
  try clear hfz23_0
  try clear hfz23_1
  try clear hfz23_2
  try clear hfz23_3
  try clear hfz23_4
  try clear hfz25_0
  try clear hfz25_1
  try clear hfz25_2
  try clear hfz25_3
  try clear hfz25_4
  try clear hfz26_0
  try clear hfz26_1
  try clear hfz26_2
  try clear hfz26_3
  try clear hfz26_4
  obtain ⟨kq, x45_2, rfl, HA, HJ2, BK428, BK429, HB⟩ := hcut
  cases kq with
  | zero => exact absurd HA.out (by simp [laws_lpaDisk.j0])
  | succ kj2 =>
   have H := HA.out
   clear HA
   simp only [laws_lpaDisk.j0] at H
   by_cases c27 : x45_2 = true
   ·subst c27
    have H1 : (some false) = some r := by rw [if_pos rfl] at H; exact H
    clear H
    have H := H1
    clear H1
    obtain rfl := Option.some.inj H
    go_wp2
    repeat (go_quiet (fail); try go_wp2)
    go_ret
    exact ⟨by first | rfl | (simp [errW_none, errW_some] <;> rfl) | (simp [*, errW_none, errW_some] <;> rfl), by repeat (first | (with_reducible first | exact HB.out | apply zq2 | apply zq1 | apply zqd | refine zq3 ?_ GE428.out | refine zq3 ?_ GE429.out) | exact HB.out)⟩
   ·replace c27 := Bool.eq_false_iff.mpr c27
    subst c27
    have H1 : (laws_lpaDisk.l0 kj2 0 a0_0 l0_1 l0_2 l0_3 l0_4 a1_0 l1_1 l1_2 l1_3 l1_4) = some r := by rw [if_neg (show ¬ (false = true) by decide)] at H; exact H
    clear H
    have H := H1
    clear H1
    have H' := Az.mk H
    clear H
    go_wp2
    repeat (go_quiet (fail); try go_wp2)
    go_loopg [5] kj2 (fun kq v5 w' => ∃ (x5_2 : Int), v5 = .int .i64 x5_2 ∧ Az (laws_lpaDisk.l0 kq x5_2 a0_0 l0_1 l0_2 l0_3 l0_4 a1_0 l1_1 l1_2 l1_3 l1_4 = some r) ∧ Az (kq ≤ kj2) ∧ Az (w'.heap[gb428]? = some (.cells #[.int .i64 a0_0, (.slice A0_1 l0_1.length c0_1), (.slice A0_2 l0_2.length c0_2), (.slice A0_3 l0_3.length c0_3), (.slice A0_4 l0_4.length c0_4)] 28 (0, 0))) ∧ Az (w'.heap[gb429]? = some (.cells #[.int .i64 a1_0, (.slice A1_1 l1_1.length c1_1), (.slice A1_2 l1_2.length c1_2), (.slice A1_3 l1_3.length c1_3), (.slice A1_4 l1_4.length c1_4)] 28 (0, 0))) ∧ Az (Below w.heap.size w w'))
    case atStart => exact ⟨(0), (by first | rfl | (simp; done) | (simp [*]; done)), H', ⟨Nat.le_refl _⟩, ⟨by (with_reducible repeat (first | refine zq6 ?_ _ | refine zq8 ?_ | refine zq7 ?_ _)); exact BK428.out⟩, ⟨by (with_reducible repeat (first | refine zq6 ?_ _ | refine zq8 ?_ | refine zq7 ?_ _)); exact BK429.out⟩, ⟨by repeat (first | (with_reducible first | exact HB.out | apply zq2 | apply zq1 | apply zqd | refine zq3 ?_ GE428.out | refine zq3 ?_ GE429.out) | exact HB.out)⟩⟩
    case round =>
     clear H'
     try clear c1
     try clear c2
     try clear p2
     try clear c6
     try clear c6b0
     try clear c6b1
     try clear c8
     try clear c10
     try clear c11
     try clear c11b0
     try clear c11b1
     try clear c11b2
     try clear c12
     try clear c15
     try clear c18
     try clear c21
     try clear c24
     try clear c27
     try clear hcz13_0
     try clear hcz13_1
     try clear hcz13_2
     try clear hcz13_3
     try clear hcz13_4
     try clear hcz14_0
     try clear hcz14_1
     try clear hcz14_2
     try clear hcz14_3
     try clear hcz14_4
     try clear hcz16_0
     try clear hcz16_1
     try clear hcz16_2
     try clear hcz16_3
     try clear hcz16_4
     try clear hcz17_0
     try clear hcz17_1
     try clear hcz17_2
     try clear hcz17_3
     try clear hcz17_4
     try clear hcz19_0
     try clear hcz19_1
     try clear hcz19_2
     try clear hcz19_3
     try clear hcz19_4
     try clear hcz20_0
     try clear hcz20_1
     try clear hcz20_2
     try clear hcz20_3
     try clear hcz20_4
     try clear hcz22_0
     try clear hcz22_1
     try clear hcz22_2
     try clear hcz22_3
     try clear hcz22_4
     try clear hcz23_0
     try clear hcz23_1
     try clear hcz23_2
     try clear hcz23_3
     try clear hcz23_4
     try clear hcz25_0
     try clear hcz25_1
     try clear hcz25_2
     try clear hcz25_3
     try clear hcz25_4
     try clear hcz26_0
     try clear hcz26_1
     try clear hcz26_2
     try clear hcz26_3
     try clear hcz26_4
     try clear hfz13_0
     try clear hfz13_1
     try clear hfz13_2
     try clear hfz13_3
     try clear hfz13_4
     try clear hfz14_0
     try clear hfz14_1
     try clear hfz14_2
     try clear hfz14_3
     try clear hfz14_4
     try clear hfz16_0
     try clear hfz16_1
     try clear hfz16_2
     try clear hfz16_3
     try clear hfz16_4
     try clear hfz17_0
     try clear hfz17_1
     try clear hfz17_2
     try clear hfz17_3
     try clear hfz17_4
     try clear hfz19_0
     try clear hfz19_1
     try clear hfz19_2
     try clear hfz19_3
     try clear hfz19_4
     try clear hfz20_0
     try clear hfz20_1
     try clear hfz20_2
     try clear hfz20_3
     try clear hfz20_4
     try clear hfz22_0
     try clear hfz22_1
     try clear hfz22_2
     try clear hfz22_3
     try clear hfz22_4
     try clear hfz23_0
     try clear hfz23_1
     try clear hfz23_2
     try clear hfz23_3
     try clear hfz23_4
     try clear hfz25_0
     try clear hfz25_1
     try clear hfz25_2
     try clear hfz25_3
     try clear hfz25_4
     try clear hfz26_0
     try clear hfz26_1
     try clear hfz26_2
     try clear hfz26_3
     try clear hfz26_4
     try clear p2
     obtain ⟨x5_2, rfl, HA, HK2, BK428, BK429, HB⟩ := hrel
     cases gk with
     | zero => exact absurd HA.out (by simp [laws_lpaDisk.l0])
     | succ k2 =>
      have H := HA.out
      clear HA
      simp only [laws_lpaDisk.l0] at H
      by_cases c28 : x5_2 < (l0_3.length : Int)
      ·rw [if_pos c28] at H
       have c28b0 : decide (x5_2 < (l0_3.length : Int)) = true := decide_eq_true c28
       clear c28
       by_cases c29 : 0 ≤ x5_2
       ·rw [if_pos c29] at H
        have c29b0 : decide (0 ≤ x5_2) = true := decide_eq_true c29
        clear c29
        by_cases c30 : x5_2 < (l1_3.length : Int)
        ·rw [if_pos c30] at H
         have c30b0 : decide (x5_2 < (l1_3.length : Int)) = true := decide_eq_true c30
         clear c30
         by_cases c31 : ((rdOf false l0_3 x5_2) != (rdOf false l1_3 x5_2)) = true
         ·rw [if_pos c31] at H
          have c31b0 : ((rdOf false l0_3 x5_2) != (rdOf false l1_3 x5_2)) = true := c31
          (try (have c31b1 : decide ((rdOf false l0_3 x5_2) = (rdOf false l1_3 x5_2)) = false := by simpa using c31))
          (try (have c31b2 : ((rdOf false l0_3 x5_2) == (rdOf false l1_3 x5_2)) = false := by simpa using c31))
          (try (have c31b3 : ¬ ((rdOf false l0_3 x5_2) = (rdOf false l1_3 x5_2)) := by simpa using c31))
          clear c31
          obtain rfl := Option.some.inj H
          have hnb32 := NB428_429.out
          have hnc32 := NB429_428.out
          have hcz33_0 : wr.cell? ⟨gb428, 0, none⟩ = some (.int .i64 a0_0) := (zq4 BK428.out 0).trans rfl
          have hcz33_1 : wr.cell? ⟨gb428, 1, none⟩ = some (.slice A0_1 l0_1.length c0_1) := (zq4 BK428.out 1).trans rfl
          have hcz33_2 : wr.cell? ⟨gb428, 2, none⟩ = some (.slice A0_2 l0_2.length c0_2) := (zq4 BK428.out 2).trans rfl
          have hcz33_3 : wr.cell? ⟨gb428, 3, none⟩ = some (.slice A0_3 l0_3.length c0_3) := (zq4 BK428.out 3).trans rfl
          have hcz33_4 : wr.cell? ⟨gb428, 4, none⟩ = some (.slice A0_4 l0_4.length c0_4) := (zq4 BK428.out 4).trans rfl
          have hfz33_0 := zq5 BK428.out 0
          have hfz33_1 := zq5 BK428.out 1
          have hfz33_2 := zq5 BK428.out 2
          have hfz33_3 := zq5 BK428.out 3
          have hfz33_4 := zq5 BK428.out 4
          have p432 : 0 ≤ (x5_2 : Int) := of_decide_eq_true (by first | (with_reducible assumption) | assumption)
          have q432 : x5_2 < (l0_3.length : Int) := of_decide_eq_true (by first | (with_reducible assumption) | assumption)
          obtain ⟨ad432, e432, hx432_0⟩ := Kd.at_bool HR0_3.out x5_2 p432 q432
          cases e432
          replace hx432_0 := (HB.out.cell (World.block_lt_of_cell? w _ hx432_0)).trans hx432_0
          replace p432 := eq_true p432
          replace q432 := eq_true q432
          have hcz34_0 : wr.cell? ⟨gb429, 0, none⟩ = some (.int .i64 a1_0) := (zq4 BK429.out 0).trans rfl
          have hcz34_1 : wr.cell? ⟨gb429, 1, none⟩ = some (.slice A1_1 l1_1.length c1_1) := (zq4 BK429.out 1).trans rfl
          have hcz34_2 : wr.cell? ⟨gb429, 2, none⟩ = some (.slice A1_2 l1_2.length c1_2) := (zq4 BK429.out 2).trans rfl
          have hcz34_3 : wr.cell? ⟨gb429, 3, none⟩ = some (.slice A1_3 l1_3.length c1_3) := (zq4 BK429.out 3).trans rfl
          have hcz34_4 : wr.cell? ⟨gb429, 4, none⟩ = some (.slice A1_4 l1_4.length c1_4) := (zq4 BK429.out 4).trans rfl
          have hfz34_0 := zq5 BK429.out 0
          have hfz34_1 := zq5 BK429.out 1
          have hfz34_2 := zq5 BK429.out 2
          have hfz34_3 := zq5 BK429.out 3
          have hfz34_4 := zq5 BK429.out 4
          have p433 : 0 ≤ (x5_2 : Int) := of_decide_eq_true (by first | (with_reducible assumption) | assumption)
          have q433 : x5_2 < (l1_3.length : Int) := of_decide_eq_true (by first | (with_reducible assumption) | assumption)
          obtain ⟨ad433, e433, hx433_0⟩ := Kd.at_bool HR1_3.out x5_2 p433 q433
          cases e433
          replace hx433_0 := (HB.out.cell (World.block_lt_of_cell? w _ hx433_0)).trans hx433_0
          replace p433 := eq_true p433
          replace q433 := eq_true q433
          go_wp2
          repeat (go_quiet (fail); try go_wp2)
          go_ret
          exact ⟨by first | rfl | (simp [errW_none, errW_some] <;> rfl) | (simp [*, errW_none, errW_some] <;> rfl), by repeat (first | (with_reducible first | exact HB.out | apply zq2 | apply zq1 | apply zqd | refine zq3 ?_ GE428.out | refine zq3 ?_ GE429.out) | exact HB.out)⟩
         ·rw [if_neg c31] at H
          have c31b0 : ((rdOf false l0_3 x5_2) != (rdOf false l1_3 x5_2)) = false := by simpa using c31
          (try (have c31b1 : decide ((rdOf false l0_3 x5_2) = (rdOf false l1_3 x5_2)) = true := by simpa using c31))
          (try (have c31b2 : ((rdOf false l0_3 x5_2) == (rdOf false l1_3 x5_2)) = true := by simpa using c31))
          clear c31
          have H' := Az.mk H
          clear H
          have hnb35 := NB428_429.out
          have hnc35 := NB429_428.out
          have hcz36_0 : wr.cell? ⟨gb428, 0, none⟩ = some (.int .i64 a0_0) := (zq4 BK428.out 0).trans rfl
          have hcz36_1 : wr.cell? ⟨gb428, 1, none⟩ = some (.slice A0_1 l0_1.length c0_1) := (zq4 BK428.out 1).trans rfl
          have hcz36_2 : wr.cell? ⟨gb428, 2, none⟩ = some (.slice A0_2 l0_2.length c0_2) := (zq4 BK428.out 2).trans rfl
          have hcz36_3 : wr.cell? ⟨gb428, 3, none⟩ = some (.slice A0_3 l0_3.length c0_3) := (zq4 BK428.out 3).trans rfl
          have hcz36_4 : wr.cell? ⟨gb428, 4, none⟩ = some (.slice A0_4 l0_4.length c0_4) := (zq4 BK428.out 4).trans rfl
          have hfz36_0 := zq5 BK428.out 0
          have hfz36_1 := zq5 BK428.out 1
          have hfz36_2 := zq5 BK428.out 2
          have hfz36_3 := zq5 BK428.out 3
          have hfz36_4 := zq5 BK428.out 4
          have p432 : 0 ≤ (x5_2 : Int) := of_decide_eq_true (by first | (with_reducible assumption) | assumption)
          have q432 : x5_2 < (l0_3.length : Int) := of_decide_eq_true (by first | (with_reducible assumption) | assumption)
          obtain ⟨ad432, e432, hx432_0⟩ := Kd.at_bool HR0_3.out x5_2 p432 q432
          cases e432
          replace hx432_0 := (HB.out.cell (World.block_lt_of_cell? w _ hx432_0)).trans hx432_0
          replace p432 := eq_true p432
          replace q432 := eq_true q432
          have hcz37_0 : wr.cell? ⟨gb429, 0, none⟩ = some (.int .i64 a1_0) := (zq4 BK429.out 0).trans rfl
          have hcz37_1 : wr.cell? ⟨gb429, 1, none⟩ = some (.slice A1_1 l1_1.length c1_1) := (zq4 BK429.out 1).trans rfl
          have hcz37_2 : wr.cell? ⟨gb429, 2, none⟩ = some (.slice A1_2 l1_2.length c1_2) := (zq4 BK429.out 2).trans rfl
          have hcz37_3 : wr.cell? ⟨gb429, 3, none⟩ = some (.slice A1_3 l1_3.length c1_3) := (zq4 BK429.out 3).trans rfl
          have hcz37_4 : wr.cell? ⟨gb429, 4, none⟩ = some (.slice A1_4 l1_4.length c1_4) := (zq4 BK429.out 4).trans rfl
          have hfz37_0 := zq5 BK429.out 0
          have hfz37_1 := zq5 BK429.out 1
          have hfz37_2 := zq5 BK429.out 2
          have hfz37_3 := zq5 BK429.out 3
          have hfz37_4 := zq5 BK429.out 4
          have p433 : 0 ≤ (x5_2 : Int) := of_decide_eq_true (by first | (with_reducible assumption) | assumption)
          have q433 : x5_2 < (l1_3.length : Int) := of_decide_eq_true (by first | (with_reducible assumption) | assumption)
          obtain ⟨ad433, e433, hx433_0⟩ := Kd.at_bool HR1_3.out x5_2 p433 q433
          cases e433
          replace hx433_0 := (HB.out.cell (World.block_lt_of_cell? w _ hx433_0)).trans hx433_0
          replace p433 := eq_true p433
          replace q433 := eq_true q433
          go_wp2
          repeat (go_quiet (fail); try go_wp2)
          go_roundg k2
          case measure => have := HJ2.out; have := HK2.out; omega
          case rel => exact ⟨(wrap64 (x5_2 + 1)), (by first | rfl | (simp; done) | (simp [*]; done)), H', ⟨by have := HJ2.out; have := HK2.out; omega⟩, ⟨by (with_reducible repeat (first | refine zq6 ?_ _ | refine zq8 ?_ | refine zq7 ?_ _)); exact BK428.out⟩, ⟨by (with_reducible repeat (first | refine zq6 ?_ _ | refine zq8 ?_ | refine zq7 ?_ _)); exact BK429.out⟩, ⟨by repeat (first | (with_reducible first | exact HB.out | apply zq2 | apply zq1 | apply zqd | refine zq3 ?_ GE428.out | refine zq3 ?_ GE429.out) | exact HB.out)⟩⟩
        ·rw [if_neg c30] at H
         exact absurd H (by simp)
       ·rw [if_neg c29] at H
        exact absurd H (by simp)
      ·rw [if_neg c28] at H
       have c28b0 : decide (x5_2 < (l0_3.length : Int)) = false := decide_eq_false c28
       clear c28
       have H' := Az.mk H
       clear H
       have hnb38 := NB428_429.out
       have hnc38 := NB429_428.out
       have hcz39_0 : wr.cell? ⟨gb428, 0, none⟩ = some (.int .i64 a0_0) := (zq4 BK428.out 0).trans rfl
       have hcz39_1 : wr.cell? ⟨gb428, 1, none⟩ = some (.slice A0_1 l0_1.length c0_1) := (zq4 BK428.out 1).trans rfl
       have hcz39_2 : wr.cell? ⟨gb428, 2, none⟩ = some (.slice A0_2 l0_2.length c0_2) := (zq4 BK428.out 2).trans rfl
       have hcz39_3 : wr.cell? ⟨gb428, 3, none⟩ = some (.slice A0_3 l0_3.length c0_3) := (zq4 BK428.out 3).trans rfl
       have hcz39_4 : wr.cell? ⟨gb428, 4, none⟩ = some (.slice A0_4 l0_4.length c0_4) := (zq4 BK428.out 4).trans rfl
       have hfz39_0 := zq5 BK428.out 0
       have hfz39_1 := zq5 BK428.out 1
       have hfz39_2 := zq5 BK428.out 2
       have hfz39_3 := zq5 BK428.out 3
       have hfz39_4 := zq5 BK428.out 4
       go_wp2
       repeat (go_quiet (fail); try go_wp2)
       go_loopg [6] k2 (fun kq v6 w' => ∃ (x6_3 : Int), v6 = .int .i64 x6_3 ∧ Az (laws_lpaDisk.l1 kq x6_3 a0_0 l0_1 l0_2 l0_3 l0_4 a1_0 l1_1 l1_2 l1_3 l1_4 = some r) ∧ Az (kq ≤ k2) ∧ Az (w'.heap[gb428]? = some (.cells #[.int .i64 a0_0, (.slice A0_1 l0_1.length c0_1), (.slice A0_2 l0_2.length c0_2), (.slice A0_3 l0_3.length c0_3), (.slice A0_4 l0_4.length c0_4)] 28 (0, 0))) ∧ Az (w'.heap[gb429]? = some (.cells #[.int .i64 a1_0, (.slice A1_1 l1_1.length c1_1), (.slice A1_2 l1_2.length c1_2), (.slice A1_3 l1_3.length c1_3), (.slice A1_4 l1_4.length c1_4)] 28 (0, 0))) ∧ Az (Below w.heap.size w w'))
       case atStart => exact ⟨(0), (by first | rfl | (simp; done) | (simp [*]; done)), H', ⟨Nat.le_refl _⟩, ⟨by (with_reducible repeat (first | refine zq6 ?_ _ | refine zq8 ?_ | refine zq7 ?_ _)); exact BK428.out⟩, ⟨by (with_reducible repeat (first | refine zq6 ?_ _ | refine zq8 ?_ | refine zq7 ?_ _)); exact BK429.out⟩, ⟨by repeat (first | (with_reducible first | exact HB.out | apply zq2 | apply zq1 | apply zqd | refine zq3 ?_ GE428.out | refine zq3 ?_ GE429.out) | exact HB.out)⟩⟩
       case round =>
        clear H'
        try clear c1
        try clear c2
        try clear p2
        try clear c3
        try clear p4
        try clear q4
        try clear hx4
        try clear c6
        try clear c6b0
        try clear c6b1
        try clear p6
        try clear c8
        try clear c10
        try clear c11
        try clear c11b0
        try clear c11b1
        try clear c11b2
        try clear c12
        try clear c15
        try clear c18
        try clear c21
        try clear c24
        try clear c27
        try clear c28
        try clear c28b0
        try clear c29
        try clear c29b0
        try clear c30
        try clear c30b0
        try clear c31
        try clear c31b0
        try clear c31b1
        try clear c31b2
        try clear c32
        try clear c35
        try clear c38
        try clear hcz13_0
        try clear hcz13_1
        try clear hcz13_2
        try clear hcz13_3
        try clear hcz13_4
        try clear hcz14_0
        try clear hcz14_1
        try clear hcz14_2
        try clear hcz14_3
        try clear hcz14_4
        try clear hcz16_0
        try clear hcz16_1
        try clear hcz16_2
        try clear hcz16_3
        try clear hcz16_4
        try clear hcz17_0
        try clear hcz17_1
        try clear hcz17_2
        try clear hcz17_3
        try clear hcz17_4
        try clear hcz19_0
        try clear hcz19_1
        try clear hcz19_2
        try clear hcz19_3
        try clear hcz19_4
        try clear hcz20_0
        try clear hcz20_1
        try clear hcz20_2
        try clear hcz20_3
        try clear hcz20_4
        try clear hcz22_0
        try clear hcz22_1
        try clear hcz22_2
        try clear hcz22_3
        try clear hcz22_4
        try clear hcz23_0
        try clear hcz23_1
        try clear hcz23_2
        try clear hcz23_3
        try clear hcz23_4
        try clear hcz25_0
        try clear hcz25_1
        try clear hcz25_2
        try clear hcz25_3
        try clear hcz25_4
        try clear hcz26_0
        try clear hcz26_1
        try clear hcz26_2
        try clear hcz26_3
        try clear hcz26_4
        try clear hcz33_0
        try clear hcz33_1
        try clear hcz33_2
        try clear hcz33_3
        try clear hcz33_4
        try clear hcz34_0
        try clear hcz34_1
        try clear hcz34_2
        try clear hcz34_3
        try clear hcz34_4
        try clear hcz36_0
        try clear hcz36_1
        try clear hcz36_2
        try clear hcz36_3
        try clear hcz36_4
        try clear hcz37_0
        try clear hcz37_1
        try clear hcz37_2
        try clear hcz37_3
        try clear hcz37_4
        try clear hcz39_0
        try clear hcz39_1
        try clear hcz39_2
        try clear hcz39_3
        try clear hcz39_4
        try clear hfz13_0
        try clear hfz13_1
        try clear hfz13_2
        try clear hfz13_3
        try clear hfz13_4
        try clear hfz14_0
        try clear hfz14_1
        try clear hfz14_2
        try clear hfz14_3
        try clear hfz14_4
        try clear hfz16_0
        try clear hfz16_1
        try clear hfz16_2
        try clear hfz16_3
        try clear hfz16_4
        try clear hfz17_0
        try clear hfz17_1
        try clear hfz17_2
        try clear hfz17_3
        try clear hfz17_4
        try clear hfz19_0
        try clear hfz19_1
        try clear hfz19_2
        try clear hfz19_3
        try clear hfz19_4
        try clear hfz20_0
        try clear hfz20_1
        try clear hfz20_2
        try clear hfz20_3
        try clear hfz20_4
        try clear hfz22_0
        try clear hfz22_1
        try clear hfz22_2
        try clear hfz22_3
        try clear hfz22_4
        try clear hfz23_0
        try clear hfz23_1
        try clear hfz23_2
        try clear hfz23_3
        try clear hfz23_4
        try clear hfz25_0
        try clear hfz25_1
        try clear hfz25_2
        try clear hfz25_3
        try clear hfz25_4
        try clear hfz26_0
        try clear hfz26_1
        try clear hfz26_2
        try clear hfz26_3
        try clear hfz26_4
        try clear hfz33_0
        try clear hfz33_1
        try clear hfz33_2
        try clear hfz33_3
        try clear hfz33_4
        try clear hfz34_0
        try clear hfz34_1
        try clear hfz34_2
        try clear hfz34_3
        try clear hfz34_4
        try clear hfz36_0
        try clear hfz36_1
        try clear hfz36_2
        try clear hfz36_3
        try clear hfz36_4
        try clear hfz37_0
        try clear hfz37_1
        try clear hfz37_2
        try clear hfz37_3
        try clear hfz37_4
        try clear hfz39_0
        try clear hfz39_1
        try clear hfz39_2
        try clear hfz39_3
        try clear hfz39_4
        try clear hx432_0
        try clear hx433_0
        try clear p2
        try clear p432
        try clear p433
        try clear q432
        try clear q433
        obtain ⟨x6_3, rfl, HA, HK3, BK428, BK429, HB⟩ := hrel
        cases gk with
        | zero => exact absurd HA.out (by simp [laws_lpaDisk.l1])
        | succ k3 =>
         have H := HA.out
         clear HA
         simp only [laws_lpaDisk.l1] at H
         by_cases c40 : x6_3 < (l0_4.length : Int)
         ·rw [if_pos c40] at H
          have c40b0 : decide (x6_3 < (l0_4.length : Int)) = true := decide_eq_true c40
          clear c40
          by_cases c41 : 0 ≤ x6_3
          ·rw [if_pos c41] at H
           have c41b0 : decide (0 ≤ x6_3) = true := decide_eq_true c41
           clear c41
           by_cases c42 : x6_3 < (l1_4.length : Int)
           ·rw [if_pos c42] at H
            have c42b0 : decide (x6_3 < (l1_4.length : Int)) = true := decide_eq_true c42
            clear c42
            by_cases c43 : (!(((rd_T54 l0_4 x6_3).f0) == ((rd_T54 l1_4 x6_3).f0)) || (!(((rd_T54 l0_4 x6_3).f1) == ((rd_T54 l1_4 x6_3).f1)) || (!((((rd_T54 l0_4 x6_3).f2).toList) == (((rd_T54 l1_4 x6_3).f2).toList))))) = true
            ·rw [if_pos c43] at H
             have c43b0 : (!(((rd_T54 l0_4 x6_3).f0) == ((rd_T54 l1_4 x6_3).f0)) || (!(((rd_T54 l0_4 x6_3).f1) == ((rd_T54 l1_4 x6_3).f1)) || (!((((rd_T54 l0_4 x6_3).f2).toList) == (((rd_T54 l1_4 x6_3).f2).toList))))) = true := c43
             clear c43
             obtain rfl := Option.some.inj H
             have hnb44 := NB428_429.out
             have hnc44 := NB429_428.out
             have hcz45_0 : wr.cell? ⟨gb428, 0, none⟩ = some (.int .i64 a0_0) := (zq4 BK428.out 0).trans rfl
             have hcz45_1 : wr.cell? ⟨gb428, 1, none⟩ = some (.slice A0_1 l0_1.length c0_1) := (zq4 BK428.out 1).trans rfl
             have hcz45_2 : wr.cell? ⟨gb428, 2, none⟩ = some (.slice A0_2 l0_2.length c0_2) := (zq4 BK428.out 2).trans rfl
             have hcz45_3 : wr.cell? ⟨gb428, 3, none⟩ = some (.slice A0_3 l0_3.length c0_3) := (zq4 BK428.out 3).trans rfl
             have hcz45_4 : wr.cell? ⟨gb428, 4, none⟩ = some (.slice A0_4 l0_4.length c0_4) := (zq4 BK428.out 4).trans rfl
             have hfz45_0 := zq5 BK428.out 0
             have hfz45_1 := zq5 BK428.out 1
             have hfz45_2 := zq5 BK428.out 2
             have hfz45_3 := zq5 BK428.out 3
             have hfz45_4 := zq5 BK428.out 4
             have p434 : 0 ≤ (x6_3 : Int) := of_decide_eq_true (by first | (with_reducible assumption) | assumption)
             have q434 : x6_3 < (l0_4.length : Int) := of_decide_eq_true (by first | (with_reducible assumption) | assumption)
             obtain ⟨ad434, e434, hx434_0, hx434_1, hx434_2⟩ := at_T54 HR0_4.out x6_3 p434 q434
             cases e434
             replace hx434_0 := (HB.out.cell (World.block_lt_of_cell? w _ hx434_0)).trans hx434_0
             replace hx434_1 := (HB.out.cell (World.block_lt_of_cell? w _ hx434_1)).trans hx434_1
             replace hx434_2 := (HB.out.cell (World.block_lt_of_cell? w _ hx434_2)).trans hx434_2
             replace p434 := eq_true p434
             replace q434 := eq_true q434
             have hcz46_0 : wr.cell? ⟨gb429, 0, none⟩ = some (.int .i64 a1_0) := (zq4 BK429.out 0).trans rfl
             have hcz46_1 : wr.cell? ⟨gb429, 1, none⟩ = some (.slice A1_1 l1_1.length c1_1) := (zq4 BK429.out 1).trans rfl
             have hcz46_2 : wr.cell? ⟨gb429, 2, none⟩ = some (.slice A1_2 l1_2.length c1_2) := (zq4 BK429.out 2).trans rfl
             have hcz46_3 : wr.cell? ⟨gb429, 3, none⟩ = some (.slice A1_3 l1_3.length c1_3) := (zq4 BK429.out 3).trans rfl
             have hcz46_4 : wr.cell? ⟨gb429, 4, none⟩ = some (.slice A1_4 l1_4.length c1_4) := (zq4 BK429.out 4).trans rfl
             have hfz46_0 := zq5 BK429.out 0
             have hfz46_1 := zq5 BK429.out 1
             have hfz46_2 := zq5 BK429.out 2
             have hfz46_3 := zq5 BK429.out 3
             have hfz46_4 := zq5 BK429.out 4
             have p435 : 0 ≤ (x6_3 : Int) := of_decide_eq_true (by first | (with_reducible assumption) | assumption)
             have q435 : x6_3 < (l1_4.length : Int) := of_decide_eq_true (by first | (with_reducible assumption) | assumption)
             obtain ⟨ad435, e435, hx435_0, hx435_1, hx435_2⟩ := at_T54 HR1_4.out x6_3 p435 q435
             cases e435
             replace hx435_0 := (HB.out.cell (World.block_lt_of_cell? w _ hx435_0)).trans hx435_0
             replace hx435_1 := (HB.out.cell (World.block_lt_of_cell? w _ hx435_1)).trans hx435_1
             replace hx435_2 := (HB.out.cell (World.block_lt_of_cell? w _ hx435_2)).trans hx435_2
             replace p435 := eq_true p435
             replace q435 := eq_true q435
             go_wp2
             repeat (go_quiet (fail); try go_wp2)
             go_ret
             exact ⟨by first | rfl | (simp [errW_none, errW_some] <;> rfl) | (simp [*, errW_none, errW_some] <;> rfl), by repeat (first | (with_reducible first | exact HB.out | apply zq2 | apply zq1 | apply zqd | refine zq3 ?_ GE428.out | refine zq3 ?_ GE429.out) | exact HB.out)⟩
            ·rw [if_neg c43] at H
             have c43b0 : (!(((rd_T54 l0_4 x6_3).f0) == ((rd_T54 l1_4 x6_3).f0)) || (!(((rd_T54 l0_4 x6_3).f1) == ((rd_T54 l1_4 x6_3).f1)) || (!((((rd_T54 l0_4 x6_3).f2).toList) == (((rd_T54 l1_4 x6_3).f2).toList))))) = false := by simpa using c43
             clear c43
             have H' := Az.mk H
             clear H
             have hnb47 := NB428_429.out
             have hnc47 := NB429_428.out
             have hcz48_0 : wr.cell? ⟨gb428, 0, none⟩ = some (.int .i64 a0_0) := (zq4 BK428.out 0).trans rfl
             have hcz48_1 : wr.cell? ⟨gb428, 1, none⟩ = some (.slice A0_1 l0_1.length c0_1) := (zq4 BK428.out 1).trans rfl
             have hcz48_2 : wr.cell? ⟨gb428, 2, none⟩ = some (.slice A0_2 l0_2.length c0_2) := (zq4 BK428.out 2).trans rfl
             have hcz48_3 : wr.cell? ⟨gb428, 3, none⟩ = some (.slice A0_3 l0_3.length c0_3) := (zq4 BK428.out 3).trans rfl
             have hcz48_4 : wr.cell? ⟨gb428, 4, none⟩ = some (.slice A0_4 l0_4.length c0_4) := (zq4 BK428.out 4).trans rfl
             have hfz48_0 := zq5 BK428.out 0
             have hfz48_1 := zq5 BK428.out 1
             have hfz48_2 := zq5 BK428.out 2
             have hfz48_3 := zq5 BK428.out 3
             have hfz48_4 := zq5 BK428.out 4
             have p434 : 0 ≤ (x6_3 : Int) := of_decide_eq_true (by first | (with_reducible assumption) | assumption)
             have q434 : x6_3 < (l0_4.length : Int) := of_decide_eq_true (by first | (with_reducible assumption) | assumption)
             obtain ⟨ad434, e434, hx434_0, hx434_1, hx434_2⟩ := at_T54 HR0_4.out x6_3 p434 q434
             cases e434
             replace hx434_0 := (HB.out.cell (World.block_lt_of_cell? w _ hx434_0)).trans hx434_0
             replace hx434_1 := (HB.out.cell (World.block_lt_of_cell? w _ hx434_1)).trans hx434_1
             replace hx434_2 := (HB.out.cell (World.block_lt_of_cell? w _ hx434_2)).trans hx434_2
             replace p434 := eq_true p434
             replace q434 := eq_true q434
             have hcz49_0 : wr.cell? ⟨gb429, 0, none⟩ = some (.int .i64 a1_0) := (zq4 BK429.out 0).trans rfl
             have hcz49_1 : wr.cell? ⟨gb429, 1, none⟩ = some (.slice A1_1 l1_1.length c1_1) := (zq4 BK429.out 1).trans rfl
             have hcz49_2 : wr.cell? ⟨gb429, 2, none⟩ = some (.slice A1_2 l1_2.length c1_2) := (zq4 BK429.out 2).trans rfl
             have hcz49_3 : wr.cell? ⟨gb429, 3, none⟩ = some (.slice A1_3 l1_3.length c1_3) := (zq4 BK429.out 3).trans rfl
             have hcz49_4 : wr.cell? ⟨gb429, 4, none⟩ = some (.slice A1_4 l1_4.length c1_4) := (zq4 BK429.out 4).trans rfl
             have hfz49_0 := zq5 BK429.out 0
             have hfz49_1 := zq5 BK429.out 1
             have hfz49_2 := zq5 BK429.out 2
             have hfz49_3 := zq5 BK429.out 3
             have hfz49_4 := zq5 BK429.out 4
             have p435 : 0 ≤ (x6_3 : Int) := of_decide_eq_true (by first | (with_reducible assumption) | assumption)
             have q435 : x6_3 < (l1_4.length : Int) := of_decide_eq_true (by first | (with_reducible assumption) | assumption)
             obtain ⟨ad435, e435, hx435_0, hx435_1, hx435_2⟩ := at_T54 HR1_4.out x6_3 p435 q435
             cases e435
             replace hx435_0 := (HB.out.cell (World.block_lt_of_cell? w _ hx435_0)).trans hx435_0
             replace hx435_1 := (HB.out.cell (World.block_lt_of_cell? w _ hx435_1)).trans hx435_1
             replace hx435_2 := (HB.out.cell (World.block_lt_of_cell? w _ hx435_2)).trans hx435_2
             replace p435 := eq_true p435
             replace q435 := eq_true q435
             go_wp2
             repeat (go_quiet (fail); try go_wp2)
             go_roundg k3
             case measure => have := HJ2.out; have := HK2.out; have := HK3.out; omega
             case rel => exact ⟨(wrap64 (x6_3 + 1)), (by first | rfl | (simp; done) | (simp [*]; done)), H', ⟨by have := HJ2.out; have := HK2.out; have := HK3.out; omega⟩, ⟨by (with_reducible repeat (first | refine zq6 ?_ _ | refine zq8 ?_ | refine zq7 ?_ _)); exact BK428.out⟩, ⟨by (with_reducible repeat (first | refine zq6 ?_ _ | refine zq8 ?_ | refine zq7 ?_ _)); exact BK429.out⟩, ⟨by repeat (first | (with_reducible first | exact HB.out | apply zq2 | apply zq1 | apply zqd | refine zq3 ?_ GE428.out | refine zq3 ?_ GE429.out) | exact HB.out)⟩⟩
           ·rw [if_neg c42] at H
            exact absurd H (by simp)
          ·rw [if_neg c41] at H
           exact absurd H (by simp)
         ·rw [if_neg c40] at H
          have c40b0 : decide (x6_3 < (l0_4.length : Int)) = false := decide_eq_false c40
          clear c40
          obtain rfl := Option.some.inj H
          have hnb50 := NB428_429.out
          have hnc50 := NB429_428.out
          have hcz51_0 : wr.cell? ⟨gb428, 0, none⟩ = some (.int .i64 a0_0) := (zq4 BK428.out 0).trans rfl
          have hcz51_1 : wr.cell? ⟨gb428, 1, none⟩ = some (.slice A0_1 l0_1.length c0_1) := (zq4 BK428.out 1).trans rfl
          have hcz51_2 : wr.cell? ⟨gb428, 2, none⟩ = some (.slice A0_2 l0_2.length c0_2) := (zq4 BK428.out 2).trans rfl
          have hcz51_3 : wr.cell? ⟨gb428, 3, none⟩ = some (.slice A0_3 l0_3.length c0_3) := (zq4 BK428.out 3).trans rfl
          have hcz51_4 : wr.cell? ⟨gb428, 4, none⟩ = some (.slice A0_4 l0_4.length c0_4) := (zq4 BK428.out 4).trans rfl
          have hfz51_0 := zq5 BK428.out 0
          have hfz51_1 := zq5 BK428.out 1
          have hfz51_2 := zq5 BK428.out 2
          have hfz51_3 := zq5 BK428.out 3
          have hfz51_4 := zq5 BK428.out 4
          go_wp2
          repeat (go_quiet (fail); try go_wp2)
          go_ret
          exact ⟨by first | rfl | (simp [errW_none, errW_some] <;> rfl) | (simp [*, errW_none, errW_some] <;> rfl), by repeat (first | (with_reducible first | exact HB.out | apply zq2 | apply zq1 | apply zqd | refine zq3 ?_ GE428.out | refine zq3 ?_ GE429.out) | exact HB.out)⟩
end Go.Proofs.Ytkgpnloghmbmlaa.Print
namespace Go.Proofs.Ytkgpnloghmbmlaa.Print
open Go.RowKit Go.Proofs.YtkgpnloghmbmlaaW.PrintWords Go.Proofs.YtkgpnloghmbmlaaW.PrintLast Go.Proofs.YtkgpnloghmbmlaaW.PrintMore
attribute [local go_sem] max2_int min2_int max_two min_two max_three min_three max_four min_four   -- for this text's walks alone
set_option linter.unusedVariables false
set_option linter.unusedSimpArgs false
end Go.Proofs.Ytkgpnloghmbmlaa.Print
namespace Go.Proofs.Ytkgpnloghmbmlaa.Pure
open Go.RowKit Go.Proofs.Ytkgpnloghmbmlaa.Print Go.Proofs.YtkgpnloghmbmlaaW.PrintWords Go.Proofs.YtkgpnloghmbmlaaW.PrintLast
set_option linter.unusedSimpArgs false
theorem lpaTexts_l0 (l : List ByteArray) (hl : l.length ≤ 1048576) (d : Nat) : ∀ i : Nat, i + d = l.length → Ev (fun k => laws_lpaTexts.l0 k l l (i : Int)) true := by
  induction d with
  | zero =>
    intro i hi
    refine Ev.next ?_
    simp only [laws_lpaTexts.l0]
    exact Ev.neg (by omega) (Ev.ret rfl)
  | succ d ih =>
    intro i hi
    have e : wrap64 ((i : Int) + 1) = ((i + 1 : Nat) : Int) := by rw [wrap_ok (by omega)]; omega
    have hih := ih (i + 1) (by omega)
    refine Ev.next ?_
    simp only [laws_lpaTexts.l0, e]
    clear e
    exact Ev.pos (by omega) (Ev.pos (by omega) (Ev.pos (by omega) (Ev.pos trivial hih)))
theorem lpaTexts_ev (l : List ByteArray) (hl : l.length ≤ 1048576) : Ev (fun k => laws_lpaTexts.f k l l) true := by
  unfold laws_lpaTexts.f
  exact Ev.pos rfl (lpaTexts_l0 l hl _ 0 (Nat.zero_add _))
theorem lpaDisk_l1 {st : Int} {l1 l2 : List ByteArray} {l3 : List Bool} {l4 : List S54} (hl : l4.length ≤ 1048576) (d : Nat) : ∀ i : Nat, i + d = l4.length → Ev (fun k => laws_lpaDisk.l1 k (i : Int) st l1 l2 l3 l4 st l1 l2 l3 l4) true := by
  induction d with
  | zero =>
    intro i hi
    refine Ev.next ?_
    simp only [laws_lpaDisk.l1]
    exact Ev.neg (by omega) (Ev.ret rfl)
  | succ d ih =>
    intro i hi
    have e : wrap64 ((i : Int) + 1) = ((i + 1 : Nat) : Int) := by rw [wrap_ok (by omega)]; omega
    have hih := ih (i + 1) (by omega)
    refine Ev.next ?_
    simp only [laws_lpaDisk.l1, e]
    clear e
    exact Ev.pos (by omega) (Ev.pos (by omega) (Ev.pos (by omega) (Ev.neg (by simp) hih)))
theorem lpaDisk_l0 {st : Int} {l1 l2 : List ByteArray} {l3 : List Bool} {l4 : List S54} (h3 : l3.length ≤ 1048576) (hl : l4.length ≤ 1048576) (d : Nat) : ∀ i : Nat, i + d = l3.length → Ev (fun k => laws_lpaDisk.l0 k (i : Int) st l1 l2 l3 l4 st l1 l2 l3 l4) true := by
  induction d with
  | zero =>
    intro i hi
    refine Ev.next ?_
    simp only [laws_lpaDisk.l0]
    exact Ev.neg (by omega) (lpaDisk_l1 hl l4.length 0 (Nat.zero_add _))
  | succ d ih =>
    intro i hi
    have e : wrap64 ((i : Int) + 1) = ((i + 1 : Nat) : Int) := by rw [wrap_ok (by omega)]; omega
    have hih := ih (i + 1) (by omega)
    refine Ev.next ?_
    simp only [laws_lpaDisk.l0, e]
    clear e
    exact Ev.pos (by omega) (Ev.pos (by omega) (Ev.pos (by omega) (Ev.neg (by simp) hih)))
theorem lpaDisk_ev (st : Int) (l1 l2 : List ByteArray) (l3 : List Bool) (l4 : List S54) (h : Fits l1 l2 l3 l4.length) : Ev (fun k => laws_lpaDisk.f k st l1 l2 l3 l4 st l1 l2 l3 l4) true := by
  unfold laws_lpaDisk.f
  refine Ev.pos rfl (Ev.bind (lpaTexts_ev l1 h.h1) (Ev.pos rfl (Ev.bind (lpaTexts_ev l2 h.h2) (Ev.pos rfl (Ev.pos rfl (Ev.next ?_))))))
  simp only [laws_lpaDisk.j0]
  exact Ev.neg (by simp) (lpaDisk_l0 h.h3 h.h4 l3.length 0 (Nat.zero_add _))
abbrev e12 : List ByteArray := List.replicate 12 (⟨#[]⟩ : ByteArray)
abbrev e2 : List ByteArray := List.replicate 2 (⟨#[]⟩ : ByteArray)
abbrev f12 : List Bool := List.replicate 12 false
theorem newGood {st : Int} (h : 0 ≤ st ∧ st ≤ 2) : Print.Good st e12 e2 f12 [] := by
  refine ⟨⟨h, by simp, by simp, by simp, by simp⟩, rfl, fun i hi => ?_, by decide, fun _ => ⟨by decide, by decide, rfl⟩⟩
  have : ∀ i, i < 12 → badSlot (e12.getD i ByteArray.empty) (f12.getD i false) = false := by decide
  exact this i hi
end Go.Proofs.Ytkgpnloghmbmlaa.Pure
namespace Go.Proofs.Ytkgpnloghmbmlaa.Hd
open Go.RowKit Go.Proofs.Ytkgpnloghmbmlaa.Print Go.Proofs.YtkgpnloghmbmlaaW.PrintWords Go.Proofs.YtkgpnloghmbmlaaW.PrintLast Go.Proofs.Ytkgpnloghmbmlaa.Pure
set_option linter.unusedVariables false
structure Mid (sp : List Bool) (sl rg : List ByteArray) : Prop where
  n1 : sl.length = 12
  n2 : rg.length = 2
  n3 : sp.length = 12
  so : ∀ i, i < 12 → badSlot (sl.getD i ByteArray.empty) (sp.getD i false) = false
  ro : ∀ x ∈ rg, x.size ≤ 700
theorem getD_set {α : Type} (l : List α) (i j : Nat) (x z : α) (hi : i < l.length) : (l.set i x).getD j z = if i = j then x else l.getD j z := by
  simp only [List.getD, List.getElem?_set]
  by_cases h : i = j
  · subst h
    simp [hi]
  · simp [h]
theorem mid_come {sp : List Bool} {sl rg : List ByteArray} {p : S54} (h : Mid sp sl rg) (hp : putB p = true) : Mid (comeSp p sp) (comeSl p sl) (comeRg p rg) := by
  unfold putB at hp
  by_cases h0 : p.f0 = true
  · rw [if_pos h0] at hp
    have hp := of_decide_eq_true hp
    simp only [comeSp, comeSl, comeRg, if_pos h0]
    exact ⟨h.n1, by rw [List.length_set]; exact h.n2, h.n3, h.so, fun x hx => by
      rcases List.mem_or_eq_of_mem_set hx with hx | rfl
      · exact h.ro x hx
      · exact hp.2.2⟩
  · rw [if_neg h0] at hp
    have hp := of_decide_eq_true hp
    simp only [comeSp, comeSl, comeRg, if_neg h0]
    refine ⟨by rw [List.length_set]; exact h.n1, h.n2, by rw [List.length_set]; exact h.n3, fun i hi => ?_, h.ro⟩
    rw [getD_set _ _ _ _ _ (by rw [h.n1]; omega), getD_set _ _ _ _ _ (by rw [h.n3]; omega)]
    by_cases hh : p.f1.toNat = i
    · rw [if_pos hh, if_pos hh]
      unfold badSlot
      rw [if_neg (by omega)]
      simp [hp.2.2]
    · rw [if_neg hh, if_neg hh]
      exact h.so i hi
theorem mid_all : ∀ (ps : List S54) (sp : List Bool) (sl rg : List ByteArray), Mid sp sl rg → (∀ p ∈ ps, putB p = true) → Mid (comeAll ps (sp, sl, rg)).1 (comeAll ps (sp, sl, rg)).2.1 (comeAll ps (sp, sl, rg)).2.2
  | [], _, _, _, h, _ => h
  | p :: ps, sp, sl, rg, h, hp => mid_all ps _ _ _ (mid_come h (hp p List.mem_cons_self)) fun q hq => hp q (List.mem_cons_of_mem _ hq)
theorem good_mid {D : Dd} (h : GoodD D) : Mid D.l3 D.l1 D.l2 := ⟨h.sh.2.1, h.sh.2.2.1, h.sh.2.2.2.1, h.so, fun x hx => by
  have := List.any_eq_false.1 h.ro x hx
  have h2 : ¬ ((x.size : Int) > 700) := by simpa using this
  omega⟩
theorem good_of {st : Int} {l1 l2 : List ByteArray} {l3 : List Bool} {l4 : List S54} (h : Mid l3 l1 l2) (hs : 0 ≤ st ∧ st ≤ 2) (h4 : l4.length ≤ 40) (hp : ∀ p ∈ l4, putB p = true) (h1 : st ≠ 1) : GoodD ⟨st, l1, l2, l3, l4⟩ :=
  ⟨⟨hs, h.n1, h.n2, h.n3, h4⟩, List.any_eq_false.2 fun x hx => by simp [hp x hx], h.so, List.any_eq_false.2 fun x hx => by
    have := h.ro x hx
    simp
    omega, fun e => absurd e h1⟩
theorem come_gone {D : Dd} (h : GoodD D) (h1 : D.st = 1) : comeD D = D := by
  have h4 : D.l4 = [] := List.eq_nil_of_length_eq_zero (h.go h1).2.2
  obtain ⟨st, l1, l2, l3, l4⟩ := D
  simp only at h4
  subst h4
  rfl
theorem good_come {D : Dd} (h : GoodD D) : GoodD (comeD D) := by
  by_cases h1 : D.st = 1
  · rw [come_gone h h1]
    exact h
  · exact good_of (mid_all _ _ _ _ (good_mid h) (good_put h)) h.sh.1 (by simp) (fun p hp => by cases hp) h1
theorem good_laid {D : Dd} {p : S54} (h : GoodD D) (hp : putB p = true) : GoodD (laidD D p) := by
  unfold laidD
  by_cases h1 : D.st = 1
  · rw [if_pos h1]
    exact h
  · rw [if_neg h1]
    by_cases h2 : D.l4.length = 40
    · rw [if_pos h2]
      exact good_of (good_mid (good_come h)) h.sh.1 (by simp) (fun q hq => by
        obtain rfl : q = p := by simpa using hq
        exact hp) h1
    · rw [if_neg h2]
      exact good_of (good_mid h) h.sh.1 (by
        have := h.sh.2.2.2.2
        rw [List.length_append, List.length_singleton]
        omega) (fun q hq => by
        rcases List.mem_append.1 hq with hq | hq
        · exact good_put h q hq
        · obtain rfl : q = p := by simpa using hq
          exact hp) h1
theorem size_strOfNums' (l : List Int) : (strOfNums l).size = l.length := by
  unfold strOfNums ByteArray.size
  simp
theorem turned_size (s : ByteArray) (b : Nat) (c : Int) : (turned s b c).size = s.size := by
  unfold turned
  rw [size_strOfNums', List.length_set]
  simp [bytesOf]
theorem good_spoil {D : Dd} {a b : Nat} {c : Int} (h : GoodD D) (ha : a < 12) : GoodD (spoilD D a b c) := by
  unfold spoilD
  by_cases hz : (D.l1.getD a ByteArray.empty).size = 0 ∨ D.l3.getD a false = true
  · rw [if_pos hz]
    exact h
  · rw [if_neg hz]
    have hso := (slot_good h ha).resolve_left fun hh => hz (.inl hh.1)
    have hm := good_mid h
    by_cases h1 : D.st = 1
    · exfalso
      have := (h.go h1).1
      rw [List.all_eq_true] at this
      have h2 := this (D.l1.getD a ByteArray.empty) (by
        have hl : a < D.l1.length := by rw [hm.n1]; exact ha
        simp [List.getD, hl])
      have h2 : (D.l1.getD a ByteArray.empty).size = 0 := by simpa using h2
      omega
    · refine good_of ⟨by rw [List.length_set]; exact hm.n1, hm.n2, by rw [List.length_set]; exact hm.n3, fun i hi => ?_, hm.ro⟩ h.sh.1 h.sh.2.2.2.2 (good_put h) h1
      rw [getD_set _ _ _ _ _ (by rw [hm.n1]; omega), getD_set _ _ _ _ _ (by rw [hm.n3]; omega)]
      by_cases hh : a = i
      · rw [if_pos hh, if_pos hh]
        unfold badSlot
        rw [turned_size, if_neg (by omega), hso]
        rfl
      · rw [if_neg hh, if_neg hh]
        exact hm.so i hi
def newD (st : Int) : Dd := ⟨st, e12, e2, f12, []⟩
theorem good_new {st : Int} (h : 0 ≤ st ∧ st ≤ 2) : GoodD (newD st) := newGood h
end Go.Proofs.Ytkgpnloghmbmlaa.Hd
