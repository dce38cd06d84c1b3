/- Proved: what a slot of a drive has, as if all that waits had come. Conditions: at most forty wait. -/
import Derived.Test.YtkgpnloghmbmlaaExWaits
namespace Go.Proofs.Ytkgpnloghmbmlaa.Print
open Go.RowKit Go.Proofs.YtkgpnloghmbmlaaW.PrintWords Go.Proofs.YtkgpnloghmbmlaaW.PrintLast Go.Proofs.YtkgpnloghmbmlaaW.PrintMore Go.Proofs.Ytkgpnloghmbmlaa.Drv
set_option linter.unusedVariables false
set_option linter.unusedSimpArgs false

def seenStep (i : Int) (t : ByteArray) (p : S54) : ByteArray := if p.f0 = false ∧ p.f1 = i then p.f2 else t
def seenF (sl : List ByteArray) (wt : List S54) (i : Nat) : ByteArray := wt.foldl (seenStep i) (sl.getD i ByteArray.empty)

set_option maxHeartbeats 4000000 in
set_option maxRecDepth 100000 in
theorem seen_calls (g : Nat) (st : Int) (sp : List Bool) (sl rg : List ByteArray) (ns : List (Nat × Pt)) (ws : List S54) (a : Nat) (w : World) (hD : Drv w g st sp sl rg ns) (hn : ns.length ≤ 40) (ha : a < 12) (hws : ns.map (·.2) = ws) :
    Calls Try.prog 53 #[.pointer (some ⟨g, 0, none⟩), .int .i64 (a : Int)] w fun e w' => e = .returned (.string (seenF sl ws a)) ∧ Below w.heap.size w w' := by
  have hu80 := Try.underlying80
  have hu54 := Try.underlying54
  have hu76 := Try.underlying76
  have HCW := Aside0.mk (fun (W : World) (hb : Below w.heap.size w W) => hws ▸ waits_calls g st sp sl rg ns W (hD.below hb) hn)
  have HLEN : Aside0 (ws.length ≤ 40) := ⟨by rw [← hws, List.length_map]; exact hn⟩
  obtain ⟨tx, htx⟩ : ∃ t, t = sl.getD a ByteArray.empty := ⟨_, rfl⟩
  have hsl : w.cell? ⟨g, 13 + a, none⟩ = some (.string tx) := by rw [htx]; exact (blk_cell hD.blk (13 + a)).trans (dc_sl hD.lsp hD.lsl ha)
  have hsl2 : w.cell? ((⟨g, 13, none⟩ : Addr).add a) = some (.string tx) := by rw [show (⟨g, 13, none⟩ : Addr).add a = ⟨g, 13 + a, none⟩ by (unfold Addr.add; split <;> simp_all)]; exact hsl
  have HTX := Aside0.mk htx
  have ha0 : (0 : Int) ≤ (a : Int) := by omega
  have ha1 : (a : Int) < 12 := by omega
  have HA := Aside0.mk ha
  clear hD hn hws htx ha
  replace ha0 := eq_true ha0
  replace ha1 := eq_true ha1
  have HB := Aside0.mk (Below.refl w.heap.size w)
  go_enter Try.func53, Try.ntmps53
  go_wp2_with (first | (go_at_call 90; refine (HCW.out _ (by repeat (first | (with_reducible first | exact HB.out | apply below_alloc | apply pw_below_drewN | apply below_drew1) | exact HB.out))).mono ?_; rintro e w9 ⟨v9, rfl, ho, hb⟩; obtain ⟨A9, c9, rfl⟩ := Kd.R_slice ho; obtain ⟨_, hc9, hr9⟩ := Kd.R_reads' ho; have n0_ := Aside0.mk (below_step (by repeat (first | (with_reducible first | exact HB.out | apply below_alloc | apply pw_below_drewN | apply below_drew1) | exact HB.out)) hb); clear HB; have HB := n0_; have HB9 := Aside0.mk (Below.refl w9.heap.size w9); have HR9 := Aside0.mk hr9; clear n0_ hb ho hc9 hr9))
  clear hsl hsl2
  go_loopg [5, 17] ws.length (fun kq v5 v17 w' => ∃ (i : Nat), v17 = .int .i64 (i : Int) ∧ v5 = .string ((ws.take i).foldl (seenStep a) tx) ∧ Aside0 (i + kq = ws.length) ∧ Aside0 (Below w.heap.size w w') ∧ Aside0 (Below w9.heap.size w9 w'))
  case atStart => exact ⟨0, rfl, rfl, ⟨Nat.zero_add _⟩, ⟨(by repeat (first | (with_reducible first | exact HB.out | apply below_alloc | apply pw_below_drewN | apply below_drew1) | exact HB.out))⟩, ⟨(by repeat (first | (with_reducible first | exact HB9.out | apply below_alloc | apply pw_below_drewN | apply below_drew1) | exact HB9.out))⟩⟩
  case round =>
    obtain ⟨i, rfl, rfl, HI, HB, HB9⟩ := hrel
    by_cases c1 : i < ws.length
    · have c1b0 : decide ((i : Int) < (ws.length : Int)) = true := decide_eq_true (by omega)
      have p1 : (0 : Int) ≤ (i : Int) := by omega
      have q1 : (i : Int) < (ws.length : Int) := by omega
      have hm := HLEN.out
      have HWR := Aside0.mk (show wrap64 ((i : Int) + 1) = ((i + 1 : Nat) : Int) by unfold wrap64; omega)
      have HC1 := Aside0.mk c1
      clear hm
      obtain ⟨ad, e1, hx_0, hx_1, hx_2⟩ := at_T54 HR9.out (i : Int) p1 q1
      cases e1
      simp only [Int.toNat_natCast, rd_T54] at hx_0 hx_1 hx_2
      replace hx_0 := (HB9.out.cell (World.block_lt_of_cell? w9 _ hx_0)).trans hx_0
      replace hx_1 := (HB9.out.cell (World.block_lt_of_cell? w9 _ hx_1)).trans hx_1
      replace hx_2 := (HB9.out.cell (World.block_lt_of_cell? w9 _ hx_2)).trans hx_2
      replace p1 := eq_true p1
      replace q1 := eq_true q1
      clear c1
      obtain ⟨x, hE⟩ : ∃ x, x = ws.getD i z54 := ⟨_, rfl⟩
      rw [← hE] at hx_0 hx_1 hx_2
      obtain ⟨tv, htv⟩ : ∃ t, t = (ws.take i).foldl (seenStep a) tx := ⟨_, rfl⟩
      have hst : (ws.take (i + 1)).foldl (seenStep a) tx = seenStep a tv x := by
        rw [List.take_succ_eq_append_getElem HC1.out, List.foldl_append, htv, hE]
        have h1 := HC1.out
        simp [List.getD, h1]
      have hgo : x.f0 = false ∧ x.f1 = (a : Int) ∨ ¬ (x.f0 = false ∧ x.f1 = (a : Int)) := Classical.em _
      rw [← htv]
      have HST0 := Aside0.mk hst
      clear hst hE htv
      obtain ⟨f0, f1, f2⟩ := x
      simp only at hx_0 hx_1 hx_2
      cases f0 with
      | true =>
        have HST : Aside0 ((ws.take (i + 1)).foldl (seenStep a) tx = tv) := ⟨by rw [HST0.out, seenStep, if_neg (fun h => by cases h.1)]⟩
        clear HST0 hgo
        go_wp2_with (first | ((with_reducible refine gate_dst (N := 7) rfl ?_); refine box_event ?hg (N := 7) ?hd (cs := #[.bool false, .int .i64 0, .string ⟨#[]⟩]) (t := 54) ?hr ?_; (case hd => rfl); (case hg => rfl); (case hr => first | (go_simp; done) | (go_simp; rfl)); intro gp hg w20 hbox hb; have n0_ := Aside0.mk (below_step (by repeat (first | (with_reducible first | exact HB.out | apply below_alloc | apply pw_below_drewN | apply below_drew1) | exact HB.out)) hb); have n1_ := Aside0.mk (below_step (by repeat (first | (with_reducible first | exact HB9.out | apply below_alloc | apply pw_below_drewN | apply below_drew1) | exact HB9.out)) hb); have HGP : Aside0 (w.heap.size ≤ gp) := ⟨by rw [hg]; exact (below_size (by repeat (first | (with_reducible first | exact HB.out | apply below_alloc | apply pw_below_drewN | apply below_drew1) | exact HB.out)))⟩; have HGP9 : Aside0 (w9.heap.size ≤ gp) := ⟨by rw [hg]; exact (below_size (by repeat (first | (with_reducible first | exact HB9.out | apply below_alloc | apply pw_below_drewN | apply below_drew1) | exact HB9.out)))⟩; clear HB HB9; have HB := n0_; have HB9 := n1_; have BP := Aside0.mk hbox; clear n0_ n1_ hb hbox hg; have hcp_0 : w20.cell? ⟨gp, 0, none⟩ = some (.bool false) := (blk_cell BP.out 0).trans rfl; have hcp_1 : w20.cell? ⟨gp, 1, none⟩ = some (.int .i64 0) := (blk_cell BP.out 1).trans rfl; have hcp_2 : w20.cell? ⟨gp, 2, none⟩ = some (.string ⟨#[]⟩) := (blk_cell BP.out 2).trans rfl; have hfp_0 := blk_frozen BP.out 0; have hfp_1 := blk_frozen BP.out 1; have hfp_2 := blk_frozen BP.out 2))
        go_roundg (gk - 1)
        case measure => have := HI.out; have := HC1.out; omega
        case rel => exact ⟨i + 1, by rw [← HWR.out], by rw [HST.out], ⟨by have := HI.out; have := HC1.out; omega⟩, ⟨(by repeat (first | (with_reducible first | exact HB.out | apply below_alloc | apply pw_below_drewN | apply below_drew1 | refine below_set ?_ HGP.out) | exact HB.out))⟩, ⟨(by repeat (first | (with_reducible first | exact HB9.out | apply below_alloc | apply pw_below_drewN | apply below_drew1 | refine below_set ?_ HGP9.out) | exact HB9.out))⟩⟩
      | false =>
       by_cases h1 : f1 = (a : Int)
       · subst h1
         have HST : Aside0 ((ws.take (i + 1)).foldl (seenStep a) tx = f2) := ⟨by rw [HST0.out, seenStep, if_pos ⟨rfl, rfl⟩]⟩
         clear HST0 hgo
         go_wp2_with (first | ((with_reducible refine gate_dst (N := 7) rfl ?_); refine box_event ?hg (N := 7) ?hd (cs := #[.bool false, .int .i64 0, .string ⟨#[]⟩]) (t := 54) ?hr ?_; (case hd => rfl); (case hg => rfl); (case hr => first | (go_simp; done) | (go_simp; rfl)); intro gp hg w20 hbox hb; have n0_ := Aside0.mk (below_step (by repeat (first | (with_reducible first | exact HB.out | apply below_alloc | apply pw_below_drewN | apply below_drew1) | exact HB.out)) hb); have n1_ := Aside0.mk (below_step (by repeat (first | (with_reducible first | exact HB9.out | apply below_alloc | apply pw_below_drewN | apply below_drew1) | exact HB9.out)) hb); have HGP : Aside0 (w.heap.size ≤ gp) := ⟨by rw [hg]; exact (below_size (by repeat (first | (with_reducible first | exact HB.out | apply below_alloc | apply pw_below_drewN | apply below_drew1) | exact HB.out)))⟩; have HGP9 : Aside0 (w9.heap.size ≤ gp) := ⟨by rw [hg]; exact (below_size (by repeat (first | (with_reducible first | exact HB9.out | apply below_alloc | apply pw_below_drewN | apply below_drew1) | exact HB9.out)))⟩; clear HB HB9; have HB := n0_; have HB9 := n1_; have BP := Aside0.mk hbox; clear n0_ n1_ hb hbox hg; have hcp_0 : w20.cell? ⟨gp, 0, none⟩ = some (.bool false) := (blk_cell BP.out 0).trans rfl; have hcp_1 : w20.cell? ⟨gp, 1, none⟩ = some (.int .i64 0) := (blk_cell BP.out 1).trans rfl; have hcp_2 : w20.cell? ⟨gp, 2, none⟩ = some (.string ⟨#[]⟩) := (blk_cell BP.out 2).trans rfl; have hfp_0 := blk_frozen BP.out 0; have hfp_1 := blk_frozen BP.out 1; have hfp_2 := blk_frozen BP.out 2))
         go_roundg (gk - 1)
         case measure => have := HI.out; have := HC1.out; omega
         case rel => exact ⟨i + 1, by rw [← HWR.out], by rw [HST.out], ⟨by have := HI.out; have := HC1.out; omega⟩, ⟨(by repeat (first | (with_reducible first | exact HB.out | apply below_alloc | apply pw_below_drewN | apply below_drew1 | refine below_set ?_ HGP.out) | exact HB.out))⟩, ⟨(by repeat (first | (with_reducible first | exact HB9.out | apply below_alloc | apply pw_below_drewN | apply below_drew1 | refine below_set ?_ HGP9.out) | exact HB9.out))⟩⟩
       · have HST : Aside0 ((ws.take (i + 1)).foldl (seenStep a) tx = tv) := ⟨by rw [HST0.out, seenStep, if_neg (fun h => h1 h.2)]⟩
         have h1b : (f1 == (a : Int)) = false := by rw [beq_eq_false_iff_ne]; exact h1
         clear HST0 hgo h1
         go_wp2_with (first | ((with_reducible refine gate_dst (N := 7) rfl ?_); refine box_event ?hg (N := 7) ?hd (cs := #[.bool false, .int .i64 0, .string ⟨#[]⟩]) (t := 54) ?hr ?_; (case hd => rfl); (case hg => rfl); (case hr => first | (go_simp; done) | (go_simp; rfl)); intro gp hg w20 hbox hb; have n0_ := Aside0.mk (below_step (by repeat (first | (with_reducible first | exact HB.out | apply below_alloc | apply pw_below_drewN | apply below_drew1) | exact HB.out)) hb); have n1_ := Aside0.mk (below_step (by repeat (first | (with_reducible first | exact HB9.out | apply below_alloc | apply pw_below_drewN | apply below_drew1) | exact HB9.out)) hb); have HGP : Aside0 (w.heap.size ≤ gp) := ⟨by rw [hg]; exact (below_size (by repeat (first | (with_reducible first | exact HB.out | apply below_alloc | apply pw_below_drewN | apply below_drew1) | exact HB.out)))⟩; have HGP9 : Aside0 (w9.heap.size ≤ gp) := ⟨by rw [hg]; exact (below_size (by repeat (first | (with_reducible first | exact HB9.out | apply below_alloc | apply pw_below_drewN | apply below_drew1) | exact HB9.out)))⟩; clear HB HB9; have HB := n0_; have HB9 := n1_; have BP := Aside0.mk hbox; clear n0_ n1_ hb hbox hg; have hcp_0 : w20.cell? ⟨gp, 0, none⟩ = some (.bool false) := (blk_cell BP.out 0).trans rfl; have hcp_1 : w20.cell? ⟨gp, 1, none⟩ = some (.int .i64 0) := (blk_cell BP.out 1).trans rfl; have hcp_2 : w20.cell? ⟨gp, 2, none⟩ = some (.string ⟨#[]⟩) := (blk_cell BP.out 2).trans rfl; have hfp_0 := blk_frozen BP.out 0; have hfp_1 := blk_frozen BP.out 1; have hfp_2 := blk_frozen BP.out 2))
         go_roundg (gk - 1)
         case measure => have := HI.out; have := HC1.out; omega
         case rel => exact ⟨i + 1, by rw [← HWR.out], by rw [HST.out], ⟨by have := HI.out; have := HC1.out; omega⟩, ⟨(by repeat (first | (with_reducible first | exact HB.out | apply below_alloc | apply pw_below_drewN | apply below_drew1 | refine below_set ?_ HGP.out) | exact HB.out))⟩, ⟨(by repeat (first | (with_reducible first | exact HB9.out | apply below_alloc | apply pw_below_drewN | apply below_drew1 | refine below_set ?_ HGP9.out) | exact HB9.out))⟩⟩
    · have c1b0 : decide ((i : Int) < (ws.length : Int)) = false := decide_eq_false (by omega)
      have c1b1 : decide (i < ws.length) = false := decide_eq_false c1
      have HF : Aside0 ((ws.take i).foldl (seenStep a) tx = seenF sl ws a) := ⟨by rw [show i = ws.length by have := HI.out; omega, List.take_length, HTX.out]; rfl⟩
      go_wp2
      go_ret
      exact ⟨by first | rfl | (rw [HF.out]; rfl) | (rw [HF.out]), (by repeat (first | (with_reducible first | exact HB.out | apply below_alloc | apply pw_below_drewN | apply below_drew1) | exact HB.out))⟩
end Go.Proofs.Ytkgpnloghmbmlaa.Print
