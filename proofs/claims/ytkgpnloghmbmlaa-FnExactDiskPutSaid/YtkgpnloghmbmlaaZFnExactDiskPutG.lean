/- Proved, with what follows on it: the row of the law FnExactDiskPut. Conditions: the row's alone. Texts of this session and words that the kit's print laid for this seat, merged and cut by shrink.py, a program of this session. -/
import Derived.Below
import Derived.ChangeOld
import Derived.OpenShut
import Derived.ProofKit
import Derived.ShutString
import Derived.SizedLaws
import Derived.WalkKit
import Derived.Test.YtkgpnloghmbmlaaRows
import Derived.Test.YtkgpnloghmbmlaaZFnExactDiskPutF
namespace Go.Proofs.Ytkgpnloghmbmlaa.Print
open Go.RowKit Go.Proofs.YtkgpnloghmbmlaaW.PrintWords Go.Proofs.YtkgpnloghmbmlaaW.PrintLast Go.Proofs.YtkgpnloghmbmlaaW.PrintMore Go.Proofs.Ytkgpnloghmbmlaa.Drv
set_option linter.unusedVariables false
set_option linter.unusedSimpArgs false
def putF (st : Int) (sp : List Bool) (sl rg : List ByteArray) (ws : List S54) (p : S54) : List Bool × List ByteArray × List ByteArray × List S54 :=
  if st = 1 then (sp, sl, rg, ws) else if ws.length = 40 then ((comeAll ws (sp, sl, rg)).1, (comeAll ws (sp, sl, rg)).2.1, (comeAll ws (sp, sl, rg)).2.2, [p]) else (sp, sl, rg, ws ++ [p])
theorem put_calls (g : Nat) (st : Int) (sp : List Bool) (sl rg : List ByteArray) (ns : List (Nat × Pt)) (p : S54) (w : World) (hD : Drv w g st sp sl rg ns) (hn : ns.length ≤ 40) (hp : ∀ x ∈ ns, putB x.2 = true) :
    Calls Try.prog 84 #[.pointer (some ⟨g, 0, none⟩), .agg #[.bool p.f0, .int .i64 p.f1, .string p.f2]] w fun e w' => e = .returned (.tuple #[]) ∧ (∃ ns2, Drv w' g st (putF st sp sl rg (ns.map (·.2)) p).1 (putF st sp sl rg (ns.map (·.2)) p).2.1 (putF st sp sl rg (ns.map (·.2)) p).2.2.1 ns2 ∧ ns2.map (·.2) = (putF st sp sl rg (ns.map (·.2)) p).2.2.2) ∧ Below g w w' := by
  by_cases h1 : st = 1
  · refine (put_gone g st sp sl rg ns p w hD h1).mono fun e w' h => ⟨h.1, ⟨ns, ?_, ?_⟩, h.2.2⟩
    · simp only [putF, if_pos h1]; exact h.2.1
    · simp only [putF, if_pos h1]
  · by_cases h2 : ns.length = 40
    · have h2' : (ns.map (·.2)).length = 40 := by rw [List.length_map]; exact h2
      refine (put_full g st sp sl rg ns p w hD h1 h2 hp _ _ _ rfl).mono fun e w' h => ⟨h.1, ?_, h.2.2⟩
      obtain ⟨n, hd⟩ := h.2.1
      refine ⟨[(n, p)], ?_, ?_⟩
      · simp only [putF, if_neg h1, if_pos h2']; exact hd
      · simp only [putF, if_neg h1, if_pos h2']; rfl
    · have h2' : ¬ (ns.map (·.2)).length = 40 := by rw [List.length_map]; exact h2
      refine (put_some g st sp sl rg ns p w hD h1 (by omega)).mono fun e w' h => ⟨h.1, ?_, h.2.2⟩
      obtain ⟨n, hd⟩ := h.2.1
      refine ⟨ns ++ [(n, p)], ?_, ?_⟩
      · simp only [putF, if_neg h1, if_neg h2']; exact hd
      · simp only [putF, if_neg h1, if_neg h2', List.map_append]; rfl
set_option maxHeartbeats 4000000 in
theorem putFn_no (g gp : Nat) (p : S54) (w : World) (hg : g ≤ w.heap.size) (hb : w.heap[gp]? = some (.cells #[.bool p.f0, .int .i64 p.f1, .string p.f2] 54 (0, 0))) (hp : putB p = false) :
    Calls Try.prog 82 #[.pointer (some ⟨g, 0, none⟩), .pointer (some ⟨gp, 0, none⟩)] w fun e w' => e = .returned (.bool false) ∧ Below g w w' := by
  have hu54 := Try.underlying54
  have HP : Az (impl_putOk.f p.f0 p.f1 p.f2 = some false) := ⟨by rw [putB_eq, hp]⟩
  have HG := Az.mk hg
  have hc_0 : w.cell? ⟨gp, 0, none⟩ = some (.bool p.f0) := (zq4 hb 0).trans rfl
  have hc_1 : w.cell? ⟨gp, 1, none⟩ = some (.int .i64 p.f1) := (zq4 hb 1).trans rfl
  have hc_2 : w.cell? ⟨gp, 2, none⟩ = some (.string p.f2) := (zq4 hb 2).trans rfl
  clear hg hb hp
  have HB := Az.mk (Below.refl g w)
  go_enter Try.func82, Try.ntmps82
  go_wp2_with (first | (go_at_call 83; refine (impl_putOk.calls _ _ _ _ _ HP.out).mono ?_; rintro e w9 ⟨rfl, hb⟩; have n0_ := Az.mk (below_glue (by repeat (first | (with_reducible first | exact HB.out | apply zq1 | apply below_drew1) | exact HB.out)) HG.out hb); clear HB; have HB := n0_; clear n0_ hb))
  go_ret
  exact ⟨rfl, (by repeat (first | (with_reducible first | exact HB.out | apply zq1 | apply below_drew1) | exact HB.out))⟩
set_option maxHeartbeats 4000000 in
theorem putFn (g gp : Nat) (st : Int) (sp : List Bool) (sl rg : List ByteArray) (ns : List (Nat × Pt)) (p : S54) (w : World) (hD : Drv w g st sp sl rg ns) (hn : ns.length ≤ 40) (hq : ∀ x ∈ ns, putB x.2 = true) (hb : w.heap[gp]? = some (.cells #[.bool p.f0, .int .i64 p.f1, .string p.f2] 54 (0, 0))) (hp : putB p = true) :
    Calls Try.prog 82 #[.pointer (some ⟨g, 0, none⟩), .pointer (some ⟨gp, 0, none⟩)] w fun e w' => e = .returned (.bool true) ∧ (∃ ns2, Drv w' g st (putF st sp sl rg (ns.map (·.2)) p).1 (putF st sp sl rg (ns.map (·.2)) p).2.1 (putF st sp sl rg (ns.map (·.2)) p).2.2.1 ns2 ∧ ns2.map (·.2) = (putF st sp sl rg (ns.map (·.2)) p).2.2.2) ∧ Below g w w' := by
  have hu54 := Try.underlying54
  have HP : Az (impl_putOk.f p.f0 p.f1 p.f2 = some true) := ⟨by rw [putB_eq, hp]⟩
  have HG := Az.mk (Nat.le_of_lt (blk_lt hD.blk))
  have HD := Az.mk hD
  have HPU := Az.mk (fun (W : World) (h : Drv W g st sp sl rg ns) => put_calls g st sp sl rg ns p W h hn hq)
  have hc_0 : w.cell? ⟨gp, 0, none⟩ = some (.bool p.f0) := (zq4 hb 0).trans rfl
  have hc_1 : w.cell? ⟨gp, 1, none⟩ = some (.int .i64 p.f1) := (zq4 hb 1).trans rfl
  have hc_2 : w.cell? ⟨gp, 2, none⟩ = some (.string p.f2) := (zq4 hb 2).trans rfl
  have BK := Az.mk hb
  clear hD hb hp hn hq
  have HB := Az.mk (Below.refl g w)
  go_enter Try.func82, Try.ntmps82
  go_wp2_with (first | (go_at_call 83; refine (impl_putOk.calls _ _ _ _ _ HP.out).mono ?_; rintro e w9 ⟨rfl, hb⟩; have n0_ := Az.mk (below_glue (by repeat (first | (with_reducible first | exact HB.out | apply zq1 | apply below_drew1) | exact HB.out)) HG.out hb); have nd_ := Az.mk (Drv.below (g := g) (st := st) (sp := sp) (sl := sl) (rg := rg) (ns := ns) (by (with_reducible repeat (first | refine drv_drewN ?_ _ | refine drv_drew ?_)); exact HD.out) hb); have nk_ := Az.mk (blk_below (g := gp) (o := .cells #[.bool p.f0, .int .i64 p.f1, .string p.f2] 54 (0, 0)) (by (with_reducible repeat (first | refine zq6 ?_ _ | refine zq8 ?_ | refine zq7 ?_ _)); exact BK.out) hb); clear HB HD BK; have HB := n0_; have HD := nd_; have BK := nk_; clear n0_ nd_ nk_ hb; have hd_0 : w9.cell? ⟨gp, 0, none⟩ = some (.bool p.f0) := (zq4 BK.out 0).trans rfl; have hd_1 : w9.cell? ⟨gp, 1, none⟩ = some (.int .i64 p.f1) := (zq4 BK.out 1).trans rfl; have hd_2 : w9.cell? ⟨gp, 2, none⟩ = some (.string p.f2) := (zq4 BK.out 2).trans rfl) | (go_at_call 84; refine (HPU.out _ (by (with_reducible repeat (first | refine drv_drewN ?_ _ | refine drv_drew ?_)); exact HD.out)).mono ?_; rintro e w10 ⟨rfl, hd, hb⟩; have n0_ := Az.mk (Below.trans (by repeat (first | (with_reducible first | exact HB.out | apply zq1 | apply below_drew1) | exact HB.out)) hb); have HE := Az.mk hd; clear HB hb hd; have HB := n0_; clear n0_))
  go_ret
  refine ⟨rfl, ?_, (by repeat (first | (with_reducible first | exact HB.out | apply zq1 | apply below_drew1) | exact HB.out))⟩
  obtain ⟨ns2, h1, h2⟩ := HE.out
  exact ⟨ns2, (by (with_reducible repeat (first | refine drv_drewN ?_ _ | refine drv_drew ?_)); exact h1), h2⟩
def impl_DiskPut.f (a0_0 : Int) (l0_1 l0_2 : List ByteArray) (l0_3 : List Bool) (l0_4 : List S54) (a1_0 : Bool) (a1_1 : Int) (a1_2 : ByteArray) : Option (Int × List ByteArray × List ByteArray × List Bool × List S54) :=
  if Good a0_0 l0_1 l0_2 l0_3 l0_4 ∧ putB ⟨a1_0, a1_1, a1_2⟩ = true then some (a0_0, (putF a0_0 l0_3 l0_1 l0_2 l0_4 ⟨a1_0, a1_1, a1_2⟩).2.1, (putF a0_0 l0_3 l0_1 l0_2 l0_4 ⟨a1_0, a1_1, a1_2⟩).2.2.1, (putF a0_0 l0_3 l0_1 l0_2 l0_4 ⟨a1_0, a1_1, a1_2⟩).1, (putF a0_0 l0_3 l0_1 l0_2 l0_4 ⟨a1_0, a1_1, a1_2⟩).2.2.2) else some (0, [], [], [], [])
theorem putF_len {st : Int} {sp : List Bool} {sl rg : List ByteArray} {ws : List S54} {p : S54} (h : ws.length ≤ 40) : (putF st sp sl rg ws p).2.2.2.length ≤ 40 := by
  unfold putF
  split
  · exact h
  · split
    · simp
    · simp only [List.length_append, List.length_cons, List.length_nil]
      omega
set_option maxHeartbeats 4000000 in
set_option maxRecDepth 100000 in
theorem impl_DiskPut.calls (a0_0 : Int) (A0_1 : Option Addr) (c0_1 : Nat) (l0_1 : List ByteArray) (A0_2 : Option Addr) (c0_2 : Nat) (l0_2 : List ByteArray) (A0_3 : Option Addr) (c0_3 : Nat) (l0_3 : List Bool) (A0_4 : Option Addr) (c0_4 : Nat) (l0_4 : List (S54)) (a1_0 : Bool) (a1_1 : Int) (a1_2 : ByteArray) (r1 : Int) (r2 : List ByteArray) (r3 : List ByteArray) (r4 : List Bool) (r5 : List (S54)) (w : World) (hr0_1 : Kd.C Kd.string w A0_1 l0_1.length l0_1) (hc0_1 : l0_1.length ≤ c0_1) (hr0_2 : Kd.C Kd.string w A0_2 l0_2.length l0_2) (hc0_2 : l0_2.length ≤ c0_2) (hr0_3 : Kd.C Kd.bool w A0_3 l0_3.length l0_3) (hc0_3 : l0_3.length ≤ c0_3) (hr0_4 : Kd.C k54 w A0_4 l0_4.length l0_4) (hc0_4 : l0_4.length ≤ c0_4) (h : impl_DiskPut.f a0_0 l0_1 l0_2 l0_3 l0_4 a1_0 a1_1 a1_2 = some (r1, r2, r3, r4, r5)) :
    Calls Try.prog 38 #[.agg #[.int .i64 a0_0, .slice A0_1 l0_1.length c0_1, .slice A0_2 l0_2.length c0_2, .slice A0_3 l0_3.length c0_3, .slice A0_4 l0_4.length c0_4], .agg #[.bool a1_0, .int .i64 a1_1, .string a1_2]] w fun e w' => ∃ v1_ v2_ v3_ v4_ : Value, e = .returned (.agg #[.int .i64 r1, v1_, v2_, v3_, v4_]) ∧ Kd.R Kd.string 9 w' w.heap.size (fun k_ => some k_ ≠ (v2_ : Value).ownBlock) v1_ r2 ∧ Kd.R Kd.string 9 w' w.heap.size (fun k_ => some k_ ≠ (v1_ : Value).ownBlock) v2_ r3 ∧ Kd.R Kd.bool 4 w' w.heap.size (fun _ => True) v3_ r4 ∧ Kd.R k54 54 w' w.heap.size (fun _ => True) v4_ r5 ∧ Below w.heap.size w w' := by
  have key : ∀ (W : World), Below w.heap.size w W → ∀ gp : Nat, W.heap[gp]? = some (.cells #[.bool a1_0, .int .i64 a1_1, .string a1_2] 54 (0, 0)) → Calls Try.prog 76 #[.agg #[.int .i64 a0_0, .slice A0_1 l0_1.length c0_1, .slice A0_2 l0_2.length c0_2, .slice A0_3 l0_3.length c0_3, .slice A0_4 l0_4.length c0_4], .func (.func 82) #[] #[.pointer (some ⟨gp, 0, none⟩)]] W fun e w' => ∃ v1_ v2_ v3_ v4_ : Value, e = .returned (.agg #[.int .i64 r1, v1_, v2_, v3_, v4_]) ∧ Kd.R Kd.string 9 w' W.heap.size (fun k_ => some k_ ≠ (v2_ : Value).ownBlock) v1_ r2 ∧ Kd.R Kd.string 9 w' W.heap.size (fun k_ => some k_ ≠ (v1_ : Value).ownBlock) v2_ r3 ∧ Kd.R Kd.bool 4 w' W.heap.size (fun _ => True) v3_ r4 ∧ Kd.R k54 54 w' W.heap.size (fun _ => True) v4_ r5 ∧ Below W.heap.size W w' := fun W hb gp hgp => by
    by_cases hg : Good a0_0 l0_1 l0_2 l0_3 l0_4
    · have hq : ∀ (ns : List (Nat × Pt)), ns.map (·.2) = l0_4 → ∀ x ∈ ns, putB x.2 = true := fun ns hns x hx => by
        have h1 := hg.wa
        rw [List.any_eq_false] at h1
        have h2 := h1 x.2 (by rw [← hns]; exact List.mem_map_of_mem hx)
        simpa using h2
      by_cases hp : putB ⟨a1_0, a1_1, a1_2⟩ = true
      · rw [impl_DiskPut.f, if_pos ⟨hg, hp⟩] at h
        simp only [Option.some.injEq, Prod.mk.injEq] at h
        obtain ⟨rfl, rfl, rfl, rfl, rfl⟩ := h
        refine changed_put a0_0 A0_1 c0_1 l0_1 A0_2 c0_2 l0_2 A0_3 c0_3 l0_3 A0_4 c0_4 l0_4 (.pointer (some ⟨gp, 0, none⟩)) W (Kd.C_below hr0_1 hb) hc0_1 (Kd.C_below hr0_2 hb) hc0_2 (Kd.C_below hr0_3 hb) hc0_3 (Kd.C_below hr0_4 hb) hc0_4 hg _ _ _ _ (putF_len hg.sh.2.2.2.2) (fun W2 hb2 g ns hD hns _ => ?_)
        have hl : ns.length ≤ 40 := by
          have h1 := congrArg List.length hns
          rw [List.length_map] at h1
          have h2 := hg.sh.2.2.2.2
          omega
        refine (putFn g gp a0_0 l0_3 l0_1 l0_2 ns ⟨a1_0, a1_1, a1_2⟩ W2 hD hl (hq ns hns) ((hb2.block gp (blk_lt hgp)).trans hgp) hp).mono fun e w' hh => ?_
        obtain ⟨h1, ⟨ns2, h2, h3⟩, h4⟩ := hh
        rw [hns] at h2 h3
        exact ⟨ns2, h1, h2, h3, h4⟩
      · rw [impl_DiskPut.f, if_neg (fun hh => hp hh.2)] at h
        simp only [Option.some.injEq, Prod.mk.injEq] at h
        obtain ⟨rfl, rfl, rfl, rfl, rfl⟩ := h
        exact changed_put_no a0_0 A0_1 c0_1 l0_1 A0_2 c0_2 l0_2 A0_3 c0_3 l0_3 A0_4 c0_4 l0_4 (.pointer (some ⟨gp, 0, none⟩)) W (Kd.C_below hr0_1 hb) hc0_1 (Kd.C_below hr0_2 hb) hc0_2 (Kd.C_below hr0_3 hb) hc0_3 (Kd.C_below hr0_4 hb) hc0_4 hg (fun W2 hb2 g ns hD hns _ => putFn_no g gp ⟨a1_0, a1_1, a1_2⟩ W2 (Nat.le_of_lt (blk_lt hD.blk)) ((hb2.block gp (blk_lt hgp)).trans hgp) (by simpa using hp))
    · rw [impl_DiskPut.f, if_neg (fun hh => hg hh.1)] at h
      simp only [Option.some.injEq, Prod.mk.injEq] at h
      obtain ⟨rfl, rfl, rfl, rfl, rfl⟩ := h
      exact changed_bad a0_0 A0_1 c0_1 l0_1 A0_2 c0_2 l0_2 A0_3 c0_3 l0_3 A0_4 c0_4 l0_4 _ W (Kd.C_below hr0_1 hb) hc0_1 (Kd.C_below hr0_2 hb) hc0_2 (Kd.C_below hr0_3 hb) hc0_3 (Kd.C_below hr0_4 hb) hc0_4 hg
  have HK := Az.mk key
  have HB := Az.mk (Below.refl w.heap.size w)
  clear hr0_1 hc0_1 hr0_2 hc0_2 hr0_3 hc0_3 hr0_4 hc0_4 h key
  have hu28 := Try.underlying28
  have hu54 := Try.underlying54
  go_enter Try.func38, Try.ntmps38
  go_wp2_with (first | ((with_reducible refine zqg (N := 2) rfl ?_); refine zqb ?hg (N := 2) ?hd (cs := #[.int .i64 a0_0, .slice A0_1 l0_1.length c0_1, .slice A0_2 l0_2.length c0_2, .slice A0_3 l0_3.length c0_3, .slice A0_4 l0_4.length c0_4]) (t := 28) ?hr ?_; (case hd => rfl); (case hg => rfl); (case hr => first | (go_simp; done) | (go_simp; rfl)); intro gb hg w1 hbox hb; have n0_ := Az.mk (below_step (by repeat (first | (with_reducible first | exact HB.out | apply zq2 | apply zq1 | apply below_drew1) | exact HB.out)) hb); have BD := Az.mk hbox; clear HB; have HB := n0_; clear n0_ hb hbox hg; have hcd_0 : w1.cell? ⟨gb, 0, none⟩ = some (.int .i64 a0_0) := (zq4 BD.out 0).trans rfl; have hcd_1 : w1.cell? ⟨gb, 1, none⟩ = some (.slice A0_1 l0_1.length c0_1) := (zq4 BD.out 1).trans rfl; have hcd_2 : w1.cell? ⟨gb, 2, none⟩ = some (.slice A0_2 l0_2.length c0_2) := (zq4 BD.out 2).trans rfl; have hcd_3 : w1.cell? ⟨gb, 3, none⟩ = some (.slice A0_3 l0_3.length c0_3) := (zq4 BD.out 3).trans rfl; have hcd_4 : w1.cell? ⟨gb, 4, none⟩ = some (.slice A0_4 l0_4.length c0_4) := (zq4 BD.out 4).trans rfl) | ((with_reducible refine zqg (N := 3) rfl ?_); refine zqb ?hg (N := 3) ?hd (cs := #[.bool a1_0, .int .i64 a1_1, .string a1_2]) (t := 54) ?hr ?_; (case hd => rfl); (case hg => rfl); (case hr => first | (go_simp; done) | (go_simp; rfl)); intro gp hg w3 hbox hb; have n0_ := Az.mk (below_step (by repeat (first | (with_reducible first | exact HB.out | apply zq2 | apply zq1 | apply below_drew1) | exact HB.out)) hb); have BP := Az.mk hbox; have nd_ := Az.mk (blk_below (g := gb) (o := .cells #[.int .i64 a0_0, .slice A0_1 l0_1.length c0_1, .slice A0_2 l0_2.length c0_2, .slice A0_3 l0_3.length c0_3, .slice A0_4 l0_4.length c0_4] 28 (0, 0)) (by (with_reducible repeat (first | refine zq6 ?_ _ | refine zq8 ?_ | refine zq7 ?_ _)); exact BD.out) hb); clear HB BD; have HB := n0_; have BD := nd_; clear n0_ nd_ hb hbox hg) | ((with_reducible refine zqg (N := 4) rfl ?_); refine zqb ?hg (N := 4) ?hd (cs := #[.int .i64 0, .slice none 0 0, .slice none 0 0, .slice none 0 0, .slice none 0 0]) (t := 28) ?hr ?_; (case hd => rfl); (case hg => rfl); (case hr => first | (go_simp; done) | (go_simp; rfl)); intro gr hg w2 hbox hb; have n0_ := Az.mk (below_step (by repeat (first | (with_reducible first | exact HB.out | apply zq2 | apply zq1 | apply below_drew1) | exact HB.out)) hb); have BK := Az.mk hbox; have HGR : Az (w.heap.size ≤ gr) := ⟨by rw [hg]; exact (below_size (by repeat (first | (with_reducible first | exact HB.out | apply zq2 | apply zq1 | apply below_drew1) | exact HB.out)))⟩; have nd_ := Az.mk (blk_below (g := gb) (o := .cells #[.int .i64 a0_0, .slice A0_1 l0_1.length c0_1, .slice A0_2 l0_2.length c0_2, .slice A0_3 l0_3.length c0_3, .slice A0_4 l0_4.length c0_4] 28 (0, 0)) (by (with_reducible repeat (first | refine zq6 ?_ _ | refine zq8 ?_ | refine zq7 ?_ _)); exact BD.out) hb); have np_ := Az.mk (blk_below (g := gp) (o := .cells #[.bool a1_0, .int .i64 a1_1, .string a1_2] 54 (0, 0)) (by (with_reducible repeat (first | refine zq6 ?_ _ | refine zq8 ?_ | refine zq7 ?_ _)); exact BP.out) hb); clear HB BD BP; have HB := n0_; have BD := nd_; have BP := np_; clear n0_ nd_ np_ hb hbox hg; have hcd_0 : w2.cell? ⟨gb, 0, none⟩ = some (.int .i64 a0_0) := (zq4 BD.out 0).trans rfl; have hcd_1 : w2.cell? ⟨gb, 1, none⟩ = some (.slice A0_1 l0_1.length c0_1) := (zq4 BD.out 1).trans rfl; have hcd_2 : w2.cell? ⟨gb, 2, none⟩ = some (.slice A0_2 l0_2.length c0_2) := (zq4 BD.out 2).trans rfl; have hcd_3 : w2.cell? ⟨gb, 3, none⟩ = some (.slice A0_3 l0_3.length c0_3) := (zq4 BD.out 3).trans rfl; have hcd_4 : w2.cell? ⟨gb, 4, none⟩ = some (.slice A0_4 l0_4.length c0_4) := (zq4 BD.out 4).trans rfl; have hcd_0 : w2.cell? ⟨gb, 0, none⟩ = some (.int .i64 a0_0) := (zq4 BD.out 0).trans rfl; have hcd_1 : w2.cell? ⟨gb, 1, none⟩ = some (.slice A0_1 l0_1.length c0_1) := (zq4 BD.out 1).trans rfl; have hcd_2 : w2.cell? ⟨gb, 2, none⟩ = some (.slice A0_2 l0_2.length c0_2) := (zq4 BD.out 2).trans rfl; have hcd_3 : w2.cell? ⟨gb, 3, none⟩ = some (.slice A0_3 l0_3.length c0_3) := (zq4 BD.out 3).trans rfl; have hcd_4 : w2.cell? ⟨gb, 4, none⟩ = some (.slice A0_4 l0_4.length c0_4) := (zq4 BD.out 4).trans rfl) | (go_at_call 76; refine (HK.out _ (by repeat (first | (with_reducible first | exact HB.out | apply zq2 | apply zq1 | apply below_drew1) | exact HB.out)) gp (by (with_reducible repeat (first | refine zq6 ?_ _ | refine zq8 ?_ | refine zq7 ?_ _)); exact BP.out)).mono ?_; rintro e w12 ⟨v1, v2, v3, v4, rfl, ho1, ho2, ho3, ho4, hb⟩; obtain ⟨A1, c1, rfl⟩ := Kd.R_slice ho1; obtain ⟨A2, c2, rfl⟩ := Kd.R_slice ho2; obtain ⟨A3, c3, rfl⟩ := Kd.R_slice ho3; obtain ⟨A4, c4, rfl⟩ := Kd.R_slice ho4; have n0_ := Az.mk (below_step (by repeat (first | (with_reducible first | exact HB.out | apply zq2 | apply zq1 | apply below_drew1) | exact HB.out)) hb); have n1_ := Az.mk (blk_below (g := gr) (o := .cells #[.int .i64 0, .slice none 0 0, .slice none 0 0, .slice none 0 0, .slice none 0 0] 28 (0, 0)) (by (with_reducible repeat (first | refine zq6 ?_ _ | refine zq8 ?_ | refine zq7 ?_ _)); exact BK.out) hb); have HG5 : Az (gr < _) := ⟨blk_lt (by (with_reducible repeat (first | refine zq6 ?_ _ | refine zq8 ?_ | refine zq7 ?_ _)); exact BK.out)⟩; have HS5 : Az (w.heap.size ≤ _) := ⟨below_size (by repeat (first | (with_reducible first | exact HB.out | apply zq2 | apply zq1 | apply below_drew1) | exact HB.out))⟩; have HO1 := Az.mk ho1; have HO2 := Az.mk ho2; have HO3 := Az.mk ho3; have HO4 := Az.mk ho4; clear HB BK; have HB := n0_; have BK := n1_; clear n0_ n1_ ho1 ho2 ho3 ho4 hb; have hcz_0 : w12.cell? ⟨gr, 0, none⟩ = some (.int .i64 0) := (zq4 BK.out 0).trans rfl; have hcz_1 : w12.cell? ⟨gr, 1, none⟩ = some (.slice none 0 0) := (zq4 BK.out 1).trans rfl; have hcz_2 : w12.cell? ⟨gr, 2, none⟩ = some (.slice none 0 0) := (zq4 BK.out 2).trans rfl; have hcz_3 : w12.cell? ⟨gr, 3, none⟩ = some (.slice none 0 0) := (zq4 BK.out 3).trans rfl; have hcz_4 : w12.cell? ⟨gr, 4, none⟩ = some (.slice none 0 0) := (zq4 BK.out 4).trans rfl; have hfz_0 := zq5 BK.out 0; have hfz_1 := zq5 BK.out 1; have hfz_2 := zq5 BK.out 2; have hfz_3 := zq5 BK.out 3; have hfz_4 := zq5 BK.out 4))
  have hset : ∀ {W : World} (h : Below w.heap.size w W) (j : Nat) (u : Value), Below w.heap.size w (W.setCell ⟨gr, j, none⟩ u) := fun h j u => zq3 h HGR.out
  refine bodyPost_ret (results_cell_row rfl _ _ gr 28 #[.int .i64 r1, .slice A1 r2.length c1, .slice A2 r3.length c2, .slice A3 r4.length c3, .slice A4 r5.length c4] (0, 0) _ rfl (by
    refine blk_put (cs := #[.int .i64 r1, .slice A1 r2.length c1, .slice A2 r3.length c2, .slice A3 r4.length c3, .slice none 0 0]) ?_ 4 _ rfl
    refine blk_put (cs := #[.int .i64 r1, .slice A1 r2.length c1, .slice A2 r3.length c2, .slice none 0 0, .slice none 0 0]) ?_ 3 _ rfl
    refine blk_put (cs := #[.int .i64 r1, .slice A1 r2.length c1, .slice none 0 0, .slice none 0 0, .slice none 0 0]) ?_ 2 _ rfl
    refine blk_put (cs := #[.int .i64 r1, .slice none 0 0, .slice none 0 0, .slice none 0 0, .slice none 0 0]) ?_ 1 _ rfl
    refine blk_put (cs := #[.int .i64 0, .slice none 0 0, .slice none 0 0, .slice none 0 0, .slice none 0 0]) ?_ 0 _ rfl
    exact BK.out) Try.underlying28 rfl (by kernel_rfl)) rfl ?_
  exact ⟨_, _, _, _, rfl, Kd.R_lower (R_setOwn (R_setOwn (R_setOwn (R_setOwn (R_setOwn HO1.out HG5.out 0 _) HG5.out 1 _) HG5.out 2 _) HG5.out 3 _) HG5.out 4 _) HS5.out,
    Kd.R_lower (R_setOwn (R_setOwn (R_setOwn (R_setOwn (R_setOwn HO2.out HG5.out 0 _) HG5.out 1 _) HG5.out 2 _) HG5.out 3 _) HG5.out 4 _) HS5.out,
    Kd.R_lower (R_setOwn (R_setOwn (R_setOwn (R_setOwn (R_setOwn HO3.out HG5.out 0 _) HG5.out 1 _) HG5.out 2 _) HG5.out 3 _) HG5.out 4 _) HS5.out,
    Kd.R_lower (R_setOwn (R_setOwn (R_setOwn (R_setOwn (R_setOwn HO4.out HG5.out 0 _) HG5.out 1 _) HG5.out 2 _) HG5.out 3 _) HG5.out 4 _) HS5.out,
    hset (hset (hset (hset (hset HB.out 0 _) 1 _) 2 _) 3 _) 4 _⟩
end Go.Proofs.Ytkgpnloghmbmlaa.Print
namespace Go.Proofs.Ytkgpnloghmbmlaa.Hd
open Go.RowKit Go.Proofs.Ytkgpnloghmbmlaa.Print Go.Proofs.YtkgpnloghmbmlaaW.PrintWords Go.Proofs.Ytkgpnloghmbmlaa.Pure Go.Proofs.Ytkgpnloghmbmlaa.Drv
set_option linter.unusedVariables false
set_option linter.unusedSimpArgs false
theorem come_eq {st : Int} {l1 l2 : List ByteArray} {l3 : List Bool} {l4 : List S54} {p : S54} (hp : putB p = true) (h1 : l1.length = 12) (h2 : l2.length = 2) (h3 : l3.length = 12) :
    spec_l3Come.f st l1 l2 l3 l4 p.f0 p.f1 p.f2 = some (st, comeSl p l1, comeRg p l2, comeSp p l3, l4) := by
  unfold putB at hp
  unfold spec_l3Come.f comeSl comeRg comeSp
  by_cases h : p.f0 = true
  · rw [if_pos h, decide_eq_true_iff] at hp
    rw [if_pos h, if_pos h, if_pos h, if_pos h, if_pos (by omega), if_pos (by omega)]
  · rw [if_neg h, decide_eq_true_iff] at hp
    rw [if_neg h, if_neg h, if_neg h, if_neg h, if_pos (by omega), if_pos (by omega), if_pos (by omega)]
theorem come_len {l1 l2 : List ByteArray} {l3 : List Bool} {p : S54} : (comeSl p l1).length = l1.length ∧ (comeRg p l2).length = l2.length ∧ (comeSp p l3).length = l3.length := by
  unfold comeSl comeRg comeSp
  refine ⟨?_, ?_, ?_⟩ <;> split <;> simp
theorem comeAll_len : ∀ (ps : List S54) (x : List Bool × List ByteArray × List ByteArray), (comeAll ps x).1.length = x.1.length ∧ (comeAll ps x).2.1.length = x.2.1.length ∧ (comeAll ps x).2.2.length = x.2.2.length
  | [], x => ⟨rfl, rfl, rfl⟩
  | p :: ps, x => by
    have h := comeAll_len ps (comeSp p x.1, comeSl p x.2.1, comeRg p x.2.2)
    have e := come_len (l1 := x.2.1) (l2 := x.2.2) (l3 := x.1) (p := p)
    exact ⟨h.1.trans e.2.2, h.2.1.trans e.1, h.2.2.trans e.2.1⟩
theorem flush_l0 {st : Int} {l4 : List S54} (hl : l4.length ≤ 1048576) (hp : ∀ x ∈ l4, putB x = true) (d : Nat) : ∀ (i : Nat) (l1 l2 : List ByteArray) (l3 : List Bool), i + d = l4.length → l1.length = 12 → l2.length = 2 → l3.length = 12 →
    Ev (fun k => spec_l3Flush.l0 k (i : Int) st l1 l2 l3 l4) (st, (comeAll (l4.drop i) (l3, l1, l2)).2.1, (comeAll (l4.drop i) (l3, l1, l2)).2.2, (comeAll (l4.drop i) (l3, l1, l2)).1, []) := by
  induction d with
  | zero =>
    intro i l1 l2 l3 hi h1 h2 h3
    rw [List.drop_eq_nil_of_le (by omega)]
    refine Ev.next ?_
    simp only [spec_l3Flush.l0]
    exact Ev.neg (by omega) (Ev.ret rfl)
  | succ d ih =>
    intro i l1 l2 l3 hi h1 h2 h3
    have hlt : i < l4.length := by omega
    have e : wrap64 ((i : Int) + 1) = ((i + 1 : Nat) : Int) := by rw [wrap_ok (by omega)]; omega
    have hx : rd_T54 l4 (i : Int) = l4[i] := by simp [rd_T54, List.getD, hlt]
    have hc := come_len (l1 := l1) (l2 := l2) (l3 := l3) (p := l4[i])
    have hih := ih (i + 1) (comeSl l4[i] l1) (comeRg l4[i] l2) (comeSp l4[i] l3) (by omega) (hc.1.trans h1) (hc.2.1.trans h2) (hc.2.2.trans h3)
    rw [List.drop_eq_getElem_cons hlt]
    refine Ev.next ?_
    simp only [spec_l3Flush.l0, e, hx]
    clear e hx
    exact Ev.pos (by omega) (Ev.pos (by omega) (Ev.take (come_eq (hp _ (List.getElem_mem hlt)) h1 h2 h3) hih))
theorem flush_ev {st : Int} {l1 l2 : List ByteArray} {l3 : List Bool} {l4 : List S54} (hl : l4.length ≤ 1048576) (hp : ∀ x ∈ l4, putB x = true) (h1 : l1.length = 12) (h2 : l2.length = 2) (h3 : l3.length = 12) :
    Ev (fun k => spec_l3Flush.f k st l1 l2 l3 l4) (st, (comeAll l4 (l3, l1, l2)).2.1, (comeAll l4 (l3, l1, l2)).2.2, (comeAll l4 (l3, l1, l2)).1, []) := by
  unfold spec_l3Flush.f
  have h := flush_l0 (st := st) hl hp l4.length 0 l1 l2 l3 (Nat.zero_add _) h1 h2 h3
  rwa [List.drop_zero] at h
theorem good_put {st : Int} {l1 l2 : List ByteArray} {l3 : List Bool} {l4 : List S54} (h : Print.Good st l1 l2 l3 l4) : ∀ x ∈ l4, putB x = true := fun x hx => by
  have h1 := h.wa
  rw [List.any_eq_false] at h1
  simpa using h1 x hx
def GoodD (D : Dd) : Prop := Print.Good D.st D.l1 D.l2 D.l3 D.l4
instance (D : Dd) : Decidable (GoodD D) := by unfold GoodD; infer_instance
def noD : Dd := ⟨0, [], [], [], []⟩
def comeD (D : Dd) : Dd := ⟨D.st, (comeAll D.l4 (D.l3, D.l1, D.l2)).2.1, (comeAll D.l4 (D.l3, D.l1, D.l2)).2.2, (comeAll D.l4 (D.l3, D.l1, D.l2)).1, []⟩
def laidD (D : Dd) (p : S54) : Dd := if D.st = 1 then D else if D.l4.length = 40 then { comeD D with l4 := [p] } else { D with l4 := D.l4 ++ [p] }
def putD (D : Dd) (p : S54) : Dd := if GoodD D ∧ putB p = true then laidD D p else noD
theorem copy_eq {D : Dd} (hf : FitsD D) : spec_l3Copy.f D.st D.l1 D.l2 D.l3 D.l4 = some (D.st, D.l1, D.l2, D.l3, D.l4) := by
  unfold spec_l3Copy.f
  exact if_pos ⟨hf.h1, hf.h2, hf.h3, hf.h4⟩
theorem fits_no : FitsD noD := ⟨by simp [noD], by simp [noD], by simp [noD], by simp [noD]⟩
theorem comeD_len (D : Dd) : (comeD D).l1.length = D.l1.length ∧ (comeD D).l2.length = D.l2.length ∧ (comeD D).l3.length = D.l3.length := by
  have h := comeAll_len D.l4 (D.l3, D.l1, D.l2)
  exact ⟨h.2.1, h.2.2, h.1⟩
theorem fits_come {D : Dd} (h : FitsD D) : FitsD (comeD D) := by
  have hc := comeD_len D
  exact ⟨by rw [hc.1]; exact h.h1, by rw [hc.2.1]; exact h.h2, by rw [hc.2.2]; exact h.h3, by simp [comeD]⟩
theorem fits_laid {D : Dd} {p : S54} (h : FitsD D) (hl : D.l4.length ≤ 40) : FitsD (laidD D p) := by
  have hc := fits_come h
  unfold laidD
  split
  · exact h
  · split
    · exact ⟨hc.h1, hc.h2, hc.h3, by simp⟩
    · exact ⟨h.h1, h.h2, h.h3, by simp only [List.length_append, List.length_singleton]; omega⟩
theorem fits_put {D : Dd} {p : S54} (h : FitsD D) : FitsD (putD D p) := by
  unfold putD
  split
  · rename_i hg
    exact fits_laid h hg.1.sh.2.2.2.2
  · exact fits_no
theorem implPut_eq (D : Dd) (p : S54) : impl_DiskPut.f D.st D.l1 D.l2 D.l3 D.l4 p.f0 p.f1 p.f2 = some ((putD D p).st, (putD D p).l1, (putD D p).l2, (putD D p).l3, (putD D p).l4) := by
  unfold impl_DiskPut.f putD
  by_cases h : GoodD D ∧ putB p = true
  · have h' : Print.Good D.st D.l1 D.l2 D.l3 D.l4 ∧ putB ⟨p.f0, p.f1, p.f2⟩ = true := h
    rw [if_pos h', if_pos h]
    unfold putF laidD
    by_cases h1 : D.st = 1
    · simp only [if_pos h1]
    · by_cases h2 : D.l4.length = 40
      · simp only [if_neg h1, if_pos h2]
        rfl
      · simp only [if_neg h1, if_neg h2]
  · have h' : ¬ (Print.Good D.st D.l1 D.l2 D.l3 D.l4 ∧ putB ⟨p.f0, p.f1, p.f2⟩ = true) := h
    rw [if_neg h', if_neg h]
    rfl
theorem write_ev {D : Dd} (hf : FitsD D) (hp : ∀ x ∈ D.l4, putB x = true) (h1 : D.l1.length = 12) (h2 : D.l2.length = 2) (h3 : D.l3.length = 12) (p : S54) :
    Ev (fun k => spec_l3Write.f k D.st D.l1 D.l2 D.l3 D.l4 p.f0 p.f1 p.f2) ((laidD D p).st, (laidD D p).l1, (laidD D p).l2, (laidD D p).l3, (laidD D p).l4) := by
  have hl := hf.h4
  unfold spec_l3Write.f laidD
  by_cases c1 : D.st = 1
  · simp only [if_pos c1]
    exact Ev.ret rfl
  · by_cases c2 : D.l4.length = 40
    · simp only [if_neg c1, if_pos c2]
      exact Ev.pos (by omega) (Ev.bind (flush_ev hf.h4 hp h1 h2 h3) (Ev.pos (by simp) (Ev.ret rfl)))
    · simp only [if_neg c1, if_neg c2]
      exact Ev.neg (by omega) (Ev.pos (by omega) (Ev.ret rfl))
theorem specPut_ev {D : Dd} (hf : FitsD D) (p : S54) : Ev (fun k => spec_DiskPut.f k D.st D.l1 D.l2 D.l3 D.l4 p.f0 p.f1 p.f2) ((putD D p).st, (putD D p).l1, (putD D p).l2, (putD D p).l3, (putD D p).l4) := by
  have hno : ∀ (a b : Bool) (c : Int) (d : ByteArray), Ev (fun k => spec_DiskPut.j0 k true D.st D.l1 D.l2 D.l3 D.l4 b c d) (noD.st, noD.l1, noD.l2, noD.l3, noD.l4) := fun a b c d => by
    refine Ev.next ?_
    simp only [spec_DiskPut.j0]
    exact Ev.pos trivial (Ev.ret rfl)
  unfold spec_DiskPut.f
  refine Ev.bind (specDiskOk_ev D.st D.l1 D.l2 D.l3 D.l4 hf.h4) ?_
  by_cases h : GoodD D
  · have h' : Print.Good D.st D.l1 D.l2 D.l3 D.l4 := h
    have hb : goodB D.st D.l1 D.l2 D.l3 D.l4 = true := decide_eq_true h'
    refine Ev.pos hb (Ev.take (l3Put_eq p) ?_)
    cases hp : putB p with
    | true =>
      have e : putD D p = laidD D p := if_pos ⟨h, hp⟩
      rw [e]
      refine Ev.next ?_
      simp only [spec_DiskPut.j0]
      exact Ev.neg (by simp) (Ev.take (copy_eq hf) (Ev.bind (write_ev hf (good_put h') h'.sh.2.1 h'.sh.2.2.1 h'.sh.2.2.2.1 p) (Ev.ret rfl)))
    | false =>
      have e : putD D p = noD := if_neg fun hh => by rw [hp] at hh; cases hh.2
      rw [e]
      exact hno true _ _ _
  · have h' : ¬ Print.Good D.st D.l1 D.l2 D.l3 D.l4 := h
    have hb : ¬ goodB D.st D.l1 D.l2 D.l3 D.l4 = true := by simpa [goodB] using h'
    have e : putD D p = noD := if_neg fun hh => h hh.1
    rw [e]
    exact Ev.neg hb (hno true _ _ _)
def cP (p : S54) : Array Value := #[.bool p.f0, .int .i64 p.f1, .string p.f2]
theorem implPut_call {w : World} {M : Mm} {D : Dd} {p : S54} (h : Rd w M D) : Calls Try.prog 38 #[.agg (cD M D), .agg (cP p)] w (Gives (putD D p) w) :=
  (impl_DiskPut.calls (hr0_1 := h.r1) (hc0_1 := h.h1) (hr0_2 := h.r2) (hc0_2 := h.h2) (hr0_3 := h.r3) (hc0_3 := h.h3) (hr0_4 := h.r4) (hc0_4 := h.h4) (h := implPut_eq D p)).mono fun e w' hh => gives_of hh
theorem specPut_call {w : World} {M : Mm} {D : Dd} {p : S54} (hf : FitsD D) (h : Rd w M D) : Calls Try.prog 39 #[.agg (cD M D), .agg (cP p)] w (Gives (putD D p) w) := by
  obtain ⟨K, hK⟩ := specPut_ev hf p
  exact (spec_DiskPut.calls (hr0_1 := h.r1) (hc0_1 := h.h1) (hr0_2 := h.r2) (hc0_2 := h.h2) (hr0_3 := h.r3) (hc0_3 := h.h3) (hr0_4 := h.r4) (hc0_4 := h.h4) (h := hK K (Nat.le_refl _))).mono fun e w' hh => gives_of hh
structure Da where
  st : Int
  l1 : List ByteArray
  l2 : List ByteArray
  l3 : List Bool
  l4 : List S65
def cA (M : Mm) (D : Da) : Array Value := #[.int .i64 D.st, .slice M.A1 D.l1.length M.c1, .slice M.A2 D.l2.length M.c2, .slice M.A3 D.l3.length M.c3, .slice M.A4 D.l4.length M.c4]
structure RdA (w : World) (M : Mm) (D : Da) : Prop where
  r1 : Kd.C Kd.string w M.A1 D.l1.length D.l1
  h1 : D.l1.length ≤ M.c1
  r2 : Kd.C Kd.string w M.A2 D.l2.length D.l2
  h2 : D.l2.length ≤ M.c2
  r3 : Kd.C Kd.bool w M.A3 D.l3.length D.l3
  h3 : D.l3.length ≤ M.c3
  r4 : Kd.C k65 w M.A4 D.l4.length D.l4
  h4 : D.l4.length ≤ M.c4
theorem Hd.rdA {w0 w : World} {L : List Part} {M : Mm} {D : Da} (H : Hd w0.heap.size w0 w L) (h : RdA w0 M D) : RdA w M D :=
  ⟨H.C h.r1, h.h1, H.C h.r2, h.h2, H.C h.r3, h.h3, H.C h.r4, h.h4⟩
def toD (D : Da) : Dd := ⟨D.st, D.l1, D.l2, D.l3, pts D.l4⟩
theorem toDisk_call {w : World} {M : Mm} {D : Da} (hf : FitsD (toD D)) (h : RdA w M D) : Calls Try.prog 27 #[.agg (cA M D)] w (Gives (toD D) w) := by
  obtain ⟨K, hK⟩ := toDisk_ev D.st D.l1 D.l2 D.l3 D.l4 ⟨hf.h1, hf.h2, hf.h3, by have := hf.h4; rw [show (toD D).l4 = pts D.l4 from rfl, pts_length] at this; exact this⟩
  exact (laws_toDisk.calls (hr0_1 := h.r1) (hc0_1 := h.h1) (hr0_2 := h.r2) (hc0_2 := h.h2) (hr0_3 := h.r3) (hc0_3 := h.h3) (hr0_4 := h.r4) (hc0_4 := h.h4) (h := hK K (Nat.le_refl _))).mono fun e w' hh => gives_of hh
theorem szDisk_call (D : Da) (n : Int) (hn : 0 ≤ n ∧ n ≤ 1048576) (hw : Take.W39 ⟨D.st, D.l1, D.l2, D.l3, D.l4⟩) : ∃ t : Int, t ≤ 1048576 ∧ (¬ t < 0 → FitsD (toD D)) ∧ ∀ (w : World) (M : Mm), RdA w M D → Calls Try.prog 25 #[.agg (cA M D), .int .i64 n] w fun e w' => e = .returned (.int .i64 t) ∧ Below w.heap.size w w' := by
  obtain ⟨t, h1, ⟨K, hK⟩, h3⟩ := szDisk_ev D.st D.l1 D.l2 D.l3 D.l4 n hn hw
  refine ⟨t, h1, fun ht => ?_, fun w M h => laws_szDisk.calls (hr0_1 := h.r1) (hc0_1 := h.h1) (hr0_2 := h.r2) (hc0_2 := h.h2) (hr0_3 := h.r3) (hc0_3 := h.h3) (hr0_4 := h.r4) (hc0_4 := h.h4) (h := hK K (Nat.le_refl _))⟩
  have hf := h3 ht
  exact ⟨hf.h1, hf.h2, hf.h3, by rw [show (toD D).l4 = pts D.l4 from rfl, pts_length]; exact hf.h4⟩
end Go.Proofs.Ytkgpnloghmbmlaa.Hd
namespace Go.Proofs.Ytkgpnloghmbmlaa.Hd
open Go.RowKit Go.Proofs.Ytkgpnloghmbmlaa.Print Go.Proofs.YtkgpnloghmbmlaaW.PrintWords Go.Proofs.YtkgpnloghmbmlaaW.PrintLast Go.Proofs.YtkgpnloghmbmlaaW.PrintMore Go.Proofs.Ytkgpnloghmbmlaa.Pure
set_option linter.unusedVariables false
set_option linter.unusedSimpArgs false
theorem held_call {w : World} {M : Mm} {D D' : Dd} {m : Nat} (hc : cD M D' = cD M D) (hm : HeldBy D' m) (h : Rd w M D') : Calls Try.prog 24 #[.agg (cD M D), .int .i64 1] w fun e w' => e = .returned (.int .i64 (m : Int)) ∧ Below w.heap.size w w' := by
  rw [← hc]
  exact heldDisk_call hm h
theorem cD_one (M : Mm) (D : Dd) : (cD M D).all (·.oneCell') = true := by simp [cD, Value.oneCell']
theorem sizeE28 : (Try.prog.info? 28).map (·.size) = some 5 := by kernel_rfl
theorem sizeE39 : (Try.prog.info? 39).map (·.size) = some 5 := by kernel_rfl
theorem sizeE65 : (Try.prog.info? 65).map (·.size) = some 3 := by kernel_rfl
def cQ (q : S65) : Array Value := #[.bool q.f0, .int .i64 q.f1, .string q.f2]
theorem toPut_call {w : World} (q : S65) : Calls Try.prog 46 #[.agg (cQ q)] w fun e w' => e = .returned (.agg (cP (pt q))) ∧ Below w.heap.size w w' :=
  (laws_toPut.calls q.f0 q.f1 q.f2 q.f0 q.f1 q.f2 w rfl).mono fun _ _ h => h
theorem szPut_call (q : S65) (t : Int) (hq : q.f2.size ≤ maxLen) (ht : t ≤ 1048576) : ∃ u : Int, ∀ w : World, Calls Try.prog 45 #[.agg (cQ q), .int .i64 t] w fun e w' => e = .returned (.int .i64 u) ∧ Below w.heap.size w w' := by
  by_cases h : (wrap64 (t - (q.f2.size : Int))) < 0
  · exact ⟨-1, fun w => laws_szPut.calls q.f0 q.f1 q.f2 t (-1) w (by unfold laws_szPut.f; rw [if_pos h])⟩
  · exact ⟨wrap64 (t - (q.f2.size : Int)), fun w => laws_szPut.calls q.f0 q.f1 q.f2 t _ w (by unfold laws_szPut.f; rw [if_neg h])⟩
end Go.Proofs.Ytkgpnloghmbmlaa.Hd
namespace Go.Proofs.Ytkgpnloghmbmlaa.Hd
open Go.RowKit Go.Proofs.Ytkgpnloghmbmlaa.Print Go.Proofs.YtkgpnloghmbmlaaW.PrintWords Go.Proofs.YtkgpnloghmbmlaaW.PrintLast Go.Proofs.YtkgpnloghmbmlaaW.PrintMore Go.Proofs.Ytkgpnloghmbmlaa.Pure
set_option linter.unusedVariables false
set_option linter.unusedSimpArgs false
set_option maxHeartbeats 8000000 in
set_option maxRecDepth 100000 in
theorem law_FnExactDiskPut (M : Mm) (D : Da) (q : S65) (w : World) (h : RdA w M D) (hw : Take.W39 ⟨D.st, D.l1, D.l2, D.l3, D.l4⟩) (hq : q.f2.size ≤ maxLen) : Calls Try.prog 15 #[.agg (cA M D), .agg (cQ q)] w fun e w' => e = .returned (.bool true) ∧ Below w.heap.size w w' := by
  have hs28 := sizeE28
  have hs39 := sizeE39
  have hs65 := sizeE65
  have HR := Az.mk h
  obtain ⟨t, ht, hfit, hsz⟩ := szDisk_call D 1048576 (by omega) hw
  have HSZ := Az.mk hsz
  obtain ⟨u, hsp⟩ := szPut_call q t hq ht
  have HSP := Az.mk hsp
  clear h hw hsz hq ht hsp
  by_cases c_t : t < 0
  · have l_t : decide (t < 0) = true := decide_eq_true c_t
    clear c_t
    have H := Az.mk (Hd.start w)
    have tk0 : True := trivial
    go_enter Try.func15, Try.ntmps15
    go_wp2_with (first | ((with_reducible refine zqg (N := 2) rfl ?_); refine H.out.bx rfl ((cA M D)) 39 ?hr ?_; (case hr => first | (go_simp; done) | (go_simp; rfl)); intro g2 w2 H1; clear H; have H := H1; clear H1; (try simp only [Act.put, List.setIfInBounds_toArray, List.set_cons_zero, List.set_cons_succ])) | ((with_reducible refine zqg (N := 3) rfl ?_); refine H.out.bx rfl ((cQ q)) 65 ?hr ?_; (case hr => first | (go_simp; done) | (go_simp; rfl)); intro g3 w3 H1; clear H; have H := H1; clear H1; (try simp only [Act.put, List.setIfInBounds_toArray, List.set_cons_zero, List.set_cons_succ])) | ((with_reducible refine zqg (N := 13) rfl ?_); refine H.out.ld_row 1 rfl rfl rfl rfl Try.underlying39 rfl hs39 ?_; (try simp only [Act.put, List.setIfInBounds_toArray, List.set_cons_zero, List.set_cons_succ])) | (go_at_call 25; have _tk := tk0; refine (HSZ.out _ _ (H.out.rdA HR.out)).mono ?_; rintro e w15 ⟨rfl, hb⟩; have H1 := Az.mk (H.out.step hb); clear hb; clear H; have H := H1; clear H1; clear tk0 _tk; have tk1 : True := trivial))
    go_ret
    exact ⟨rfl, H.out.bel⟩
  · have l_t : decide (t < 0) = false := decide_eq_false c_t
    have HF := Az.mk (hfit c_t)
    have HG := Az.mk (fits_put (p := pt q) HF.out)
    clear hfit
    clear c_t
    by_cases c_u : u < 0
    · have l_u : decide (u < 0) = true := decide_eq_true c_u
      clear c_u
      have H := Az.mk (Hd.start w)
      have tk0 : True := trivial
      go_enter Try.func15, Try.ntmps15
      go_wp2_with (first | ((with_reducible refine zqg (N := 2) rfl ?_); refine H.out.bx rfl ((cA M D)) 39 ?hr ?_; (case hr => first | (go_simp; done) | (go_simp; rfl)); intro g2 w2 H1; clear H; have H := H1; clear H1; (try simp only [Act.put, List.setIfInBounds_toArray, List.set_cons_zero, List.set_cons_succ])) | ((with_reducible refine zqg (N := 3) rfl ?_); refine H.out.bx rfl ((cQ q)) 65 ?hr ?_; (case hr => first | (go_simp; done) | (go_simp; rfl)); intro g3 w3 H1; clear H; have H := H1; clear H1; (try simp only [Act.put, List.setIfInBounds_toArray, List.set_cons_zero, List.set_cons_succ])) | ((with_reducible refine zqg (N := 13) rfl ?_); refine H.out.ld_row 1 rfl rfl rfl rfl Try.underlying39 rfl hs39 ?_; (try simp only [Act.put, List.setIfInBounds_toArray, List.set_cons_zero, List.set_cons_succ])) | (go_at_call 25; have _tk := tk0; refine (HSZ.out _ _ (H.out.rdA HR.out)).mono ?_; rintro e w15 ⟨rfl, hb⟩; have H1 := Az.mk (H.out.step hb); clear hb; clear H; have H := H1; clear H1; clear tk0 _tk; have tk1 : True := trivial) | ((with_reducible refine zqg (N := 18) rfl ?_); refine H.out.ld_row 0 rfl rfl rfl rfl Try.underlying65 rfl hs65 ?_; (try simp only [Act.put, List.setIfInBounds_toArray, List.set_cons_zero, List.set_cons_succ])) | (go_at_call 45; have _tk := tk1; refine (HSP.out _).mono ?_; rintro e w20 ⟨rfl, hb⟩; have H1 := Az.mk (H.out.step hb); clear hb; clear H; have H := H1; clear H1; clear tk1 _tk; have tk2 : True := trivial))
      go_ret
      exact ⟨rfl, H.out.bel⟩
    · have l_u : decide (u < 0) = false := decide_eq_false c_u
      clear c_u
      have H := Az.mk (Hd.start w)
      have tk0 : True := trivial
      go_enter Try.func15, Try.ntmps15
      go_upto_region 8 with (first | ((with_reducible refine zqg (N := 2) rfl ?_); refine H.out.bx rfl ((cA M D)) 39 ?hr ?_; (case hr => first | (go_simp; done) | (go_simp; rfl)); intro g2 w2 H1; clear H; have H := H1; clear H1; (try simp only [Act.put, List.setIfInBounds_toArray, List.set_cons_zero, List.set_cons_succ])) | ((with_reducible refine zqg (N := 3) rfl ?_); refine H.out.bx rfl ((cQ q)) 65 ?hr ?_; (case hr => first | (go_simp; done) | (go_simp; rfl)); intro g3 w3 H1; clear H; have H := H1; clear H1; (try simp only [Act.put, List.setIfInBounds_toArray, List.set_cons_zero, List.set_cons_succ])) | ((with_reducible refine zqg (N := 13) rfl ?_); refine H.out.ld_row 1 rfl rfl rfl rfl Try.underlying39 rfl hs39 ?_; (try simp only [Act.put, List.setIfInBounds_toArray, List.set_cons_zero, List.set_cons_succ])) | (go_at_call 25; have _tk := tk0; refine (HSZ.out _ _ (H.out.rdA HR.out)).mono ?_; rintro e w15 ⟨rfl, hb⟩; have H1 := Az.mk (H.out.step hb); clear hb; clear H; have H := H1; clear H1; clear tk0 _tk; have tk1 : True := trivial) | ((with_reducible refine zqg (N := 18) rfl ?_); refine H.out.ld_row 0 rfl rfl rfl rfl Try.underlying65 rfl hs65 ?_; (try simp only [Act.put, List.setIfInBounds_toArray, List.set_cons_zero, List.set_cons_succ])) | (go_at_call 45; have _tk := tk1; refine (HSP.out _).mono ?_; rintro e w20 ⟨rfl, hb⟩; have H1 := Az.mk (H.out.step hb); clear hb; clear H; have H := H1; clear H1; clear tk1 _tk; have tk2 : True := trivial))
      (try simp only [Act.put, List.setIfInBounds_toArray, List.set_cons_zero, List.set_cons_succ])
      go_cut [6] (fun v6 wc => ∃ (g6 : Nat) (M27 : Mm) (lo_p27 hi_p27 : Nat) (wr_p27 : World), v6 = .pointer (some ⟨g6, 0, none⟩) ∧ Az (Own wr_p27 lo_p27 hi_p27 M27 (putD (toD D) (pt q))) ∧ Az (Hd w.heap.size w wc [.box g6 ((cD M27 (putD (toD D) (pt q)))) 28, .same lo_p27 hi_p27 wr_p27, .box g3 ((cQ q)) 65, .box g2 ((cA M D)) 39]))
      case first =>
        refine start_ (n := 7) (S := fun w' => Hd w.heap.size w w' [.box g3 ((cQ q)) 65, .box g2 ((cA M D)) 39]) (ds := []) #[false, false, false, false, false, false, false] (by kernel_rfl) rfl rfl (H.out.drew) (fun hHeld => ?_)
        clear H
        generalize World.drew w20 = wd8 at hHeld ⊢
        have H := Az.mk hHeld
        refine zqt (i := 0) (N := some 23) (v := .agg ((cA M D))) (a' := ?_) #[true, false, false, false, false, false, false] rfl rfl (by kernel_rfl) (fun _ _ _ h => h) (Or.inl ⟨by rfl, fun w' s0 => s0.run_row 1 rfl rfl rfl Try.underlying39 rfl hs39⟩) hHeld ?_ ?_
        rotate_left
        · simp only [Act.put, List.setIfInBounds_toArray, List.set_cons_zero, List.set_cons_succ, i64_w, i32_w]
          rfl
        refine zqt (i := 2) (N := some 25) (v := .agg ((cQ q))) (a' := ?_) #[true, false, true, false, false, false, false] rfl rfl (by kernel_rfl) (fun _ _ _ h => h) (Or.inl ⟨by rfl, fun w' s0 => s0.run_row 0 rfl rfl rfl Try.underlying65 rfl hs65⟩) hHeld ?_ ?_
        rotate_left
        · simp only [Act.put, List.setIfInBounds_toArray, List.set_cons_zero, List.set_cons_succ, i64_w, i32_w]
          rfl
        refine two_ (i := 1) (j := 5) (Ni := some 24) (Nj := some 6) #[true, true, true, false, false, false, false] #[true, false, true, false, false, true, false] rfl rfl rfl rfl (by kernel_rfl) (by decide) (by decide) ?_ ?_
        · intro K hK
          refine goes_ Try.func27 (by kernel_rfl) rfl #[.agg ((cA M D))] (by rfl) rfl rfl (by (try simp only [List.map_toArray, List.map_cons, List.map_nil]); first | done | rfl) ?_
          refine (toDisk_call HF.out (H.out.rdA HR.out)).mono ?_
          rintro e w24 ⟨M24, rfl, ho, hb⟩
          refine ⟨_, rfl, ?_⟩
          have O24 := Az.mk ho
          clear ho
          have H1 := Az.mk (H.out.made hb); clear hb; clear H; have H := H1; clear H1
          refine hK.out _ _ (H.out.less) (fun hHeld => ?_)
          clear hK K
          refine norm_ (a' := ?_) ?_ ?_
          rotate_left
          · show Act.put _ (some 24) _ = _
            simp only [Act.put, List.setIfInBounds_toArray, List.set_cons_zero, List.set_cons_succ, i64_w, i32_w]
            rfl
          refine two_ (i := 3) (j := 5) (Ni := some 26) (Nj := some 6) #[true, true, true, true, false, false, false] #[true, true, true, false, false, true, false] rfl rfl rfl rfl (by kernel_rfl) (by decide) (by decide) ?_ ?_
          · intro K hK
            refine goes_ Try.func46 (by kernel_rfl) rfl #[.agg ((cQ q))] (by rfl) rfl rfl (by (try simp only [List.map_toArray, List.map_cons, List.map_nil]); first | done | rfl) ?_
            refine (toPut_call q).mono ?_
            rintro e w26 ⟨rfl, hb⟩
            refine ⟨_, rfl, ?_⟩
            have H1 := Az.mk (H.out.step hb); clear hb; clear H; have H := H1; clear H1
            refine hK.out _ _ (H.out.less) (fun hHeld => ?_)
            clear hK K
            refine norm_ (a' := ?_) ?_ ?_
            rotate_left
            · show Act.put _ (some 26) _ = _
              simp only [Act.put, List.setIfInBounds_toArray, List.set_cons_zero, List.set_cons_succ, i64_w, i32_w]
              rfl
            refine two_ (i := 4) (j := 5) (Ni := some 27) (Nj := some 6) #[true, true, true, true, true, false, false] #[true, true, true, true, false, true, false] rfl rfl rfl rfl (by kernel_rfl) (by decide) (by decide) ?_ ?_
            · intro K hK
              refine goes_ Try.func39 (by kernel_rfl) rfl #[.agg (cD M24 (toD D)), .agg (cP (pt q))] (by rfl) rfl rfl (by (try simp only [List.map_toArray, List.map_cons, List.map_nil]); first | done | rfl) ?_
              refine (specPut_call (p := pt q) HF.out (H.out.rd 0 rfl O24.out)).mono ?_
              rintro e w27 ⟨M27, rfl, ho, hb⟩
              refine ⟨_, rfl, ?_⟩
              have O27 := Az.mk ho
              clear ho
              have H1 := Az.mk (H.out.made hb); clear hb; clear H; have H := H1; clear H1
              refine hK.out _ _ (H.out.less.less) (fun hHeld => ?_)
              clear hK K
              refine norm_ (a' := ?_) ?_ ?_
              rotate_left
              · show Act.put _ (some 27) _ = _
                simp only [Act.put, List.setIfInBounds_toArray, List.set_cons_zero, List.set_cons_succ, i64_w, i32_w]
                rfl
              refine one_ (i := 5) (N := some 6) #[true, true, true, true, true, true, false] rfl rfl (by kernel_rfl) (by decide) (fun K hK => ?_)
              refine H.out.bx_ (by rfl) (#[.int .i64 0, .slice none 0 0, .slice none 0 0, .slice none 0 0, .slice none 0 0]) 28 ?hr ?_
              (case hr => first | (go_simp; done) | (go_simp; rfl))
              intro g6 w6 H1
              clear H; have H := H1; clear H1
              refine hK.out _ _ (H.out.less.less.less) (fun hHeld => ?_)
              clear hK K
              refine norm_ (a' := ?_) ?_ ?_
              rotate_left
              · show Act.put _ (some 6) _ = _
                simp only [Act.put, List.setIfInBounds_toArray, List.set_cons_zero, List.set_cons_succ, i64_w, i32_w]
                rfl
              refine one_ (i := 6) (N := none) #[true, true, true, true, true, true, true] rfl rfl (by kernel_rfl) (by decide) (fun K hK => ?_)
              refine H.out.st_ 0 rfl (by rfl) (x := .tmp 6) (y := .tmp 27) rfl rfl rfl ((cD M27 (putD (toD D) (pt q)))) rfl hs28 rfl (cD_one _ _) ?_
              intro ws8_6 H1
              clear H; have H := H1; clear H1
              refine hK.out _ _ (H.out.less.less.less) (fun hHeld => ?_)
              clear hK K
              refine norm_ (a' := ?_) ?_ ?_
              rotate_left
              · rfl
              refine done_ (by kernel_rfl) ?_
              try go_wp2
              go_meet
              case rel => exact ⟨g6, M27, _, _, _, rfl, O27, ⟨H.out.sel [0, 1, 3, 4] _ (by decide) rfl⟩⟩
            · intro K hK
              refine H.out.bx_ (by rfl) (#[.int .i64 0, .slice none 0 0, .slice none 0 0, .slice none 0 0, .slice none 0 0]) 28 ?hr ?_
              (case hr => first | (go_simp; done) | (go_simp; rfl))
              intro g6 w6 H1
              clear H; have H := H1; clear H1
              refine hK.out _ _ (H.out.less.less) (fun hHeld => ?_)
              clear hK K
              refine norm_ (a' := ?_) ?_ ?_
              rotate_left
              · show Act.put _ (some 6) _ = _
                simp only [Act.put, List.setIfInBounds_toArray, List.set_cons_zero, List.set_cons_succ, i64_w, i32_w]
                rfl
              refine one_ (i := 4) (N := some 27) #[true, true, true, true, true, true, false] rfl rfl (by kernel_rfl) (by decide) (fun K hK => ?_)
              refine goes_ Try.func39 (by kernel_rfl) rfl #[.agg (cD M24 (toD D)), .agg (cP (pt q))] (by rfl) rfl rfl (by (try simp only [List.map_toArray, List.map_cons, List.map_nil]); first | done | rfl) ?_
              refine (specPut_call (p := pt q) HF.out (H.out.rd 1 rfl O24.out)).mono ?_
              rintro e w27 ⟨M27, rfl, ho, hb⟩
              refine ⟨_, rfl, ?_⟩
              have O27 := Az.mk ho
              clear ho
              have H1 := Az.mk (H.out.made hb); clear hb; clear H; have H := H1; clear H1
              refine hK.out _ _ (H.out.less.less.less) (fun hHeld => ?_)
              clear hK K
              refine norm_ (a' := ?_) ?_ ?_
              rotate_left
              · show Act.put _ (some 27) _ = _
                simp only [Act.put, List.setIfInBounds_toArray, List.set_cons_zero, List.set_cons_succ, i64_w, i32_w]
                rfl
              refine one_ (i := 6) (N := none) #[true, true, true, true, true, true, true] rfl rfl (by kernel_rfl) (by decide) (fun K hK => ?_)
              refine H.out.st_ 1 rfl (by rfl) (x := .tmp 6) (y := .tmp 27) rfl rfl rfl ((cD M27 (putD (toD D) (pt q)))) rfl hs28 rfl (cD_one _ _) ?_
              intro ws8_6 H1
              clear H; have H := H1; clear H1
              refine hK.out _ _ (H.out.less.less.less) (fun hHeld => ?_)
              clear hK K
              refine norm_ (a' := ?_) ?_ ?_
              rotate_left
              · rfl
              refine done_ (by kernel_rfl) ?_
              try go_wp2
              go_meet
              case rel => exact ⟨g6, M27, _, _, _, rfl, O27, ⟨H.out.sel [1, 0, 3, 4] _ (by decide) rfl⟩⟩
          · intro K hK
            refine H.out.bx_ (by rfl) (#[.int .i64 0, .slice none 0 0, .slice none 0 0, .slice none 0 0, .slice none 0 0]) 28 ?hr ?_
            (case hr => first | (go_simp; done) | (go_simp; rfl))
            intro g6 w6 H1
            clear H; have H := H1; clear H1
            refine hK.out _ _ (H.out.less.less) (fun hHeld => ?_)
            clear hK K
            refine norm_ (a' := ?_) ?_ ?_
            rotate_left
            · show Act.put _ (some 6) _ = _
              simp only [Act.put, List.setIfInBounds_toArray, List.set_cons_zero, List.set_cons_succ, i64_w, i32_w]
              rfl
            refine one_ (i := 3) (N := some 26) #[true, true, true, true, false, true, false] rfl rfl (by kernel_rfl) (by decide) (fun K hK => ?_)
            refine goes_ Try.func46 (by kernel_rfl) rfl #[.agg ((cQ q))] (by rfl) rfl rfl (by (try simp only [List.map_toArray, List.map_cons, List.map_nil]); first | done | rfl) ?_
            refine (toPut_call q).mono ?_
            rintro e w26 ⟨rfl, hb⟩
            refine ⟨_, rfl, ?_⟩
            have H1 := Az.mk (H.out.step hb); clear hb; clear H; have H := H1; clear H1
            refine hK.out _ _ (H.out.less.less) (fun hHeld => ?_)
            clear hK K
            refine norm_ (a' := ?_) ?_ ?_
            rotate_left
            · show Act.put _ (some 26) _ = _
              simp only [Act.put, List.setIfInBounds_toArray, List.set_cons_zero, List.set_cons_succ, i64_w, i32_w]
              rfl
            refine one_ (i := 4) (N := some 27) #[true, true, true, true, true, true, false] rfl rfl (by kernel_rfl) (by decide) (fun K hK => ?_)
            refine goes_ Try.func39 (by kernel_rfl) rfl #[.agg (cD M24 (toD D)), .agg (cP (pt q))] (by rfl) rfl rfl (by (try simp only [List.map_toArray, List.map_cons, List.map_nil]); first | done | rfl) ?_
            refine (specPut_call (p := pt q) HF.out (H.out.rd 1 rfl O24.out)).mono ?_
            rintro e w27 ⟨M27, rfl, ho, hb⟩
            refine ⟨_, rfl, ?_⟩
            have O27 := Az.mk ho
            clear ho
            have H1 := Az.mk (H.out.made hb); clear hb; clear H; have H := H1; clear H1
            refine hK.out _ _ (H.out.less.less.less) (fun hHeld => ?_)
            clear hK K
            refine norm_ (a' := ?_) ?_ ?_
            rotate_left
            · show Act.put _ (some 27) _ = _
              simp only [Act.put, List.setIfInBounds_toArray, List.set_cons_zero, List.set_cons_succ, i64_w, i32_w]
              rfl
            refine one_ (i := 6) (N := none) #[true, true, true, true, true, true, true] rfl rfl (by kernel_rfl) (by decide) (fun K hK => ?_)
            refine H.out.st_ 1 rfl (by rfl) (x := .tmp 6) (y := .tmp 27) rfl rfl rfl ((cD M27 (putD (toD D) (pt q)))) rfl hs28 rfl (cD_one _ _) ?_
            intro ws8_6 H1
            clear H; have H := H1; clear H1
            refine hK.out _ _ (H.out.less.less.less) (fun hHeld => ?_)
            clear hK K
            refine norm_ (a' := ?_) ?_ ?_
            rotate_left
            · rfl
            refine done_ (by kernel_rfl) ?_
            try go_wp2
            go_meet
            case rel => exact ⟨g6, M27, _, _, _, rfl, O27, ⟨H.out.sel [1, 0, 3, 4] _ (by decide) rfl⟩⟩
        · intro K hK
          refine H.out.bx_ (by rfl) (#[.int .i64 0, .slice none 0 0, .slice none 0 0, .slice none 0 0, .slice none 0 0]) 28 ?hr ?_
          (case hr => first | (go_simp; done) | (go_simp; rfl))
          intro g6 w6 H1
          clear H; have H := H1; clear H1
          refine hK.out _ _ (H.out.less) (fun hHeld => ?_)
          clear hK K
          refine norm_ (a' := ?_) ?_ ?_
          rotate_left
          · show Act.put _ (some 6) _ = _
            simp only [Act.put, List.setIfInBounds_toArray, List.set_cons_zero, List.set_cons_succ, i64_w, i32_w]
            rfl
          refine one_ (i := 1) (N := some 24) #[true, true, true, false, false, true, false] rfl rfl (by kernel_rfl) (by decide) (fun K hK => ?_)
          refine goes_ Try.func27 (by kernel_rfl) rfl #[.agg ((cA M D))] (by rfl) rfl rfl (by (try simp only [List.map_toArray, List.map_cons, List.map_nil]); first | done | rfl) ?_
          refine (toDisk_call HF.out (H.out.rdA HR.out)).mono ?_
          rintro e w24 ⟨M24, rfl, ho, hb⟩
          refine ⟨_, rfl, ?_⟩
          have O24 := Az.mk ho
          clear ho
          have H1 := Az.mk (H.out.made hb); clear hb; clear H; have H := H1; clear H1
          refine hK.out _ _ (H.out.less.less) (fun hHeld => ?_)
          clear hK K
          refine norm_ (a' := ?_) ?_ ?_
          rotate_left
          · show Act.put _ (some 24) _ = _
            simp only [Act.put, List.setIfInBounds_toArray, List.set_cons_zero, List.set_cons_succ, i64_w, i32_w]
            rfl
          refine one_ (i := 3) (N := some 26) #[true, true, true, true, false, true, false] rfl rfl (by kernel_rfl) (by decide) (fun K hK => ?_)
          refine goes_ Try.func46 (by kernel_rfl) rfl #[.agg ((cQ q))] (by rfl) rfl rfl (by (try simp only [List.map_toArray, List.map_cons, List.map_nil]); first | done | rfl) ?_
          refine (toPut_call q).mono ?_
          rintro e w26 ⟨rfl, hb⟩
          refine ⟨_, rfl, ?_⟩
          have H1 := Az.mk (H.out.step hb); clear hb; clear H; have H := H1; clear H1
          refine hK.out _ _ (H.out.less.less) (fun hHeld => ?_)
          clear hK K
          refine norm_ (a' := ?_) ?_ ?_
          rotate_left
          · show Act.put _ (some 26) _ = _
            simp only [Act.put, List.setIfInBounds_toArray, List.set_cons_zero, List.set_cons_succ, i64_w, i32_w]
            rfl
          refine one_ (i := 4) (N := some 27) #[true, true, true, true, true, true, false] rfl rfl (by kernel_rfl) (by decide) (fun K hK => ?_)
          refine goes_ Try.func39 (by kernel_rfl) rfl #[.agg (cD M24 (toD D)), .agg (cP (pt q))] (by rfl) rfl rfl (by (try simp only [List.map_toArray, List.map_cons, List.map_nil]); first | done | rfl) ?_
          refine (specPut_call (p := pt q) HF.out (H.out.rd 0 rfl O24.out)).mono ?_
          rintro e w27 ⟨M27, rfl, ho, hb⟩
          refine ⟨_, rfl, ?_⟩
          have O27 := Az.mk ho
          clear ho
          have H1 := Az.mk (H.out.made hb); clear hb; clear H; have H := H1; clear H1
          refine hK.out _ _ (H.out.less.less.less) (fun hHeld => ?_)
          clear hK K
          refine norm_ (a' := ?_) ?_ ?_
          rotate_left
          · show Act.put _ (some 27) _ = _
            simp only [Act.put, List.setIfInBounds_toArray, List.set_cons_zero, List.set_cons_succ, i64_w, i32_w]
            rfl
          refine one_ (i := 6) (N := none) #[true, true, true, true, true, true, true] rfl rfl (by kernel_rfl) (by decide) (fun K hK => ?_)
          refine H.out.st_ 2 rfl (by rfl) (x := .tmp 6) (y := .tmp 27) rfl rfl rfl ((cD M27 (putD (toD D) (pt q)))) rfl hs28 rfl (cD_one _ _) ?_
          intro ws8_6 H1
          clear H; have H := H1; clear H1
          refine hK.out _ _ (H.out.less.less.less) (fun hHeld => ?_)
          clear hK K
          refine norm_ (a' := ?_) ?_ ?_
          rotate_left
          · rfl
          refine done_ (by kernel_rfl) ?_
          try go_wp2
          go_meet
          case rel => exact ⟨g6, M27, _, _, _, rfl, O27, ⟨H.out.sel [2, 0, 3, 4] _ (by decide) rfl⟩⟩
      case rest =>
        obtain ⟨g6, M27, lo_p27, hi_p27, wr_p27, rfl, O27, HC8⟩ := hcut
        clear H
        have H := HC8
        clear HC8
        obtain ⟨wc8, hwc⟩ : ∃ x, x = wc := ⟨_, rfl⟩
        rw [← hwc] at H ⊢
        clear hwc wc
        go_upto_region 10 with (first | ((with_reducible refine zqg (N := 28) rfl ?_); refine H.out.ld_row 3 rfl rfl rfl rfl Try.underlying39 rfl hs39 ?_; (try simp only [Act.put, List.setIfInBounds_toArray, List.set_cons_zero, List.set_cons_succ])) | (go_at_call 27; have _tk := tk2; refine (toDisk_call HF.out (H.out.rdA HR.out)).mono ?_; rintro e w29 ⟨M29, rfl, ho, hb⟩; have O29 := Az.mk ho; clear ho; have H1 := Az.mk (H.out.made hb); clear hb; clear H; have H := H1; clear H1; clear tk2 _tk; have tk3 : True := trivial) | ((with_reducible refine zqg (N := 7) rfl ?_); refine H.out.bx rfl (#[.int .i64 0, .slice none 0 0, .slice none 0 0, .slice none 0 0, .slice none 0 0]) 28 ?hr ?_; (case hr => first | (go_simp; done) | (go_simp; rfl)); intro g7 w7 H1; clear H; have H := H1; clear H1; (try simp only [Act.put, List.setIfInBounds_toArray, List.set_cons_zero, List.set_cons_succ])) | ((with_reducible refine gate_store (t := 28) (p := 7) rfl ?_); refine H.out.st_row 0 rfl rfl (x := .tmp 7) (y := .tmp 29) rfl rfl rfl ((cD M29 (toD D))) rfl hs28 rfl (cD_one _ _) ?_; intro ws9_3 H1; clear H; have H := H1; clear H1))
        (try simp only [Act.put, List.setIfInBounds_toArray, List.set_cons_zero, List.set_cons_succ])
        go_cut [8] (fun v8 wc => ∃ (g8 : Nat) (M33 : Mm) (lo_p33 hi_p33 : Nat) (wr_p33 : World), v8 = .pointer (some ⟨g8, 0, none⟩) ∧ Az (Own wr_p33 lo_p33 hi_p33 M33 (putD (toD D) (pt q))) ∧ Az (Hd w.heap.size w wc [.box g8 ((cD M33 (putD (toD D) (pt q)))) 28, .same lo_p33 hi_p33 wr_p33, .box g7 ((cD M29 (toD D))) 28, .same (wc8.heap.size) (w29.heap.size) w29, .box g6 ((cD M27 (putD (toD D) (pt q)))) 28, .same (lo_p27) (hi_p27) wr_p27, .box g3 ((cQ q)) 65, .box g2 ((cA M D)) 39]))
        case first =>
          refine start_ (n := 6) (S := fun w' => Hd w.heap.size w w' [.box g7 ((cD M29 (toD D))) 28, .same (wc8.heap.size) (w29.heap.size) w29, .box g6 ((cD M27 (putD (toD D) (pt q)))) 28, .same (lo_p27) (hi_p27) wr_p27, .box g3 ((cQ q)) 65, .box g2 ((cA M D)) 39]) (ds := []) #[false, false, false, false, false, false] (by kernel_rfl) rfl rfl (H.out.drew) (fun hHeld => ?_)
          clear H
          generalize World.drew ws9_3 = wd10 at hHeld ⊢
          have H := Az.mk hHeld
          refine zqt (i := 0) (N := some 30) (v := .agg ((cD M29 (toD D)))) (a' := ?_) #[true, false, false, false, false, false] rfl rfl (by kernel_rfl) (fun _ _ _ h => h) (Or.inl ⟨by rfl, fun w' s0 => s0.run_row 0 rfl rfl rfl Try.underlying28 rfl hs28⟩) hHeld ?_ ?_
          rotate_left
          · simp only [Act.put, List.setIfInBounds_toArray, List.set_cons_zero, List.set_cons_succ, i64_w, i32_w]
            rfl
          refine zqt (i := 1) (N := some 31) (v := .agg ((cQ q))) (a' := ?_) #[true, true, false, false, false, false] rfl rfl (by kernel_rfl) (fun _ _ _ h => h) (Or.inl ⟨by rfl, fun w' s0 => s0.run_row 4 rfl rfl rfl Try.underlying65 rfl hs65⟩) hHeld ?_ ?_
          rotate_left
          · simp only [Act.put, List.setIfInBounds_toArray, List.set_cons_zero, List.set_cons_succ, i64_w, i32_w]
            rfl
          refine two_ (i := 2) (j := 4) (Ni := some 32) (Nj := some 8) #[true, true, true, false, false, false] #[true, true, false, false, true, false] rfl rfl rfl rfl (by kernel_rfl) (by decide) (by decide) ?_ ?_
          · intro K hK
            refine goes_ Try.func46 (by kernel_rfl) rfl #[.agg ((cQ q))] (by rfl) rfl rfl (by (try simp only [List.map_toArray, List.map_cons, List.map_nil]); first | done | rfl) ?_
            refine (toPut_call q).mono ?_
            rintro e w32 ⟨rfl, hb⟩
            refine ⟨_, rfl, ?_⟩
            have H1 := Az.mk (H.out.step hb); clear hb; clear H; have H := H1; clear H1
            refine hK.out _ _ (H.out) (fun hHeld => ?_)
            clear hK K
            refine norm_ (a' := ?_) ?_ ?_
            rotate_left
            · show Act.put _ (some 32) _ = _
              simp only [Act.put, List.setIfInBounds_toArray, List.set_cons_zero, List.set_cons_succ, i64_w, i32_w]
              rfl
            refine two_ (i := 3) (j := 4) (Ni := some 33) (Nj := some 8) #[true, true, true, true, false, false] #[true, true, true, false, true, false] rfl rfl rfl rfl (by kernel_rfl) (by decide) (by decide) ?_ ?_
            · intro K hK
              refine goes_ Try.func38 (by kernel_rfl) rfl #[.agg ((cD M29 (toD D))), .agg (cP (pt q))] (by rfl) rfl rfl (by (try simp only [List.map_toArray, List.map_cons, List.map_nil]); first | done | rfl) ?_
              refine (implPut_call (p := pt q)  (H.out.rd 1 rfl O29.out)).mono ?_
              rintro e w33 ⟨M33, rfl, ho, hb⟩
              refine ⟨_, rfl, ?_⟩
              have O33 := Az.mk ho
              clear ho
              have H1 := Az.mk (H.out.made hb); clear hb; clear H; have H := H1; clear H1
              refine hK.out _ _ (H.out.less) (fun hHeld => ?_)
              clear hK K
              refine norm_ (a' := ?_) ?_ ?_
              rotate_left
              · show Act.put _ (some 33) _ = _
                simp only [Act.put, List.setIfInBounds_toArray, List.set_cons_zero, List.set_cons_succ, i64_w, i32_w]
                rfl
              refine one_ (i := 4) (N := some 8) #[true, true, true, true, true, false] rfl rfl (by kernel_rfl) (by decide) (fun K hK => ?_)
              refine H.out.bx_ (by rfl) (#[.int .i64 0, .slice none 0 0, .slice none 0 0, .slice none 0 0, .slice none 0 0]) 28 ?hr ?_
              (case hr => first | (go_simp; done) | (go_simp; rfl))
              intro g8 w8 H1
              clear H; have H := H1; clear H1
              refine hK.out _ _ (H.out.less.less) (fun hHeld => ?_)
              clear hK K
              refine norm_ (a' := ?_) ?_ ?_
              rotate_left
              · show Act.put _ (some 8) _ = _
                simp only [Act.put, List.setIfInBounds_toArray, List.set_cons_zero, List.set_cons_succ, i64_w, i32_w]
                rfl
              refine one_ (i := 5) (N := none) #[true, true, true, true, true, true] rfl rfl (by kernel_rfl) (by decide) (fun K hK => ?_)
              refine H.out.st_ 0 rfl (by rfl) (x := .tmp 8) (y := .tmp 33) rfl rfl rfl ((cD M33 (putD (toD D) (pt q)))) rfl hs28 rfl (cD_one _ _) ?_
              intro ws10_5 H1
              clear H; have H := H1; clear H1
              refine hK.out _ _ (H.out.less.less) (fun hHeld => ?_)
              clear hK K
              refine norm_ (a' := ?_) ?_ ?_
              rotate_left
              · rfl
              refine done_ (by kernel_rfl) ?_
              try go_wp2
              go_meet
              case rel => exact ⟨g8, M33, _, _, _, rfl, O33, ⟨H.out.sel [0, 1, 2, 3, 4, 5, 6, 7] _ (by decide) rfl⟩⟩
            · intro K hK
              refine H.out.bx_ (by rfl) (#[.int .i64 0, .slice none 0 0, .slice none 0 0, .slice none 0 0, .slice none 0 0]) 28 ?hr ?_
              (case hr => first | (go_simp; done) | (go_simp; rfl))
              intro g8 w8 H1
              clear H; have H := H1; clear H1
              refine hK.out _ _ (H.out.less) (fun hHeld => ?_)
              clear hK K
              refine norm_ (a' := ?_) ?_ ?_
              rotate_left
              · show Act.put _ (some 8) _ = _
                simp only [Act.put, List.setIfInBounds_toArray, List.set_cons_zero, List.set_cons_succ, i64_w, i32_w]
                rfl
              refine one_ (i := 3) (N := some 33) #[true, true, true, true, true, false] rfl rfl (by kernel_rfl) (by decide) (fun K hK => ?_)
              refine goes_ Try.func38 (by kernel_rfl) rfl #[.agg ((cD M29 (toD D))), .agg (cP (pt q))] (by rfl) rfl rfl (by (try simp only [List.map_toArray, List.map_cons, List.map_nil]); first | done | rfl) ?_
              refine (implPut_call (p := pt q)  (H.out.rd 2 rfl O29.out)).mono ?_
              rintro e w33 ⟨M33, rfl, ho, hb⟩
              refine ⟨_, rfl, ?_⟩
              have O33 := Az.mk ho
              clear ho
              have H1 := Az.mk (H.out.made hb); clear hb; clear H; have H := H1; clear H1
              refine hK.out _ _ (H.out.less.less) (fun hHeld => ?_)
              clear hK K
              refine norm_ (a' := ?_) ?_ ?_
              rotate_left
              · show Act.put _ (some 33) _ = _
                simp only [Act.put, List.setIfInBounds_toArray, List.set_cons_zero, List.set_cons_succ, i64_w, i32_w]
                rfl
              refine one_ (i := 5) (N := none) #[true, true, true, true, true, true] rfl rfl (by kernel_rfl) (by decide) (fun K hK => ?_)
              refine H.out.st_ 1 rfl (by rfl) (x := .tmp 8) (y := .tmp 33) rfl rfl rfl ((cD M33 (putD (toD D) (pt q)))) rfl hs28 rfl (cD_one _ _) ?_
              intro ws10_5 H1
              clear H; have H := H1; clear H1
              refine hK.out _ _ (H.out.less.less) (fun hHeld => ?_)
              clear hK K
              refine norm_ (a' := ?_) ?_ ?_
              rotate_left
              · rfl
              refine done_ (by kernel_rfl) ?_
              try go_wp2
              go_meet
              case rel => exact ⟨g8, M33, _, _, _, rfl, O33, ⟨H.out.sel [1, 0, 2, 3, 4, 5, 6, 7] _ (by decide) rfl⟩⟩
          · intro K hK
            refine H.out.bx_ (by rfl) (#[.int .i64 0, .slice none 0 0, .slice none 0 0, .slice none 0 0, .slice none 0 0]) 28 ?hr ?_
            (case hr => first | (go_simp; done) | (go_simp; rfl))
            intro g8 w8 H1
            clear H; have H := H1; clear H1
            refine hK.out _ _ (H.out.less) (fun hHeld => ?_)
            clear hK K
            refine norm_ (a' := ?_) ?_ ?_
            rotate_left
            · show Act.put _ (some 8) _ = _
              simp only [Act.put, List.setIfInBounds_toArray, List.set_cons_zero, List.set_cons_succ, i64_w, i32_w]
              rfl
            refine one_ (i := 2) (N := some 32) #[true, true, true, false, true, false] rfl rfl (by kernel_rfl) (by decide) (fun K hK => ?_)
            refine goes_ Try.func46 (by kernel_rfl) rfl #[.agg ((cQ q))] (by rfl) rfl rfl (by (try simp only [List.map_toArray, List.map_cons, List.map_nil]); first | done | rfl) ?_
            refine (toPut_call q).mono ?_
            rintro e w32 ⟨rfl, hb⟩
            refine ⟨_, rfl, ?_⟩
            have H1 := Az.mk (H.out.step hb); clear hb; clear H; have H := H1; clear H1
            refine hK.out _ _ (H.out.less) (fun hHeld => ?_)
            clear hK K
            refine norm_ (a' := ?_) ?_ ?_
            rotate_left
            · show Act.put _ (some 32) _ = _
              simp only [Act.put, List.setIfInBounds_toArray, List.set_cons_zero, List.set_cons_succ, i64_w, i32_w]
              rfl
            refine one_ (i := 3) (N := some 33) #[true, true, true, true, true, false] rfl rfl (by kernel_rfl) (by decide) (fun K hK => ?_)
            refine goes_ Try.func38 (by kernel_rfl) rfl #[.agg ((cD M29 (toD D))), .agg (cP (pt q))] (by rfl) rfl rfl (by (try simp only [List.map_toArray, List.map_cons, List.map_nil]); first | done | rfl) ?_
            refine (implPut_call (p := pt q)  (H.out.rd 2 rfl O29.out)).mono ?_
            rintro e w33 ⟨M33, rfl, ho, hb⟩
            refine ⟨_, rfl, ?_⟩
            have O33 := Az.mk ho
            clear ho
            have H1 := Az.mk (H.out.made hb); clear hb; clear H; have H := H1; clear H1
            refine hK.out _ _ (H.out.less.less) (fun hHeld => ?_)
            clear hK K
            refine norm_ (a' := ?_) ?_ ?_
            rotate_left
            · show Act.put _ (some 33) _ = _
              simp only [Act.put, List.setIfInBounds_toArray, List.set_cons_zero, List.set_cons_succ, i64_w, i32_w]
              rfl
            refine one_ (i := 5) (N := none) #[true, true, true, true, true, true] rfl rfl (by kernel_rfl) (by decide) (fun K hK => ?_)
            refine H.out.st_ 1 rfl (by rfl) (x := .tmp 8) (y := .tmp 33) rfl rfl rfl ((cD M33 (putD (toD D) (pt q)))) rfl hs28 rfl (cD_one _ _) ?_
            intro ws10_5 H1
            clear H; have H := H1; clear H1
            refine hK.out _ _ (H.out.less.less) (fun hHeld => ?_)
            clear hK K
            refine norm_ (a' := ?_) ?_ ?_
            rotate_left
            · rfl
            refine done_ (by kernel_rfl) ?_
            try go_wp2
            go_meet
            case rel => exact ⟨g8, M33, _, _, _, rfl, O33, ⟨H.out.sel [1, 0, 2, 3, 4, 5, 6, 7] _ (by decide) rfl⟩⟩
        case rest =>
          obtain ⟨g8, M33, lo_p33, hi_p33, wr_p33, rfl, O33, HC10⟩ := hcut
          clear H
          have H := HC10
          clear HC10
          obtain ⟨wc10, hwc⟩ : ∃ x, x = wc := ⟨_, rfl⟩
          rw [← hwc] at H ⊢
          clear hwc wc
          go_wp2_with (first | ((with_reducible refine zqg (N := 34) rfl ?_); refine H.out.ld_row 0 rfl rfl rfl rfl Try.underlying28 rfl hs28 ?_; (try simp only [Act.put, List.setIfInBounds_toArray, List.set_cons_zero, List.set_cons_succ])) | ((with_reducible refine zqg (N := 35) rfl ?_); refine H.out.ld_row 4 rfl rfl rfl rfl Try.underlying28 rfl hs28 ?_; (try simp only [Act.put, List.setIfInBounds_toArray, List.set_cons_zero, List.set_cons_succ])) | (go_at_call 22; have _tk := tk3; refine (eqDisk_call HG.out (H.out.rd 1 rfl O33.out) (H.out.rd 5 rfl O27.out)).mono ?_; rintro e w36 ⟨rfl, hb⟩; have H1 := Az.mk (H.out.step hb); clear hb; clear H; have H := H1; clear H1; clear tk3 _tk; have tk4 : True := trivial))
          refine start_ (n := 5) (S := fun w' => Hd w.heap.size w w' [.box g8 ((cD M33 (putD (toD D) (pt q)))) 28, .same (lo_p33) (hi_p33) wr_p33, .box g7 ((cD M29 (toD D))) 28, .same (wc8.heap.size) (w29.heap.size) w29, .box g6 ((cD M27 (putD (toD D) (pt q)))) 28, .same (lo_p27) (hi_p27) wr_p27, .box g3 ((cQ q)) 65, .box g2 ((cA M D)) 39]) (ds := []) #[false, false, false, false, false] (by kernel_rfl) rfl rfl (H.out.drew) (fun hHeld => ?_)
          clear H
          generalize World.drew w36 = wd13 at hHeld ⊢
          have H := Az.mk hHeld
          refine zqt (i := 0) (N := some 38) (v := .agg ((cD M29 (toD D)))) (a' := ?_) #[true, false, false, false, false] rfl rfl (by kernel_rfl) (fun _ _ _ h => h) (Or.inl ⟨by rfl, fun w' s0 => s0.run_row 2 rfl rfl rfl Try.underlying28 rfl hs28⟩) hHeld ?_ ?_
          rotate_left
          · simp only [Act.put, List.setIfInBounds_toArray, List.set_cons_zero, List.set_cons_succ, i64_w, i32_w]
            rfl
          refine zqt (i := 1) (N := some 39) (v := .agg ((cA M D))) (a' := ?_) #[true, true, false, false, false] rfl rfl (by kernel_rfl) (fun _ _ _ h => h) (Or.inl ⟨by rfl, fun w' s0 => s0.run_row 7 rfl rfl rfl Try.underlying39 rfl hs39⟩) hHeld ?_ ?_
          rotate_left
          · simp only [Act.put, List.setIfInBounds_toArray, List.set_cons_zero, List.set_cons_succ, i64_w, i32_w]
            rfl
          refine one_ (i := 2) (N := some 40) #[true, true, true, false, false] rfl rfl (by kernel_rfl) (by decide) (fun K hK => ?_)
          refine goes_ Try.func27 (by kernel_rfl) rfl #[.agg ((cA M D))] (by rfl) rfl rfl (by (try simp only [List.map_toArray, List.map_cons, List.map_nil]); first | done | rfl) ?_
          refine (toDisk_call HF.out (H.out.rdA HR.out)).mono ?_
          rintro e w40 ⟨M40, rfl, ho, hb⟩
          refine ⟨_, rfl, ?_⟩
          have O40 := Az.mk ho
          clear ho
          have H1 := Az.mk (H.out.made hb); clear hb; clear H; have H := H1; clear H1
          refine hK.out _ _ (H.out.less) (fun hHeld => ?_)
          clear hK K
          refine norm_ (a' := ?_) ?_ ?_
          rotate_left
          · show Act.put _ (some 40) _ = _
            simp only [Act.put, List.setIfInBounds_toArray, List.set_cons_zero, List.set_cons_succ, i64_w, i32_w]
            rfl
          refine one_ (i := 3) (N := some 41) #[true, true, true, true, false] rfl rfl (by kernel_rfl) (by decide) (fun K hK => ?_)
          refine goes_ Try.func22 (by kernel_rfl) rfl #[.agg ((cD M29 (toD D))), .agg (cD M40 (toD D))] (by rfl) rfl rfl (by (try simp only [List.map_toArray, List.map_cons, List.map_nil]); first | done | rfl) ?_
          refine (eqDisk_call HF.out (H.out.rd 4 rfl O29.out) (H.out.rd 0 rfl O40.out)).mono ?_
          rintro e w41 ⟨rfl, hb⟩
          refine ⟨_, rfl, ?_⟩
          have H1 := Az.mk (H.out.step hb); clear hb; clear H; have H := H1; clear H1
          refine hK.out _ _ (H.out.less) (fun hHeld => ?_)
          clear hK K
          refine norm_ (a' := ?_) ?_ ?_
          rotate_left
          · show Act.put _ (some 41) _ = _
            simp only [Act.put, List.setIfInBounds_toArray, List.set_cons_zero, List.set_cons_succ, i64_w, i32_w]
            rfl
          refine zqp (i := 4) (N := some 42) (v := ?_) (a' := ?_) #[true, true, true, true, true] rfl rfl (by kernel_rfl) (fun _ _ _ h => h) (Or.inl ⟨by rfl, ?_⟩) ?_ ?_
          rotate_left
          · intro w'
            go_simp
            with_reducible rfl
          rotate_left
          · simp only [Act.put, List.setIfInBounds_toArray, List.set_cons_zero, List.set_cons_succ, i64_w, i32_w]
            rfl
          refine done_ (by kernel_rfl) ?_
          skip
          go_upto_region 27 with (first | ((with_reducible refine zqg (N := 43) rfl ?_); refine H.out.ld_row 3 rfl rfl rfl rfl Try.underlying28 rfl hs28 ?_; (try simp only [Act.put, List.setIfInBounds_toArray, List.set_cons_zero, List.set_cons_succ])) | (go_at_call 23; have _tk := tk4; refine (markDisk_call HF.out H.out.bel (H.out.same_ge 4 rfl) (H.out.own 4 rfl O29.out)).mono ?_; rintro e w45 ⟨m45, D45, rfl, hc, ho, hh, hf, hb, hk⟩; have C45 := Az.mk hc; have O45 := Az.mk ho; have HH45 := Az.mk hh; have c45 : decide ((m45 : Int) < 0) = false := decide_eq_false (by omega); clear ho hc hh hf; have H1 := Az.mk (H.out.wrote 4 rfl hb hk); clear hb hk; clear H; have H := H1; clear H1; clear tk4 _tk; have tk5 : True := trivial) | ((with_reducible refine zqg (N := 49) rfl ?_); refine gate_guard (by rfl) ?_; dsimp only; refine H.out.ld_row 1 rfl rfl rfl rfl Try.underlying28 rfl hs28 ?_; (try simp only [Act.put, List.setIfInBounds_toArray, List.set_cons_zero, List.set_cons_succ])) | ((with_reducible refine zqg (N := 50) rfl ?_); refine gate_guard (by rfl) ?_; dsimp only; refine H.out.ld_row 5 rfl rfl rfl rfl Try.underlying28 rfl hs28 ?_; (try simp only [Act.put, List.setIfInBounds_toArray, List.set_cons_zero, List.set_cons_succ])) | (go_at_call 22; have _tk := tk5; refine (eqDisk_call HG.out (H.out.rd 2 rfl O33.out) (H.out.rd 6 rfl O27.out)).mono ?_; rintro e w51 ⟨rfl, hb⟩; have H1 := Az.mk (H.out.step hb); clear hb; clear H; have H := H1; clear H1; clear tk5 _tk; have tk6 : True := trivial) | ((with_reducible refine zqg (N := 54) rfl ?_); refine H.out.ld_row 1 rfl rfl rfl rfl Try.underlying28 rfl hs28 ?_; (try simp only [Act.put, List.setIfInBounds_toArray, List.set_cons_zero, List.set_cons_succ])) | (go_at_call 23; have _tk := tk6; refine (markDisk_call HG.out H.out.bel (H.out.same_ge 2 rfl) (H.out.own 2 rfl O33.out)).mono ?_; rintro e w56 ⟨m56, D56, rfl, hc, ho, hh, hf, hb, hk⟩; have C56 := Az.mk hc; have O56 := Az.mk ho; have HH56 := Az.mk hh; have c56 : decide ((m56 : Int) < 0) = false := decide_eq_false (by omega); clear ho hc hh hf; have H1 := Az.mk (H.out.wrote 2 rfl hb hk); clear hb hk; clear H; have H := H1; clear H1; clear tk6 _tk; have tk7 : True := trivial) | ((with_reducible refine zqg (N := 57) rfl ?_); refine H.out.ld_row 1 rfl rfl rfl rfl Try.underlying28 rfl hs28 ?_; (try simp only [Act.put, List.setIfInBounds_toArray, List.set_cons_zero, List.set_cons_succ])) | (go_at_call 24; have _tk := tk7; refine (held_call C56.out HH56.out (H.out.rd 2 rfl O56.out)).mono ?_; rintro e w59 ⟨rfl, hb⟩; have H1 := Az.mk (H.out.step hb); clear hb; clear H; have H := H1; clear H1; clear tk7 _tk; have tk8 : True := trivial))
          (try simp only [Act.put, List.setIfInBounds_toArray, List.set_cons_zero, List.set_cons_succ])
          go_cut [12] (fun v12 wc => ∃ (g12 : Nat) (M69 : Mm) (lo_p69 hi_p69 : Nat) (wr_p69 : World), v12 = .pointer (some ⟨g12, 0, none⟩) ∧ Az (Own wr_p69 lo_p69 hi_p69 M69 (putD (toD D) (pt q))) ∧ Az (Hd w.heap.size w wc [.box g12 ((cD M69 (putD (toD D) (pt q)))) 28, .same lo_p69 hi_p69 wr_p69, .same (wd13.heap.size) (w40.heap.size) w40, .box g8 ((cD M33 (putD (toD D) (pt q)))) 28, .same (lo_p33) (hi_p33) w56, .box g7 ((cD M29 (toD D))) 28, .same (wc8.heap.size) (w29.heap.size) w45, .box g6 ((cD M27 (putD (toD D) (pt q)))) 28, .same (lo_p27) (hi_p27) wr_p27, .box g3 ((cQ q)) 65, .box g2 ((cA M D)) 39]))
          case first =>
            refine start_ (n := 7) (S := fun w' => Hd w.heap.size w w' [.same (wd13.heap.size) (w40.heap.size) w40, .box g8 ((cD M33 (putD (toD D) (pt q)))) 28, .same (lo_p33) (hi_p33) w56, .box g7 ((cD M29 (toD D))) 28, .same (wc8.heap.size) (w29.heap.size) w45, .box g6 ((cD M27 (putD (toD D) (pt q)))) 28, .same (lo_p27) (hi_p27) wr_p27, .box g3 ((cQ q)) 65, .box g2 ((cA M D)) 39]) (ds := []) #[false, false, false, false, false, false, false] (by kernel_rfl) rfl rfl (H.out.drew) (fun hHeld => ?_)
            clear H
            generalize World.drew w59 = wd27 at hHeld ⊢
            have H := Az.mk hHeld
            refine zqt (i := 0) (N := some 65) (v := .agg ((cA M D))) (a' := ?_) #[true, false, false, false, false, false, false] rfl rfl (by kernel_rfl) (fun _ _ _ h => h) (Or.inl ⟨by rfl, fun w' s0 => s0.run_row 8 rfl rfl rfl Try.underlying39 rfl hs39⟩) hHeld ?_ ?_
            rotate_left
            · simp only [Act.put, List.setIfInBounds_toArray, List.set_cons_zero, List.set_cons_succ, i64_w, i32_w]
              rfl
            refine zqt (i := 2) (N := some 67) (v := .agg ((cQ q))) (a' := ?_) #[true, false, true, false, false, false, false] rfl rfl (by kernel_rfl) (fun _ _ _ h => h) (Or.inl ⟨by rfl, fun w' s0 => s0.run_row 7 rfl rfl rfl Try.underlying65 rfl hs65⟩) hHeld ?_ ?_
            rotate_left
            · simp only [Act.put, List.setIfInBounds_toArray, List.set_cons_zero, List.set_cons_succ, i64_w, i32_w]
              rfl
            refine two_ (i := 1) (j := 5) (Ni := some 66) (Nj := some 12) #[true, true, true, false, false, false, false] #[true, false, true, false, false, true, false] rfl rfl rfl rfl (by kernel_rfl) (by decide) (by decide) ?_ ?_
            · intro K hK
              refine goes_ Try.func27 (by kernel_rfl) rfl #[.agg ((cA M D))] (by rfl) rfl rfl (by (try simp only [List.map_toArray, List.map_cons, List.map_nil]); first | done | rfl) ?_
              refine (toDisk_call HF.out (H.out.rdA HR.out)).mono ?_
              rintro e w66 ⟨M66, rfl, ho, hb⟩
              refine ⟨_, rfl, ?_⟩
              have O66 := Az.mk ho
              clear ho
              have H1 := Az.mk (H.out.made hb); clear hb; clear H; have H := H1; clear H1
              refine hK.out _ _ (H.out.less) (fun hHeld => ?_)
              clear hK K
              refine norm_ (a' := ?_) ?_ ?_
              rotate_left
              · show Act.put _ (some 66) _ = _
                simp only [Act.put, List.setIfInBounds_toArray, List.set_cons_zero, List.set_cons_succ, i64_w, i32_w]
                rfl
              refine two_ (i := 3) (j := 5) (Ni := some 68) (Nj := some 12) #[true, true, true, true, false, false, false] #[true, true, true, false, false, true, false] rfl rfl rfl rfl (by kernel_rfl) (by decide) (by decide) ?_ ?_
              · intro K hK
                refine goes_ Try.func46 (by kernel_rfl) rfl #[.agg ((cQ q))] (by rfl) rfl rfl (by (try simp only [List.map_toArray, List.map_cons, List.map_nil]); first | done | rfl) ?_
                refine (toPut_call q).mono ?_
                rintro e w68 ⟨rfl, hb⟩
                refine ⟨_, rfl, ?_⟩
                have H1 := Az.mk (H.out.step hb); clear hb; clear H; have H := H1; clear H1
                refine hK.out _ _ (H.out.less) (fun hHeld => ?_)
                clear hK K
                refine norm_ (a' := ?_) ?_ ?_
                rotate_left
                · show Act.put _ (some 68) _ = _
                  simp only [Act.put, List.setIfInBounds_toArray, List.set_cons_zero, List.set_cons_succ, i64_w, i32_w]
                  rfl
                refine two_ (i := 4) (j := 5) (Ni := some 69) (Nj := some 12) #[true, true, true, true, true, false, false] #[true, true, true, true, false, true, false] rfl rfl rfl rfl (by kernel_rfl) (by decide) (by decide) ?_ ?_
                · intro K hK
                  refine goes_ Try.func38 (by kernel_rfl) rfl #[.agg (cD M66 (toD D)), .agg (cP (pt q))] (by rfl) rfl rfl (by (try simp only [List.map_toArray, List.map_cons, List.map_nil]); first | done | rfl) ?_
                  refine (implPut_call (p := pt q)  (H.out.rd 0 rfl O66.out)).mono ?_
                  rintro e w69 ⟨M69, rfl, ho, hb⟩
                  refine ⟨_, rfl, ?_⟩
                  have O69 := Az.mk ho
                  clear ho
                  have H1 := Az.mk (H.out.made hb); clear hb; clear H; have H := H1; clear H1
                  refine hK.out _ _ (H.out.less.less) (fun hHeld => ?_)
                  clear hK K
                  refine norm_ (a' := ?_) ?_ ?_
                  rotate_left
                  · show Act.put _ (some 69) _ = _
                    simp only [Act.put, List.setIfInBounds_toArray, List.set_cons_zero, List.set_cons_succ, i64_w, i32_w]
                    rfl
                  refine one_ (i := 5) (N := some 12) #[true, true, true, true, true, true, false] rfl rfl (by kernel_rfl) (by decide) (fun K hK => ?_)
                  refine H.out.bx_ (by rfl) (#[.int .i64 0, .slice none 0 0, .slice none 0 0, .slice none 0 0, .slice none 0 0]) 28 ?hr ?_
                  (case hr => first | (go_simp; done) | (go_simp; rfl))
                  intro g12 w12 H1
                  clear H; have H := H1; clear H1
                  refine hK.out _ _ (H.out.less.less.less) (fun hHeld => ?_)
                  clear hK K
                  refine norm_ (a' := ?_) ?_ ?_
                  rotate_left
                  · show Act.put _ (some 12) _ = _
                    simp only [Act.put, List.setIfInBounds_toArray, List.set_cons_zero, List.set_cons_succ, i64_w, i32_w]
                    rfl
                  refine one_ (i := 6) (N := none) #[true, true, true, true, true, true, true] rfl rfl (by kernel_rfl) (by decide) (fun K hK => ?_)
                  refine H.out.st_ 0 rfl (by rfl) (x := .tmp 12) (y := .tmp 69) rfl rfl rfl ((cD M69 (putD (toD D) (pt q)))) rfl hs28 rfl (cD_one _ _) ?_
                  intro ws27_6 H1
                  clear H; have H := H1; clear H1
                  refine hK.out _ _ (H.out.less.less.less) (fun hHeld => ?_)
                  clear hK K
                  refine norm_ (a' := ?_) ?_ ?_
                  rotate_left
                  · rfl
                  refine done_ (by kernel_rfl) ?_
                  try go_wp2
                  go_meet
                  case rel => exact ⟨g12, M69, _, _, _, rfl, O69, ⟨H.out.sel [0, 1, 3, 4, 5, 6, 7, 8, 9, 10, 11] _ (by decide) rfl⟩⟩
                · intro K hK
                  refine H.out.bx_ (by rfl) (#[.int .i64 0, .slice none 0 0, .slice none 0 0, .slice none 0 0, .slice none 0 0]) 28 ?hr ?_
                  (case hr => first | (go_simp; done) | (go_simp; rfl))
                  intro g12 w12 H1
                  clear H; have H := H1; clear H1
                  refine hK.out _ _ (H.out.less.less) (fun hHeld => ?_)
                  clear hK K
                  refine norm_ (a' := ?_) ?_ ?_
                  rotate_left
                  · show Act.put _ (some 12) _ = _
                    simp only [Act.put, List.setIfInBounds_toArray, List.set_cons_zero, List.set_cons_succ, i64_w, i32_w]
                    rfl
                  refine one_ (i := 4) (N := some 69) #[true, true, true, true, true, true, false] rfl rfl (by kernel_rfl) (by decide) (fun K hK => ?_)
                  refine goes_ Try.func38 (by kernel_rfl) rfl #[.agg (cD M66 (toD D)), .agg (cP (pt q))] (by rfl) rfl rfl (by (try simp only [List.map_toArray, List.map_cons, List.map_nil]); first | done | rfl) ?_
                  refine (implPut_call (p := pt q)  (H.out.rd 1 rfl O66.out)).mono ?_
                  rintro e w69 ⟨M69, rfl, ho, hb⟩
                  refine ⟨_, rfl, ?_⟩
                  have O69 := Az.mk ho
                  clear ho
                  have H1 := Az.mk (H.out.made hb); clear hb; clear H; have H := H1; clear H1
                  refine hK.out _ _ (H.out.less.less.less) (fun hHeld => ?_)
                  clear hK K
                  refine norm_ (a' := ?_) ?_ ?_
                  rotate_left
                  · show Act.put _ (some 69) _ = _
                    simp only [Act.put, List.setIfInBounds_toArray, List.set_cons_zero, List.set_cons_succ, i64_w, i32_w]
                    rfl
                  refine one_ (i := 6) (N := none) #[true, true, true, true, true, true, true] rfl rfl (by kernel_rfl) (by decide) (fun K hK => ?_)
                  refine H.out.st_ 1 rfl (by rfl) (x := .tmp 12) (y := .tmp 69) rfl rfl rfl ((cD M69 (putD (toD D) (pt q)))) rfl hs28 rfl (cD_one _ _) ?_
                  intro ws27_6 H1
                  clear H; have H := H1; clear H1
                  refine hK.out _ _ (H.out.less.less.less) (fun hHeld => ?_)
                  clear hK K
                  refine norm_ (a' := ?_) ?_ ?_
                  rotate_left
                  · rfl
                  refine done_ (by kernel_rfl) ?_
                  try go_wp2
                  go_meet
                  case rel => exact ⟨g12, M69, _, _, _, rfl, O69, ⟨H.out.sel [1, 0, 3, 4, 5, 6, 7, 8, 9, 10, 11] _ (by decide) rfl⟩⟩
              · intro K hK
                refine H.out.bx_ (by rfl) (#[.int .i64 0, .slice none 0 0, .slice none 0 0, .slice none 0 0, .slice none 0 0]) 28 ?hr ?_
                (case hr => first | (go_simp; done) | (go_simp; rfl))
                intro g12 w12 H1
                clear H; have H := H1; clear H1
                refine hK.out _ _ (H.out.less.less) (fun hHeld => ?_)
                clear hK K
                refine norm_ (a' := ?_) ?_ ?_
                rotate_left
                · show Act.put _ (some 12) _ = _
                  simp only [Act.put, List.setIfInBounds_toArray, List.set_cons_zero, List.set_cons_succ, i64_w, i32_w]
                  rfl
                refine one_ (i := 3) (N := some 68) #[true, true, true, true, false, true, false] rfl rfl (by kernel_rfl) (by decide) (fun K hK => ?_)
                refine goes_ Try.func46 (by kernel_rfl) rfl #[.agg ((cQ q))] (by rfl) rfl rfl (by (try simp only [List.map_toArray, List.map_cons, List.map_nil]); first | done | rfl) ?_
                refine (toPut_call q).mono ?_
                rintro e w68 ⟨rfl, hb⟩
                refine ⟨_, rfl, ?_⟩
                have H1 := Az.mk (H.out.step hb); clear hb; clear H; have H := H1; clear H1
                refine hK.out _ _ (H.out.less.less) (fun hHeld => ?_)
                clear hK K
                refine norm_ (a' := ?_) ?_ ?_
                rotate_left
                · show Act.put _ (some 68) _ = _
                  simp only [Act.put, List.setIfInBounds_toArray, List.set_cons_zero, List.set_cons_succ, i64_w, i32_w]
                  rfl
                refine one_ (i := 4) (N := some 69) #[true, true, true, true, true, true, false] rfl rfl (by kernel_rfl) (by decide) (fun K hK => ?_)
                refine goes_ Try.func38 (by kernel_rfl) rfl #[.agg (cD M66 (toD D)), .agg (cP (pt q))] (by rfl) rfl rfl (by (try simp only [List.map_toArray, List.map_cons, List.map_nil]); first | done | rfl) ?_
                refine (implPut_call (p := pt q)  (H.out.rd 1 rfl O66.out)).mono ?_
                rintro e w69 ⟨M69, rfl, ho, hb⟩
                refine ⟨_, rfl, ?_⟩
                have O69 := Az.mk ho
                clear ho
                have H1 := Az.mk (H.out.made hb); clear hb; clear H; have H := H1; clear H1
                refine hK.out _ _ (H.out.less.less.less) (fun hHeld => ?_)
                clear hK K
                refine norm_ (a' := ?_) ?_ ?_
                rotate_left
                · show Act.put _ (some 69) _ = _
                  simp only [Act.put, List.setIfInBounds_toArray, List.set_cons_zero, List.set_cons_succ, i64_w, i32_w]
                  rfl
                refine one_ (i := 6) (N := none) #[true, true, true, true, true, true, true] rfl rfl (by kernel_rfl) (by decide) (fun K hK => ?_)
                refine H.out.st_ 1 rfl (by rfl) (x := .tmp 12) (y := .tmp 69) rfl rfl rfl ((cD M69 (putD (toD D) (pt q)))) rfl hs28 rfl (cD_one _ _) ?_
                intro ws27_6 H1
                clear H; have H := H1; clear H1
                refine hK.out _ _ (H.out.less.less.less) (fun hHeld => ?_)
                clear hK K
                refine norm_ (a' := ?_) ?_ ?_
                rotate_left
                · rfl
                refine done_ (by kernel_rfl) ?_
                try go_wp2
                go_meet
                case rel => exact ⟨g12, M69, _, _, _, rfl, O69, ⟨H.out.sel [1, 0, 3, 4, 5, 6, 7, 8, 9, 10, 11] _ (by decide) rfl⟩⟩
            · intro K hK
              refine H.out.bx_ (by rfl) (#[.int .i64 0, .slice none 0 0, .slice none 0 0, .slice none 0 0, .slice none 0 0]) 28 ?hr ?_
              (case hr => first | (go_simp; done) | (go_simp; rfl))
              intro g12 w12 H1
              clear H; have H := H1; clear H1
              refine hK.out _ _ (H.out.less) (fun hHeld => ?_)
              clear hK K
              refine norm_ (a' := ?_) ?_ ?_
              rotate_left
              · show Act.put _ (some 12) _ = _
                simp only [Act.put, List.setIfInBounds_toArray, List.set_cons_zero, List.set_cons_succ, i64_w, i32_w]
                rfl
              refine one_ (i := 1) (N := some 66) #[true, true, true, false, false, true, false] rfl rfl (by kernel_rfl) (by decide) (fun K hK => ?_)
              refine goes_ Try.func27 (by kernel_rfl) rfl #[.agg ((cA M D))] (by rfl) rfl rfl (by (try simp only [List.map_toArray, List.map_cons, List.map_nil]); first | done | rfl) ?_
              refine (toDisk_call HF.out (H.out.rdA HR.out)).mono ?_
              rintro e w66 ⟨M66, rfl, ho, hb⟩
              refine ⟨_, rfl, ?_⟩
              have O66 := Az.mk ho
              clear ho
              have H1 := Az.mk (H.out.made hb); clear hb; clear H; have H := H1; clear H1
              refine hK.out _ _ (H.out.less.less) (fun hHeld => ?_)
              clear hK K
              refine norm_ (a' := ?_) ?_ ?_
              rotate_left
              · show Act.put _ (some 66) _ = _
                simp only [Act.put, List.setIfInBounds_toArray, List.set_cons_zero, List.set_cons_succ, i64_w, i32_w]
                rfl
              refine one_ (i := 3) (N := some 68) #[true, true, true, true, false, true, false] rfl rfl (by kernel_rfl) (by decide) (fun K hK => ?_)
              refine goes_ Try.func46 (by kernel_rfl) rfl #[.agg ((cQ q))] (by rfl) rfl rfl (by (try simp only [List.map_toArray, List.map_cons, List.map_nil]); first | done | rfl) ?_
              refine (toPut_call q).mono ?_
              rintro e w68 ⟨rfl, hb⟩
              refine ⟨_, rfl, ?_⟩
              have H1 := Az.mk (H.out.step hb); clear hb; clear H; have H := H1; clear H1
              refine hK.out _ _ (H.out.less.less) (fun hHeld => ?_)
              clear hK K
              refine norm_ (a' := ?_) ?_ ?_
              rotate_left
              · show Act.put _ (some 68) _ = _
                simp only [Act.put, List.setIfInBounds_toArray, List.set_cons_zero, List.set_cons_succ, i64_w, i32_w]
                rfl
              refine one_ (i := 4) (N := some 69) #[true, true, true, true, true, true, false] rfl rfl (by kernel_rfl) (by decide) (fun K hK => ?_)
              refine goes_ Try.func38 (by kernel_rfl) rfl #[.agg (cD M66 (toD D)), .agg (cP (pt q))] (by rfl) rfl rfl (by (try simp only [List.map_toArray, List.map_cons, List.map_nil]); first | done | rfl) ?_
              refine (implPut_call (p := pt q)  (H.out.rd 0 rfl O66.out)).mono ?_
              rintro e w69 ⟨M69, rfl, ho, hb⟩
              refine ⟨_, rfl, ?_⟩
              have O69 := Az.mk ho
              clear ho
              have H1 := Az.mk (H.out.made hb); clear hb; clear H; have H := H1; clear H1
              refine hK.out _ _ (H.out.less.less.less) (fun hHeld => ?_)
              clear hK K
              refine norm_ (a' := ?_) ?_ ?_
              rotate_left
              · show Act.put _ (some 69) _ = _
                simp only [Act.put, List.setIfInBounds_toArray, List.set_cons_zero, List.set_cons_succ, i64_w, i32_w]
                rfl
              refine one_ (i := 6) (N := none) #[true, true, true, true, true, true, true] rfl rfl (by kernel_rfl) (by decide) (fun K hK => ?_)
              refine H.out.st_ 2 rfl (by rfl) (x := .tmp 12) (y := .tmp 69) rfl rfl rfl ((cD M69 (putD (toD D) (pt q)))) rfl hs28 rfl (cD_one _ _) ?_
              intro ws27_6 H1
              clear H; have H := H1; clear H1
              refine hK.out _ _ (H.out.less.less.less) (fun hHeld => ?_)
              clear hK K
              refine norm_ (a' := ?_) ?_ ?_
              rotate_left
              · rfl
              refine done_ (by kernel_rfl) ?_
              try go_wp2
              go_meet
              case rel => exact ⟨g12, M69, _, _, _, rfl, O69, ⟨H.out.sel [2, 0, 3, 4, 5, 6, 7, 8, 9, 10, 11] _ (by decide) rfl⟩⟩
          case rest =>
            obtain ⟨g12, M69, lo_p69, hi_p69, wr_p69, rfl, O69, HC27⟩ := hcut
            clear H
            have H := HC27
            clear HC27
            obtain ⟨wc27, hwc⟩ : ∃ x, x = wc := ⟨_, rfl⟩
            rw [← hwc] at H ⊢
            clear hwc wc
            go_wp2_with (first | ((with_reducible refine zqg (N := 70) rfl ?_); refine H.out.ld_row 0 rfl rfl rfl rfl Try.underlying28 rfl hs28 ?_; (try simp only [Act.put, List.setIfInBounds_toArray, List.set_cons_zero, List.set_cons_succ])) | ((with_reducible refine zqg (N := 71) rfl ?_); refine H.out.ld_row 7 rfl rfl rfl rfl Try.underlying28 rfl hs28 ?_; (try simp only [Act.put, List.setIfInBounds_toArray, List.set_cons_zero, List.set_cons_succ])) | (go_at_call 22; have _tk := tk8; refine (eqDisk_call HG.out (H.out.rd 1 rfl O69.out) (H.out.rd 8 rfl O27.out)).mono ?_; rintro e w72 ⟨rfl, hb⟩; have H1 := Az.mk (H.out.step hb); clear hb; clear H; have H := H1; clear H1; clear tk8 _tk; have tk9 : True := trivial) | ((with_reducible refine zqg (N := 74) rfl ?_); refine H.out.ld_row 3 rfl rfl rfl rfl Try.underlying28 rfl hs28 ?_; (try simp only [Act.put, List.setIfInBounds_toArray, List.set_cons_zero, List.set_cons_succ])) | (go_at_call 24; have _tk := tk9; refine (held_call C56.out HH56.out (H.out.rd 4 rfl O56.out)).mono ?_; rintro e w76 ⟨rfl, hb⟩; have H1 := Az.mk (H.out.step hb); clear hb; clear H; have H := H1; clear H1; clear tk9 _tk; have tk10 : True := trivial))
            go_ret
            exact ⟨rfl, H.out.bel⟩
end Go.Proofs.Ytkgpnloghmbmlaa.Hd
namespace Go.Proofs.Ytkgpnloghmbmlaa.fnExactDiskPut
open Go.ChangeShapes Go.WideShapes Go.ChangeAt Go.RowKit Go.Proofs.Ytkgpnloghmbmlaa.Print Go.Proofs.Ytkgpnloghmbmlaa.Take Go.Proofs.YtkgpnloghmbmlaaW.PrintWords
open Go.ChangeMaps (open_string shut_string)
set_option linter.unusedVariables false
theorem own : ownKnob Try.prog.godebug = none := by kernel_rfl
theorem laidOut : laidOutB Try.prog = true := by kernel_rfl
set_option maxRecDepth 100000 in
theorem lifted (os : Os) (started : os.Started) (H : Type) (enc : TypeId × Value → H) :
    ReturnsInHanded {} Try.checked os 15 .any (Rows.fnExactDiskPutSpec.pre6 enc Try.prog Try.f15 Rows.fnExactDiskPutRow.domain false) (Rows.fnExactDiskPutSpec.post enc Try.prog Try.f15 false true false false) := by
  refine returnsInHanded_of_change_sized (C := Try.checked) own started (by kernel_rfl) Try.func15
    (ChangeSpec.witness6 (enc := enc) (C := Try.checked) false ⟨#[], #[.agg #[.int .i64 0, .slice none 0 0, .slice none 0 0, .slice none 0 0, .slice none 0 0], .agg #[.bool false, .int .i64 0, .string ByteArray.empty]], []⟩ 8 (by kernel_rfl) (by kernel_rfl) (by kernel_rfl) (by kernel_rfl)) ?_
  intro W base args ds gs before hval0 hW hcnd hsz0 _
  have hsz : (DataW.weightsEach Try.prog (Try.f15.params.toList ++ Rows.fnExactDiskPutSpec.plain.varTypes Try.prog) (ds ++ gs)).all (· ≤ reachBytes) = true := hsz0
  have hval : ∀ (j : Nat) t v, Try.f15.params[j]? = some t → args[j]? = some v → Value.okWide Try.prog W .any base t v := hval0
  have hW' := hW
  obtain ⟨p, q, hA0, hV, rfl, hfz, hnd⟩ := hW
  have hA : DataW.TrodAll enc Try.prog W 0 (fun _ => true) true Try.f15.params.toList args.toList ds p := hA0
  rw [Try.params15] at hA hval hsz
  obtain ⟨v0, vs0, d0, ds0, p0, q0, hargs, rfl, rfl, h0, r0⟩ := trodAll_cons hA
  obtain ⟨v1, vs1, d1, ds1, p1, q1, rfl, rfl, rfl, h1, r1⟩ := trodAll_cons r0
  obtain ⟨rfl, rfl, rfl⟩ := trodAll_nil r1
  obtain rfl : args = #[v0, v1] := by cases args; simp_all
  obtain ⟨rfl, rfl⟩ := trodVars_none hV
  obtain ⟨b0, rfl, _⟩ := okWide_struct Try.underlying39 (hval 0 39 v0 rfl rfl)
  have k0 := h0
  have lt0 : ∀ x ∈ p0, x.block < W.heap.size := by obtain ⟨m, hm⟩ := k0; exact DataW.trod_lt m _ _ _ hm
  obtain ⟨n0, hf0⟩ := h0
  obtain ⟨y0, hk0, w0⟩ := o39.opens _ _ _ _ _ _ _ _ _ hf0
  obtain ⟨A0_1, c0_1, A0_2, c0_2, A0_3, c0_3, A0_4, c0_4, hcs0, hc0_1, hr0_1, hc0_2, hr0_2, hc0_3, hr0_3, hc0_4, hr0_4⟩ := k39_open hk0
  obtain rfl : b0 = #[.int .i64 y0.f0, .slice A0_1 y0.f1.length c0_1, .slice A0_2 y0.f2.length c0_2, .slice A0_3 y0.f3.length c0_3, .slice A0_4 y0.f4.length c0_4] := by cases b0; simpa [Value.cells] using hcs0
  obtain ⟨b1, rfl, _⟩ := okWide_struct Try.underlying65 (hval 1 65 v1 rfl rfl)
  have k1 := h1
  have lt1 : ∀ x ∈ p1, x.block < W.heap.size := by obtain ⟨m, hm⟩ := k1; exact DataW.trod_lt m _ _ _ hm
  obtain ⟨n1, hf1⟩ := h1
  obtain ⟨y1, hk1, w1⟩ := o65.opens _ _ _ _ _ _ _ _ _ hf1
  have hcs1 := k65_open hk1
  obtain rfl : b1 = #[.bool y1.f0, .int .i64 y1.f1, .string y1.f2] := by cases b1; simpa [Value.cells] using hcs1
  clear hA0 hval0 hsz0 hsz
  skip
  refine (Hd.law_FnExactDiskPut ⟨A0_1, c0_1, A0_2, c0_2, A0_3, c0_3, A0_4, c0_4⟩ ⟨y0.f0, y0.f1, y0.f2, y0.f3, y0.f4⟩ y1 W ⟨hr0_1, hc0_1, hr0_2, hc0_2, hr0_3, hc0_3, hr0_4, hc0_4⟩ w0 w1.2.2).mono fun e W' ⟨he, bel0⟩ => ?_
  have bel := bel0
  subst he
  exact ⟨_, rfl, _, _, _, [], _, [], hW', trodAll_mk1 (shut_bool Try.underlying4 _), (trodAll_cons_mk (Below.trod laidOut (by kernel_rfl) (of_decide_eq_true (by kernel_rfl)) k0 bel lt0) (trodAll_cons_mk (Below.trod laidOut (by kernel_rfl) (of_decide_eq_true (by kernel_rfl)) k1 bel lt1) trodAll_mk0)), rfl, bel.frame _, fun h => by cases h⟩
theorem over : Rows.fnExactDiskPutRow.holds Try.pinned (OpenSpec.ofChange Rows.fnExactDiskPutSpec) :=
  OpenClaim.holds_of_wide 15 Try.f15 rfl rfl rfl rfl rfl rfl rfl ⟨rfl, rfl, rfl, rfl, rfl⟩ rfl rfl rfl rfl rfl (by kernel_rfl) Try.func15 (by kernel_rfl)
    (of_decide_eq_true (by kernel_rfl)) (by unfold Func.isWrapper; first | (rw [if_pos (by decide +kernel)]; kernel_rfl) | (rw [if_neg (by decide +kernel)]; exact ⟨rfl, rfl⟩))
    (fun os started H enc _ => lifted os started H enc)
theorem proved : Rows.FnExactDiskPutSaid := over
#print axioms proved
end Go.Proofs.Ytkgpnloghmbmlaa.fnExactDiskPut
namespace Go.Proofs.Ytkgpnloghmbmlaa
theorem fnExactDiskPut_holds : Rows.FnExactDiskPutSaid := fnExactDiskPut.proved
end Go.Proofs.Ytkgpnloghmbmlaa
