/- Proved: readDisk: of a disk that is ok a drive, of any other nothing. Conditions: none but what the arguments are. -/
import Derived.Test.YtkgpnloghmbmlaaExFind
import Derived.Test.YtkgpnloghmbmlaaSeg
namespace Go.Proofs.Ytkgpnloghmbmlaa.Print
open Go.RowKit Go.Proofs.YtkgpnloghmbmlaaW.PrintWords Go.Proofs.YtkgpnloghmbmlaaW.PrintLast Go.Proofs.YtkgpnloghmbmlaaW.PrintMore Go.Proofs.Ytkgpnloghmbmlaa.Drv
set_option linter.unusedVariables false
set_option linter.unusedSimpArgs false

def Shaped (st : Int) (sl rg : List ByteArray) (sp : List Bool) (wt : List S54) : Prop := (0 ≤ st ∧ st ≤ 2) ∧ sl.length = 12 ∧ rg.length = 2 ∧ sp.length = 12 ∧ wt.length ≤ 40
instance (st : Int) (sl rg : List ByteArray) (sp : List Bool) (wt : List S54) : Decidable (Shaped st sl rg sp wt) := by unfold Shaped; infer_instance
theorem shaped_eq (st : Int) (sl rg : List ByteArray) (sp : List Bool) (wt : List S54) : impl_Disk_shaped.f st sl rg sp wt = some (decide (Shaped st sl rg sp wt)) := by
  unfold impl_Disk_shaped.f impl_isState.f
  by_cases h0 : st ≥ 0
  · rw [if_pos h0]
    simp only [Option.bind_some]
    by_cases h1 : st ≤ 2
    · rw [if_pos (decide_eq_true h1)]
      by_cases h2 : (sl.length : Int) = 12
      · rw [if_pos h2]
        by_cases h3 : (rg.length : Int) = 2
        · rw [if_pos h3]
          by_cases h4 : (sp.length : Int) = 12
          · rw [if_pos h4]
            congr 1
            rw [Bool.eq_iff_iff, decide_eq_true_iff, decide_eq_true_iff]
            unfold Shaped
            omega
          · rw [if_neg h4, decide_eq_false (by unfold Shaped; omega)]
        · rw [if_neg h3, decide_eq_false (by unfold Shaped; omega)]
      · rw [if_neg h2, decide_eq_false (by unfold Shaped; omega)]
    · rw [decide_eq_false h1, if_neg (by decide), decide_eq_false (by unfold Shaped; omega)]
  · rw [if_neg h0]
    simp only [Option.bind_some]
    rw [if_neg (by decide), decide_eq_false (by unfold Shaped; omega)]

def badSlot (t : ByteArray) (s : Bool) : Bool := if t.size = 0 then s else decide (t.size ≠ 3)
structure Good (st : Int) (sl rg : List ByteArray) (sp : List Bool) (wt : List S54) : Prop where
  sh : Shaped st sl rg sp wt
  wa : wt.any (fun x => !putB x) = false
  so : ∀ i, i < 12 → badSlot (sl.getD i ByteArray.empty) (sp.getD i false) = false
  ro : rg.any (fun x : ByteArray => decide ((x.size : Int) > 700)) = false
  go : st = 1 → sl.all (fun x => x.size == 0) = true ∧ rg.all (fun x => x.size == 0) = true ∧ wt.length = 0

set_option maxHeartbeats 4000000 in
set_option maxRecDepth 100000 in
theorem readDisk_shape (st : Int) (A1 : Option Addr) (c1 : Nat) (sl : List ByteArray) (A2 : Option Addr) (c2 : Nat) (rg : List ByteArray) (A3 : Option Addr) (c3 : Nat) (sp : List Bool) (A4 : Option Addr) (c4 : Nat) (wt : List S54) (w : World) (hr1 : Kd.C Kd.string w A1 sl.length sl) (hc1 : sl.length ≤ c1) (hr2 : Kd.C Kd.string w A2 rg.length rg) (hc2 : rg.length ≤ c2) (hr3 : Kd.C Kd.bool w A3 sp.length sp) (hc3 : sp.length ≤ c3) (hr4 : Kd.C k54 w A4 wt.length wt) (hc4 : wt.length ≤ c4) (hbad : ¬ Shaped st sl rg sp wt) :
    Calls Try.prog 52 #[.agg #[.int .i64 st, .slice A1 sl.length c1, .slice A2 rg.length c2, .slice A3 sp.length c3, .slice A4 wt.length c4]] w fun e w' => e = .returned (.tuple #[.pointer none, .bool false]) ∧ Below w.heap.size w w' := by
  have hu28 := Try.underlying28
  have HS := Aside0.mk (fun (W : World) (hb : Below w.heap.size w W) => impl_Disk_shaped.calls st _ _ sl _ _ rg _ _ sp _ _ wt _ W (Kd.C_below hr1 hb) hc1 (Kd.C_below hr2 hb) hc2 (Kd.C_below hr3 hb) hc3 (Kd.C_below hr4 hb) hc4 (shaped_eq st sl rg sp wt))
  have HW := Aside0.mk (fun (W : World) (hb : Below w.heap.size w W) => containsPut A4 c4 wt W (Kd.C_below hr4 hb) hc4)
  have HG := Aside0.mk (fun (W : World) (hb : Below w.heap.size w W) => containsText A2 c2 rg W (Kd.C_below hr2 hb) hc2)
  have HR1 := Aside0.mk hr1
  have HR2 := Aside0.mk hr2
  have HR3 := Aside0.mk hr3
  have HR4 := Aside0.mk hr4
  have HM := Aside0.mk (Kd.C_max hr4)
  clear hr1 hr2 hr3 hr4 hc1 hc2 hc3 hc4
  have HB := Aside0.mk (Below.refl w.heap.size w)
  rw [decide_eq_false hbad] at HS
  clear hbad
  go_enter Try.func52, Try.ntmps52
  go_wp2_with (first | ((with_reducible refine gate_dst (N := 1) rfl ?_); refine box_event ?hg (N := 1) ?hd (cs := #[.int .i64 st, .slice A1 sl.length c1, .slice A2 rg.length c2, .slice A3 sp.length c3, .slice A4 wt.length c4]) (t := 28) ?hr ?_; (case hd => rfl); (case hg => rfl); (case hr => first | (go_simp; done) | (go_simp; rfl)); intro gb hg w1 hbox hb; have n0_ := Aside0.mk (below_step (by repeat (first | (with_reducible first | exact HB.out | apply below_alloc | apply pw_below_drewN | apply below_drew1) | exact HB.out)) hb); have n1_ := Aside0.mk hbox; clear HB; have HB := n0_; have BK := n1_; clear n0_ n1_ hb hbox hg; have hcz_0 : w1.cell? ⟨gb, 0, none⟩ = some (.int .i64 st) := (blk_cell BK.out 0).trans rfl; have hcz_1 : w1.cell? ⟨gb, 1, none⟩ = some (.slice A1 sl.length c1) := (blk_cell BK.out 1).trans rfl; have hcz_2 : w1.cell? ⟨gb, 2, none⟩ = some (.slice A2 rg.length c2) := (blk_cell BK.out 2).trans rfl; have hcz_3 : w1.cell? ⟨gb, 3, none⟩ = some (.slice A3 sp.length c3) := (blk_cell BK.out 3).trans rfl; have hcz_4 : w1.cell? ⟨gb, 4, none⟩ = some (.slice A4 wt.length c4) := (blk_cell BK.out 4).trans rfl) | (go_at_call 91; refine (HS.out _ (by repeat (first | (with_reducible first | exact HB.out | apply below_alloc | apply pw_below_drewN | apply below_drew1) | exact HB.out))).mono ?_; rintro e w9 ⟨rfl, hb⟩; have n0_ := Aside0.mk (below_step (by repeat (first | (with_reducible first | exact HB.out | apply below_alloc | apply pw_below_drewN | apply below_drew1) | exact HB.out)) hb); have n1_ := Aside0.mk (blk_below (g := gb) (o := .cells #[.int .i64 st, .slice A1 sl.length c1, .slice A2 rg.length c2, .slice A3 sp.length c3, .slice A4 wt.length c4] 28 (0, 0)) (by (with_reducible repeat (first | refine blk_drewN ?_ _ | refine blk_drew ?_ | refine blk_alloc ?_ _)); exact BK.out) hb); clear HB BK; have HB := n0_; have BK := n1_; clear n0_ n1_ hb; have hcz_0 : w9.cell? ⟨gb, 0, none⟩ = some (.int .i64 st) := (blk_cell BK.out 0).trans rfl; have hcz_1 : w9.cell? ⟨gb, 1, none⟩ = some (.slice A1 sl.length c1) := (blk_cell BK.out 1).trans rfl; have hcz_2 : w9.cell? ⟨gb, 2, none⟩ = some (.slice A2 rg.length c2) := (blk_cell BK.out 2).trans rfl; have hcz_3 : w9.cell? ⟨gb, 3, none⟩ = some (.slice A3 sp.length c3) := (blk_cell BK.out 3).trans rfl; have hcz_4 : w9.cell? ⟨gb, 4, none⟩ = some (.slice A4 wt.length c4) := (blk_cell BK.out 4).trans rfl))
  go_ret2
  exact ⟨rfl, (by repeat (first | (with_reducible first | exact HB.out | apply below_alloc | apply pw_below_drewN | apply below_drew1) | exact HB.out))⟩

set_option maxHeartbeats 4000000 in
set_option maxRecDepth 100000 in
theorem readDisk_wait (st : Int) (A1 : Option Addr) (c1 : Nat) (sl : List ByteArray) (A2 : Option Addr) (c2 : Nat) (rg : List ByteArray) (A3 : Option Addr) (c3 : Nat) (sp : List Bool) (A4 : Option Addr) (c4 : Nat) (wt : List S54) (w : World) (hr1 : Kd.C Kd.string w A1 sl.length sl) (hc1 : sl.length ≤ c1) (hr2 : Kd.C Kd.string w A2 rg.length rg) (hc2 : rg.length ≤ c2) (hr3 : Kd.C Kd.bool w A3 sp.length sp) (hc3 : sp.length ≤ c3) (hr4 : Kd.C k54 w A4 wt.length wt) (hc4 : wt.length ≤ c4) (hs : Shaped st sl rg sp wt) (hbad : wt.any (fun x => !putB x) = true) :
    Calls Try.prog 52 #[.agg #[.int .i64 st, .slice A1 sl.length c1, .slice A2 rg.length c2, .slice A3 sp.length c3, .slice A4 wt.length c4]] w fun e w' => e = .returned (.tuple #[.pointer none, .bool false]) ∧ Below w.heap.size w w' := by
  have hu28 := Try.underlying28
  have HS := Aside0.mk (fun (W : World) (hb : Below w.heap.size w W) => impl_Disk_shaped.calls st _ _ sl _ _ rg _ _ sp _ _ wt _ W (Kd.C_below hr1 hb) hc1 (Kd.C_below hr2 hb) hc2 (Kd.C_below hr3 hb) hc3 (Kd.C_below hr4 hb) hc4 (shaped_eq st sl rg sp wt))
  have HW := Aside0.mk (fun (W : World) (hb : Below w.heap.size w W) => containsPut A4 c4 wt W (Kd.C_below hr4 hb) hc4)
  have HG := Aside0.mk (fun (W : World) (hb : Below w.heap.size w W) => containsText A2 c2 rg W (Kd.C_below hr2 hb) hc2)
  have HR1 := Aside0.mk hr1
  have HR2 := Aside0.mk hr2
  have HR3 := Aside0.mk hr3
  have HR4 := Aside0.mk hr4
  have HM := Aside0.mk (Kd.C_max hr4)
  clear hr1 hr2 hr3 hr4 hc1 hc2 hc3 hc4
  have HB := Aside0.mk (Below.refl w.heap.size w)
  rw [decide_eq_true hs] at HS
  rw [hbad] at HW
  clear hbad hs
  go_enter Try.func52, Try.ntmps52
  go_wp2_with (first | ((with_reducible refine gate_dst (N := 1) rfl ?_); refine box_event ?hg (N := 1) ?hd (cs := #[.int .i64 st, .slice A1 sl.length c1, .slice A2 rg.length c2, .slice A3 sp.length c3, .slice A4 wt.length c4]) (t := 28) ?hr ?_; (case hd => rfl); (case hg => rfl); (case hr => first | (go_simp; done) | (go_simp; rfl)); intro gb hg w1 hbox hb; have n0_ := Aside0.mk (below_step (by repeat (first | (with_reducible first | exact HB.out | apply below_alloc | apply pw_below_drewN | apply below_drew1) | exact HB.out)) hb); have n1_ := Aside0.mk hbox; clear HB; have HB := n0_; have BK := n1_; clear n0_ n1_ hb hbox hg; have hcz_0 : w1.cell? ⟨gb, 0, none⟩ = some (.int .i64 st) := (blk_cell BK.out 0).trans rfl; have hcz_1 : w1.cell? ⟨gb, 1, none⟩ = some (.slice A1 sl.length c1) := (blk_cell BK.out 1).trans rfl; have hcz_2 : w1.cell? ⟨gb, 2, none⟩ = some (.slice A2 rg.length c2) := (blk_cell BK.out 2).trans rfl; have hcz_3 : w1.cell? ⟨gb, 3, none⟩ = some (.slice A3 sp.length c3) := (blk_cell BK.out 3).trans rfl; have hcz_4 : w1.cell? ⟨gb, 4, none⟩ = some (.slice A4 wt.length c4) := (blk_cell BK.out 4).trans rfl) | (go_at_call 91; refine (HS.out _ (by repeat (first | (with_reducible first | exact HB.out | apply below_alloc | apply pw_below_drewN | apply below_drew1) | exact HB.out))).mono ?_; rintro e w9 ⟨rfl, hb⟩; have n0_ := Aside0.mk (below_step (by repeat (first | (with_reducible first | exact HB.out | apply below_alloc | apply pw_below_drewN | apply below_drew1) | exact HB.out)) hb); have n1_ := Aside0.mk (blk_below (g := gb) (o := .cells #[.int .i64 st, .slice A1 sl.length c1, .slice A2 rg.length c2, .slice A3 sp.length c3, .slice A4 wt.length c4] 28 (0, 0)) (by (with_reducible repeat (first | refine blk_drewN ?_ _ | refine blk_drew ?_ | refine blk_alloc ?_ _)); exact BK.out) hb); clear HB BK; have HB := n0_; have BK := n1_; clear n0_ n1_ hb; have hcz_0 : w9.cell? ⟨gb, 0, none⟩ = some (.int .i64 st) := (blk_cell BK.out 0).trans rfl; have hcz_1 : w9.cell? ⟨gb, 1, none⟩ = some (.slice A1 sl.length c1) := (blk_cell BK.out 1).trans rfl; have hcz_2 : w9.cell? ⟨gb, 2, none⟩ = some (.slice A2 rg.length c2) := (blk_cell BK.out 2).trans rfl; have hcz_3 : w9.cell? ⟨gb, 3, none⟩ = some (.slice A3 sp.length c3) := (blk_cell BK.out 3).trans rfl; have hcz_4 : w9.cell? ⟨gb, 4, none⟩ = some (.slice A4 wt.length c4) := (blk_cell BK.out 4).trans rfl) | (go_at_call 92; refine (HW.out _ (by repeat (first | (with_reducible first | exact HB.out | apply below_alloc | apply pw_below_drewN | apply below_drew1) | exact HB.out))).mono ?_; rintro e w10 ⟨rfl, hb⟩; have n0_ := Aside0.mk (below_step (by repeat (first | (with_reducible first | exact HB.out | apply below_alloc | apply pw_below_drewN | apply below_drew1) | exact HB.out)) hb); have n1_ := Aside0.mk (blk_below (g := gb) (o := .cells #[.int .i64 st, .slice A1 sl.length c1, .slice A2 rg.length c2, .slice A3 sp.length c3, .slice A4 wt.length c4] 28 (0, 0)) (by (with_reducible repeat (first | refine blk_drewN ?_ _ | refine blk_drew ?_ | refine blk_alloc ?_ _)); exact BK.out) hb); clear HB BK; have HB := n0_; have BK := n1_; clear n0_ n1_ hb; have hcz_0 : w10.cell? ⟨gb, 0, none⟩ = some (.int .i64 st) := (blk_cell BK.out 0).trans rfl; have hcz_1 : w10.cell? ⟨gb, 1, none⟩ = some (.slice A1 sl.length c1) := (blk_cell BK.out 1).trans rfl; have hcz_2 : w10.cell? ⟨gb, 2, none⟩ = some (.slice A2 rg.length c2) := (blk_cell BK.out 2).trans rfl; have hcz_3 : w10.cell? ⟨gb, 3, none⟩ = some (.slice A3 sp.length c3) := (blk_cell BK.out 3).trans rfl; have hcz_4 : w10.cell? ⟨gb, 4, none⟩ = some (.slice A4 wt.length c4) := (blk_cell BK.out 4).trans rfl))
  go_ret2
  exact ⟨rfl, (by repeat (first | (with_reducible first | exact HB.out | apply below_alloc | apply pw_below_drewN | apply below_drew1) | exact HB.out))⟩

theorem loadAt_list {P : Program} (W : World) (ad : Addr) (ty : TypeId) (cs : List Value) (d : TypeDesc) (hc : ∀ j v, cs[j]? = some v → W.cell? (ad.add j) = some v)
    (hu : P.underlying ty = some d) (hd : (match d with | .struct _ | .array _ _ => true | _ => false) = true) (hi : (P.info? ty).map (·.size) = some cs.length) :
    (Instr.loadAt ty (.pointer (some ad))).run P W = .ok (.agg cs.toArray) W := by
  have hl : (loadCells ad cs.length).run P W = .ok cs.toArray W := run_loadCells_list (P := P) W ad cs hc
  cases hq : P.info? ty with
  | none => simp [hq] at hi
  | some i =>
    have hs : i.size = cs.length := by simpa [hq] using hi
    have hagg : (isAgg ty).run P W = .ok true W := by
      unfold isAgg
      rw [Sem.run_bind, run_underlying hu W]
      cases d <;> simp_all
    simp [Instr.loadAt, Instr.sureAddr, loadVar, Sem.run_bind, hagg, sizeOf, typeInfo, hq, hs, hl]
theorem strs_at {w : World} {A : Option Addr} {l : List ByteArray} (h : Kd.C Kd.string w A l.length l) (h0 : 0 < l.length) : ∃ ad, A = some ad ∧ ∀ j v, (l.map Value.string)[j]? = some v → w.cell? (ad.add j) = some v := by
  obtain ⟨ad, e, _⟩ := Kd.at_string h 0 (by omega) (by omega)
  refine ⟨ad, e, fun j v hv => ?_⟩
  simp only [List.getElem?_map, Option.map_eq_some_iff] at hv
  obtain ⟨s, hs, rfl⟩ := hv
  have hj := (List.getElem?_eq_some_iff.1 hs).1
  obtain ⟨ad', e', hx⟩ := Kd.at_string h (j : Int) (by omega) (by omega)
  obtain rfl : ad = ad' := by rw [e] at e'; exact Option.some.inj e'
  simpa [rdOf, List.getD, hs] using hx
theorem bools_at {w : World} {A : Option Addr} {l : List Bool} (h : Kd.C Kd.bool w A l.length l) (h0 : 0 < l.length) : ∃ ad, A = some ad ∧ ∀ j v, (l.map Value.bool)[j]? = some v → w.cell? (ad.add j) = some v := by
  obtain ⟨ad, e, _⟩ := Kd.at_bool h 0 (by omega) (by omega)
  refine ⟨ad, e, fun j v hv => ?_⟩
  simp only [List.getElem?_map, Option.map_eq_some_iff] at hv
  obtain ⟨s, hs, rfl⟩ := hv
  have hj := (List.getElem?_eq_some_iff.1 hs).1
  obtain ⟨ad', e', hx⟩ := Kd.at_bool h (j : Int) (by omega) (by omega)
  obtain rfl : ad = ad' := by rw [e] at e'; exact Option.some.inj e'
  simpa [rdOf, List.getD, hs] using hx

theorem run_arrayAt {P : Program} {arr e : TypeId} {n : Nat} (hu : P.underlying arr = some (.array n e)) (ad : Addr) (len c : Nat) (h : n ≤ len) (w : World) : (Instr.arrayAt arr (.slice (some ad) len c)).run P w = .ok (.pointer (some ad)) w := by
  simp [Instr.arrayAt, run_underlying hu, Nat.not_lt.2 h]
theorem yields_load {P : Program} {op : Oper} {a : Act} {w : World} (ty : TypeId) (x : Operand) (ho : op.op = .load ty x) (ad : Addr) (hx : a.eval x = .pointer (some ad)) (v : Value)
    (hS : (Instr.loadAt ty (.pointer (some ad))).run P w = .ok v w) : (execOp a.eval op).run P w = .ok (.value v) w := by
  unfold execOp
  simp only [ho, hx, Sem.run_bind, hS, Result.andThen_ok, Sem.run_pure]

/-- What readDisk hands back. -/
def ReadPost (st : Int) (sl rg : List ByteArray) (sp : List Bool) (wt : List S54) (w : World) (e : Ending) (w' : World) : Prop :=
  (¬ Good st sl rg sp wt ∧ e = .returned (.tuple #[.pointer none, .bool false]) ∧ Below w.heap.size w w') ∨ (Good st sl rg sp wt ∧ ∃ g ns, e = .returned (.tuple #[.pointer (some ⟨g, 0, none⟩), .bool true]) ∧ w.heap.size ≤ g ∧ Drv w' g st sp sl rg ns ∧ ns.map (·.2) = wt ∧ Below w.heap.size w w')

theorem neq_ev {P : Program} {ops : Array Oper} {rest : List Oper} {o : Oper} {a : Act} {w : World} {Q : Exit → Act → World → Prop} {t rt : TypeId} {x y : Operand} {xs ys : Array Value} {b : Bool} (hgd : o.guard = none) (ho : o.op = .binOp .neq t x y rt)
    (hx : a.eval x = .agg xs) (hy : a.eval y = .agg ys) (hg : P.eqGuardType P.depth t = false) (he : (Op.equalIn 10000 t (.agg xs) (.agg ys)).run P w = .ok b w) (h : wpList P ops Q rest (a.put o.dst (.bool (!b))) w) : wpList P ops Q (o :: rest) a w :=
  Kd.event_run hgd (by unfold execOp; simp only [ho, hx, hy, Sem.run_bind, run_eqGuard_agg w .neq t x y xs ys hg, Result.andThen_ok, run_neq_struct, he, Sem.run_pure]) h

theorem drv_load {W : World} {g : Nat} {st : Int} {sp : List Bool} {sl rg : List ByteArray} {ns : List (Nat × Pt)} (h : Drv W g st sp sl rg ns) {o : Nat} {l : List ByteArray} {ty : TypeId} {d : TypeDesc}
    (hc : ∀ i, i < l.length → W.cell? ⟨g, o + i, none⟩ = some (.string (l.getD i ByteArray.empty))) (hu : Try.prog.underlying ty = some d) (hd : d.isRow = true) (hi : (Try.prog.info? ty).map (·.size) = some l.length) :
    (Instr.loadAt ty (.pointer (some ⟨g, o, none⟩))).run Try.prog W = .ok (.agg (l.map Value.string).toArray) W :=
  loadAt_list W ⟨g, o, none⟩ ty (l.map Value.string) d (fun j v hv => by
    simp only [List.getElem?_map, Option.map_eq_some_iff] at hv
    obtain ⟨s, hs, rfl⟩ := hv
    rw [show (⟨g, o, none⟩ : Addr).add j = ⟨g, o + j, none⟩ by (unfold Addr.add; split <;> simp_all), hc j (List.getElem?_eq_some_iff.1 hs).1]
    simp [List.getD, hs]) hu (by cases d <;> simp_all [TypeDesc.isRow]) (by simpa using hi)
theorem load_ev {P : Program} {ops : Array Oper} {rest : List Oper} {o : Oper} {a : Act} {w : World} {Q : Exit → Act → World → Prop} {ty : TypeId} {x : Operand} {ad : Addr} (hgd : o.guard = none) (ho : o.op = .load ty x) (v : Value)
    (hl : (Instr.loadAt ty (.pointer (some ad))).run P w = .ok v w) (hx : a.eval x = .pointer (some ad)) (h : wpList P ops Q rest (a.put o.dst v) w) : wpList P ops Q (o :: rest) a w :=
  Kd.event_run hgd (yields_load ty x ho ad hx v hl) h

theorem _root_.ByteArray.size_toList_x (x : ByteArray) : x.toList.length = x.size := by rw [ByteArray.toList_eq, Array.length_toList]; rfl
theorem drv_drewN {W : World} {g : Nat} {st : Int} {sp : List Bool} {sl rg : List ByteArray} {ns : List (Nat × Pt)} (h : Drv W g st sp sl rg ns) (n : Nat) : Drv (W.drewN n) g st sp sl rg ns := h.keep fun _ _ _ => rfl
theorem drv_drew {W : World} {g : Nat} {st : Int} {sp : List Bool} {sl rg : List ByteArray} {ns : List (Nat × Pt)} (h : Drv W g st sp sl rg ns) : Drv W.drew g st sp sl rg ns := h.keep fun _ _ _ => rfl

set_option maxHeartbeats 8000000 in
set_option maxRecDepth 100000 in
theorem readDisk_main (st : Int) (ad1 ad2 ad3 : Addr) (A4 : Option Addr) (c1 c2 c3 c4 : Nat) (s0 s1 s2 s3 s4 s5 s6 s7 s8 s9 s10 s11 : ByteArray) (r0 r1 : ByteArray) (b0 b1 b2 b3 b4 b5 b6 b7 b8 b9 b10 b11 : Bool) (sl rg : List ByteArray) (sp : List Bool) (wt : List S54) (w : World) (esl : sl = [s0, s1, s2, s3, s4, s5, s6, s7, s8, s9, s10, s11]) (erg : rg = [r0, r1]) (esp : sp = [b0, b1, b2, b3, b4, b5, b6, b7, b8, b9, b10, b11])
    (hl1 : ∀ W : World, Below w.heap.size w W → (Instr.loadAt 76 (.pointer (some ad1))).run Try.prog W = .ok (.agg #[.string s0, .string s1, .string s2, .string s3, .string s4, .string s5, .string s6, .string s7, .string s8, .string s9, .string s10, .string s11]) W)
    (hl2 : ∀ W : World, Below w.heap.size w W → (Instr.loadAt 77 (.pointer (some ad2))).run Try.prog W = .ok (.agg #[.string r0, .string r1]) W)
    (hl3 : ∀ W : World, Below w.heap.size w W → (Instr.loadAt 73 (.pointer (some ad3))).run Try.prog W = .ok (.agg #[.bool b0, .bool b1, .bool b2, .bool b3, .bool b4, .bool b5, .bool b6, .bool b7, .bool b8, .bool b9, .bool b10, .bool b11]) W)
    (hcs : ∀ W : World, Below w.heap.size w W → Calls Try.prog 91 #[.agg #[.int .i64 st, .slice (some ad1) 12 c1, .slice (some ad2) 2 c2, .slice (some ad3) 12 c3, .slice A4 wt.length c4]] W fun e w' => e = .returned (.bool true) ∧ Below W.heap.size W w')
    (hcw : ∀ W : World, Below w.heap.size w W → Calls Try.prog 92 #[.slice A4 wt.length c4, .func (.func 93) #[] #[]] W fun e w' => e = .returned (.bool false) ∧ Below W.heap.size W w')
    (hcg : ∀ W : World, Below w.heap.size w W → Calls Try.prog 95 #[.slice (some ad2) 2 c2, .func (.func 96) #[] #[]] W fun e w' => e = .returned (.bool (rg.any fun x => decide ((x.size : Int) > 700))) ∧ Below W.heap.size W w')
    (hr1 : Kd.C Kd.string w (some ad1) 12 sl) (hr3 : Kd.C Kd.bool w (some ad3) 12 sp) (hr4 : Kd.C k54 w A4 wt.length wt) (hs : Shaped st sl rg sp wt) (hw : wt.any (fun x => !putB x) = false) :
    Calls Try.prog 52 #[.agg #[.int .i64 st, .slice (some ad1) 12 c1, .slice (some ad2) 2 c2, .slice (some ad3) 12 c3, .slice A4 wt.length c4]] w fun e w' => ReadPost st sl rg sp wt w e w' := by
  have hu28 := Try.underlying28
  have HS := Aside0.mk hcs
  have HW := Aside0.mk hcw
  have HG := Aside0.mk hcg
  have HL1 := Aside0.mk hl1
  have HL2 := Aside0.mk hl2
  have HL3 := Aside0.mk hl3
  have HR1 := Aside0.mk hr1
  have HR3 := Aside0.mk hr3
  have HR4 := Aside0.mk hr4
  have HM := Aside0.mk (Kd.C_max hr4)
  have HSH := Aside0.mk hs
  have HWA := Aside0.mk hw
  have ESL := Aside0.mk esl
  have ERG := Aside0.mk erg
  have ESP := Aside0.mk esp
  clear hr1 hr3 hr4 hl1 hl2 hl3 hs hw hcs hcw hcg esl erg esp
  have HB := Aside0.mk (Below.refl w.heap.size w)
  go_enter Try.func52, Try.ntmps52
  go_wp2_with (first | ((with_reducible refine gate_dst (N := 1) rfl ?_); refine box_event ?hg (N := 1) ?hd (cs := #[.int .i64 st, .slice (some ad1) 12 c1, .slice (some ad2) 2 c2, .slice (some ad3) 12 c3, .slice A4 wt.length c4]) (t := 28) ?hr ?_; (case hd => rfl); (case hg => rfl); (case hr => first | (go_simp; done) | (go_simp; rfl)); intro gb hg w1 hbox hb; have n0_ := Aside0.mk (below_step (by repeat (first | (with_reducible first | exact HB.out | apply below_alloc | apply pw_below_drewN | apply below_drew1) | exact HB.out)) hb); have n1_ := Aside0.mk hbox; clear HB; have HB := n0_; have BK := n1_; clear n0_ n1_ hb hbox hg; have hcz_0 : w1.cell? ⟨gb, 0, none⟩ = some (.int .i64 st) := (blk_cell BK.out 0).trans rfl; have hcz_1 : w1.cell? ⟨gb, 1, none⟩ = some (.slice (some ad1) 12 c1) := (blk_cell BK.out 1).trans rfl; have hcz_2 : w1.cell? ⟨gb, 2, none⟩ = some (.slice (some ad2) 2 c2) := (blk_cell BK.out 2).trans rfl; have hcz_3 : w1.cell? ⟨gb, 3, none⟩ = some (.slice (some ad3) 12 c3) := (blk_cell BK.out 3).trans rfl; have hcz_4 : w1.cell? ⟨gb, 4, none⟩ = some (.slice A4 wt.length c4) := (blk_cell BK.out 4).trans rfl) | (go_at_call 91; refine (HS.out _ (by repeat (first | (with_reducible first | exact HB.out | apply below_alloc | apply pw_below_drewN | apply below_drew1) | exact HB.out))).mono ?_; rintro e w9 ⟨rfl, hb⟩; have n0_ := Aside0.mk (below_step (by repeat (first | (with_reducible first | exact HB.out | apply below_alloc | apply pw_below_drewN | apply below_drew1) | exact HB.out)) hb); have n1_ := Aside0.mk (blk_below (g := gb) (o := .cells #[.int .i64 st, .slice (some ad1) 12 c1, .slice (some ad2) 2 c2, .slice (some ad3) 12 c3, .slice A4 wt.length c4] 28 (0, 0)) (by (with_reducible repeat (first | refine blk_drewN ?_ _ | refine blk_drew ?_ | refine blk_alloc ?_ _)); exact BK.out) hb); clear HB BK; have HB := n0_; have BK := n1_; clear n0_ n1_ hb; have hcz_0 : w9.cell? ⟨gb, 0, none⟩ = some (.int .i64 st) := (blk_cell BK.out 0).trans rfl; have hcz_1 : w9.cell? ⟨gb, 1, none⟩ = some (.slice (some ad1) 12 c1) := (blk_cell BK.out 1).trans rfl; have hcz_2 : w9.cell? ⟨gb, 2, none⟩ = some (.slice (some ad2) 2 c2) := (blk_cell BK.out 2).trans rfl; have hcz_3 : w9.cell? ⟨gb, 3, none⟩ = some (.slice (some ad3) 12 c3) := (blk_cell BK.out 3).trans rfl; have hcz_4 : w9.cell? ⟨gb, 4, none⟩ = some (.slice A4 wt.length c4) := (blk_cell BK.out 4).trans rfl) | (go_at_call 92; refine (HW.out _ (by repeat (first | (with_reducible first | exact HB.out | apply below_alloc | apply pw_below_drewN | apply below_drew1) | exact HB.out))).mono ?_; rintro e w10 ⟨rfl, hb⟩; have n0_ := Aside0.mk (below_step (by repeat (first | (with_reducible first | exact HB.out | apply below_alloc | apply pw_below_drewN | apply below_drew1) | exact HB.out)) hb); have n1_ := Aside0.mk (blk_below (g := gb) (o := .cells #[.int .i64 st, .slice (some ad1) 12 c1, .slice (some ad2) 2 c2, .slice (some ad3) 12 c3, .slice A4 wt.length c4] 28 (0, 0)) (by (with_reducible repeat (first | refine blk_drewN ?_ _ | refine blk_drew ?_ | refine blk_alloc ?_ _)); exact BK.out) hb); clear HB BK; have HB := n0_; have BK := n1_; clear n0_ n1_ hb; have hcz_0 : w10.cell? ⟨gb, 0, none⟩ = some (.int .i64 st) := (blk_cell BK.out 0).trans rfl; have hcz_1 : w10.cell? ⟨gb, 1, none⟩ = some (.slice (some ad1) 12 c1) := (blk_cell BK.out 1).trans rfl; have hcz_2 : w10.cell? ⟨gb, 2, none⟩ = some (.slice (some ad2) 2 c2) := (blk_cell BK.out 2).trans rfl; have hcz_3 : w10.cell? ⟨gb, 3, none⟩ = some (.slice (some ad3) 12 c3) := (blk_cell BK.out 3).trans rfl; have hcz_4 : w10.cell? ⟨gb, 4, none⟩ = some (.slice A4 wt.length c4) := (blk_cell BK.out 4).trans rfl; have hl1 := HL1.out w10 (by repeat (first | (with_reducible first | exact HB.out | apply below_alloc | apply pw_below_drewN | apply below_drew1) | exact HB.out)); have hl2 := HL2.out w10 (by repeat (first | (with_reducible first | exact HB.out | apply below_alloc | apply pw_below_drewN | apply below_drew1) | exact HB.out)); have hl3 := HL3.out w10 (by repeat (first | (with_reducible first | exact HB.out | apply below_alloc | apply pw_below_drewN | apply below_drew1) | exact HB.out))))
  have hB10 : Aside0 (Below w.heap.size w w10.drew) := ⟨(by repeat (first | (with_reducible first | exact HB.out | apply below_alloc | apply pw_below_drewN | apply below_drew1) | exact HB.out))⟩
  refine start_ (n := 18) (S := fun w' => w'.cell? ⟨gb, 0, none⟩ = some (.int .i64 st) ∧ w'.cell? ⟨gb, 1, none⟩ = some (.slice (some ad1) 12 c1) ∧ w'.cell? ⟨gb, 2, none⟩ = some (.slice (some ad2) 2 c2) ∧ w'.cell? ⟨gb, 3, none⟩ = some (.slice (some ad3) 12 c3) ∧ w'.cell? ⟨gb, 4, none⟩ = some (.slice A4 wt.length c4) ∧ (Instr.loadAt 76 (.pointer (some ad1))).run Try.prog w' = .ok (.agg #[.string s0, .string s1, .string s2, .string s3, .string s4, .string s5, .string s6, .string s7, .string s8, .string s9, .string s10, .string s11]) w' ∧ (Instr.loadAt 77 (.pointer (some ad2))).run Try.prog w' = .ok (.agg #[.string r0, .string r1]) w' ∧ (Instr.loadAt 73 (.pointer (some ad3))).run Try.prog w' = .ok (.agg #[.bool b0, .bool b1, .bool b2, .bool b3, .bool b4, .bool b5, .bool b6, .bool b7, .bool b8, .bool b9, .bool b10, .bool b11]) w') (ds := [16]) #[false, false, false, false, false, false, false, false, false, false, false, false, false, false, false, false, false, false] (by kernel_rfl) rfl rfl ⟨(blk_cell BK.out 0).trans rfl, (blk_cell BK.out 1).trans rfl, (blk_cell BK.out 2).trans rfl, (blk_cell BK.out 3).trans rfl, (blk_cell BK.out 4).trans rfl, HL1.out _ hB10.out, HL2.out _ hB10.out, HL3.out _ hB10.out⟩ (fun hHeld => ?_)
  clear hl1 hl2 hl3
  refine pure_ (i := 0) (N := (some 18)) (v := ?_) (a' := ?_) #[true, false, false, false, false, false, false, false, false, false, false, false, false, false, false, false, false, false] rfl rfl (by kernel_rfl) (fun _ _ _ h => h) (Or.inl ⟨by rfl, ?_⟩) ?_ ?_
  rotate_left
  · intro w'
    go_simp
    with_reducible rfl
  rotate_left
  · simp only [Act.put, List.setIfInBounds_toArray, List.set_cons_zero, List.set_cons_succ]
    rfl
  refine take_ (i := 1) (N := (some 19)) (v := ?_) (a' := ?_) #[true, true, false, false, false, false, false, false, false, false, false, false, false, false, false, false, false, false] rfl rfl (by kernel_rfl) (fun _ _ _ h => h) (Or.inl ⟨by rfl, ?_⟩) hHeld ?_ ?_
  rotate_left
  · intro w' hS_
    obtain ⟨s0_, s1_, s2_, s3_, s4_, t1_, t2_, t3_⟩ := hS_
    clear t1_ t2_ t3_
    go_simp
    with_reducible rfl
  rotate_left
  · simp only [Act.put, List.setIfInBounds_toArray, List.set_cons_zero, List.set_cons_succ]
    rfl
  refine pure_ (i := 2) (N := (some 20)) (v := ?_) (a' := ?_) #[true, true, true, false, false, false, false, false, false, false, false, false, false, false, false, false, false, false] rfl rfl (by kernel_rfl) (fun _ _ _ h => h) (Or.inl ⟨by rfl, ?_⟩) ?_ ?_
  rotate_left
  · intro w'
    go_simp
    with_reducible rfl
  rotate_left
  · simp only [Act.put, List.setIfInBounds_toArray, List.set_cons_zero, List.set_cons_succ]
    rfl
  refine take_ (i := 3) (N := (some 21)) (v := ?_) (a' := ?_) #[true, true, true, true, false, false, false, false, false, false, false, false, false, false, false, false, false, false] rfl rfl (by kernel_rfl) (fun _ _ _ h => h) (Or.inl ⟨by rfl, ?_⟩) hHeld ?_ ?_
  rotate_left
  · intro w' hS_
    obtain ⟨s0_, s1_, s2_, s3_, s4_, t1_, t2_, t3_⟩ := hS_
    clear t1_ t2_ t3_
    go_simp
    with_reducible rfl
  rotate_left
  · simp only [Act.put, List.setIfInBounds_toArray, List.set_cons_zero, List.set_cons_succ]
    rfl
  refine pure_ (i := 4) (N := (some 22)) (v := ?_) (a' := ?_) #[true, true, true, true, true, false, false, false, false, false, false, false, false, false, false, false, false, false] rfl rfl (by kernel_rfl) (fun _ _ _ h => h) (Or.inl ⟨by rfl, ?_⟩) ?_ ?_
  rotate_left
  · intro w'
    go_simp
    rw [run_arrayAt Try.underlying73 _ _ _ (by decide)]
    rfl
  rotate_left
  · simp only [Act.put, List.setIfInBounds_toArray, List.set_cons_zero, List.set_cons_succ]
    rfl
  refine take_ (i := 5) (N := (some 23)) (v := .agg #[.bool b0, .bool b1, .bool b2, .bool b3, .bool b4, .bool b5, .bool b6, .bool b7, .bool b8, .bool b9, .bool b10, .bool b11]) (a' := ?_) #[true, true, true, true, true, true, false, false, false, false, false, false, false, false, false, false, false, false] rfl rfl (by kernel_rfl) (fun _ _ _ h => h) (Or.inl ⟨by rfl, fun w' hS_ => yields_load 73 (.tmp 22) rfl ad3 rfl _ hS_.2.2.2.2.2.2.2⟩) hHeld ?_ ?_
  rotate_left
  · simp only [Act.put, List.setIfInBounds_toArray, List.set_cons_zero, List.set_cons_succ]
    rfl
  refine pure_ (i := 6) (N := (some 24)) (v := ?_) (a' := ?_) #[true, true, true, true, true, true, true, false, false, false, false, false, false, false, false, false, false, false] rfl rfl (by kernel_rfl) (fun _ _ _ h => h) (Or.inl ⟨by rfl, ?_⟩) ?_ ?_
  rotate_left
  · intro w'
    have hu73 := Try.underlying73
    have hu75 := Try.underlying75
    go_simp
    with_reducible rfl
  rotate_left
  · simp only [Act.put, List.setIfInBounds_toArray, List.set_cons_zero, List.set_cons_succ]
    rfl
  refine pure_ (i := 7) (N := (some 25)) (v := ?_) (a' := ?_) #[true, true, true, true, true, true, true, true, false, false, false, false, false, false, false, false, false, false] rfl rfl (by kernel_rfl) (fun _ _ _ h => h) (Or.inl ⟨by rfl, ?_⟩) ?_ ?_
  rotate_left
  · intro w'
    go_simp
    with_reducible rfl
  rotate_left
  · simp only [Act.put, List.setIfInBounds_toArray, List.set_cons_zero, List.set_cons_succ]
    rfl
  refine take_ (i := 8) (N := (some 26)) (v := ?_) (a' := ?_) #[true, true, true, true, true, true, true, true, true, false, false, false, false, false, false, false, false, false] rfl rfl (by kernel_rfl) (fun _ _ _ h => h) (Or.inl ⟨by rfl, ?_⟩) hHeld ?_ ?_
  rotate_left
  · intro w' hS_
    obtain ⟨s0_, s1_, s2_, s3_, s4_, t1_, t2_, t3_⟩ := hS_
    clear t1_ t2_ t3_
    go_simp
    with_reducible rfl
  rotate_left
  · simp only [Act.put, List.setIfInBounds_toArray, List.set_cons_zero, List.set_cons_succ]
    rfl
  refine pure_ (i := 9) (N := (some 27)) (v := ?_) (a' := ?_) #[true, true, true, true, true, true, true, true, true, true, false, false, false, false, false, false, false, false] rfl rfl (by kernel_rfl) (fun _ _ _ h => h) (Or.inl ⟨by rfl, ?_⟩) ?_ ?_
  rotate_left
  · intro w'
    go_simp
    rw [run_arrayAt Try.underlying76 _ _ _ (by decide)]
    rfl
  rotate_left
  · simp only [Act.put, List.setIfInBounds_toArray, List.set_cons_zero, List.set_cons_succ]
    rfl
  refine take_ (i := 10) (N := (some 28)) (v := .agg #[.string s0, .string s1, .string s2, .string s3, .string s4, .string s5, .string s6, .string s7, .string s8, .string s9, .string s10, .string s11]) (a' := ?_) #[true, true, true, true, true, true, true, true, true, true, true, false, false, false, false, false, false, false] rfl rfl (by kernel_rfl) (fun _ _ _ h => h) (Or.inl ⟨by rfl, fun w' hS_ => yields_load 76 (.tmp 27) rfl ad1 rfl _ hS_.2.2.2.2.2.1⟩) hHeld ?_ ?_
  rotate_left
  · simp only [Act.put, List.setIfInBounds_toArray, List.set_cons_zero, List.set_cons_succ]
    rfl
  refine pure_ (i := 11) (N := (some 29)) (v := ?_) (a' := ?_) #[true, true, true, true, true, true, true, true, true, true, true, true, false, false, false, false, false, false] rfl rfl (by kernel_rfl) (fun _ _ _ h => h) (Or.inl ⟨by rfl, ?_⟩) ?_ ?_
  rotate_left
  · intro w'
    go_simp
    with_reducible rfl
  rotate_left
  · simp only [Act.put, List.setIfInBounds_toArray, List.set_cons_zero, List.set_cons_succ]
    rfl
  refine take_ (i := 12) (N := (some 30)) (v := ?_) (a' := ?_) #[true, true, true, true, true, true, true, true, true, true, true, true, true, false, false, false, false, false] rfl rfl (by kernel_rfl) (fun _ _ _ h => h) (Or.inl ⟨by rfl, ?_⟩) hHeld ?_ ?_
  rotate_left
  · intro w' hS_
    obtain ⟨s0_, s1_, s2_, s3_, s4_, t1_, t2_, t3_⟩ := hS_
    clear t1_ t2_ t3_
    go_simp
    with_reducible rfl
  rotate_left
  · simp only [Act.put, List.setIfInBounds_toArray, List.set_cons_zero, List.set_cons_succ]
    rfl
  refine pure_ (i := 13) (N := (some 31)) (v := ?_) (a' := ?_) #[true, true, true, true, true, true, true, true, true, true, true, true, true, true, false, false, false, false] rfl rfl (by kernel_rfl) (fun _ _ _ h => h) (Or.inl ⟨by rfl, ?_⟩) ?_ ?_
  rotate_left
  · intro w'
    go_simp
    rw [run_arrayAt Try.underlying77 _ _ _ (by decide)]
    rfl
  rotate_left
  · simp only [Act.put, List.setIfInBounds_toArray, List.set_cons_zero, List.set_cons_succ]
    rfl
  refine take_ (i := 14) (N := (some 32)) (v := .agg #[.string r0, .string r1]) (a' := ?_) #[true, true, true, true, true, true, true, true, true, true, true, true, true, true, true, false, false, false] rfl rfl (by kernel_rfl) (fun _ _ _ h => h) (Or.inl ⟨by rfl, fun w' hS_ => yields_load 77 (.tmp 31) rfl ad2 rfl _ hS_.2.2.2.2.2.2.1⟩) hHeld ?_ ?_
  rotate_left
  · simp only [Act.put, List.setIfInBounds_toArray, List.set_cons_zero, List.set_cons_succ]
    rfl
  refine pure_ (i := 15) (N := (some 33)) (v := ?_) (a' := ?_) #[true, true, true, true, true, true, true, true, true, true, true, true, true, true, true, true, false, false] rfl rfl (by kernel_rfl) (fun _ _ _ h => h) (Or.inl ⟨by rfl, ?_⟩) ?_ ?_
  rotate_left
  · intro w'
    have hu80 := Try.underlying80
    go_simp
    with_reducible rfl
  rotate_left
  · simp only [Act.put, List.setIfInBounds_toArray, List.set_cons_zero, List.set_cons_succ]
    rfl
  refine last_ (i := 16) (N := (some 34)) #[true, true, true, true, true, true, true, true, true, true, true, true, true, true, true, true, true, false] rfl rfl (by kernel_rfl) (by decide) (fun K hK => ?_)
  refine box_step (by rfl) (N := 34) rfl (cs := #[.int .i64 st, .bool b0, .bool b1, .bool b2, .bool b3, .bool b4, .bool b5, .bool b6, .bool b7, .bool b8, .bool b9, .bool b10, .bool b11, .string s0, .string s1, .string s2, .string s3, .string s4, .string s5, .string s6, .string s7, .string s8, .string s9, .string s10, .string s11, .string r0, .string r1, .pointer none]) (t := 80) ?hr ?_
  case hr => first | (go_simp; done) | (go_simp; rfl)
  intro gd hg w11 hbox hb
  have HGG := Aside0.mk hg
  clear hg
  refine hK.out _ _ ?_
  clear hK K
  refine pure_ (i := 17) (N := (some 4)) (v := ?_) (a' := ?_) #[true, true, true, true, true, true, true, true, true, true, true, true, true, true, true, true, true, true] rfl rfl (by kernel_rfl) (fun _ _ _ h => h) (Or.inl ⟨by rfl, ?_⟩) ?_ ?_
  rotate_left
  · intro w'
    go_simp
    with_reducible rfl
  rotate_left
  · simp only [Act.put, List.setIfInBounds_toArray, List.set_cons_zero, List.set_cons_succ]
    rfl
  refine done_ (by kernel_rfl) ?_
  have HD : Aside0 (Drv w11 gd st sp sl rg []) := ⟨⟨by rw [hbox, ESL.out, ERG.out, ESP.out]; rfl, trivial, HSH.out.2.2.2.1, HSH.out.2.1, HSH.out.2.2.1⟩⟩
  have HGD : Aside0 (w.heap.size ≤ gd) := ⟨by rw [HGG.out]; exact hB10.out.size⟩
  have n0_ := Aside0.mk (below_step hB10.out hb)
  have n1_ := Aside0.mk (blk_below (g := gb) (o := .cells #[.int .i64 st, .slice (some ad1) 12 c1, .slice (some ad2) 2 c2, .slice (some ad3) 12 c3, .slice A4 wt.length c4] 28 (0, 0)) (by (with_reducible repeat (first | refine blk_drewN ?_ _ | refine blk_drew ?_ | refine blk_alloc ?_ _)); exact BK.out) hb)
  clear HB BK hHeld
  have HB := n0_
  have BK := n1_
  clear n0_ n1_ hb hbox HGG hB10
  have hcz_0 : w11.cell? ⟨gb, 0, none⟩ = some (.int .i64 st) := (blk_cell BK.out 0).trans rfl; have hcz_1 : w11.cell? ⟨gb, 1, none⟩ = some (.slice (some ad1) 12 c1) := (blk_cell BK.out 1).trans rfl; have hcz_2 : w11.cell? ⟨gb, 2, none⟩ = some (.slice (some ad2) 2 c2) := (blk_cell BK.out 2).trans rfl; have hcz_3 : w11.cell? ⟨gb, 3, none⟩ = some (.slice (some ad3) 12 c3) := (blk_cell BK.out 3).trans rfl; have hcz_4 : w11.cell? ⟨gb, 4, none⟩ = some (.slice A4 wt.length c4) := (blk_cell BK.out 4).trans rfl
  go_wp2
  go_loopg [38] 12 (fun kq v38 w' => ∃ (i : Nat), v38 = .int .i64 (i : Int) ∧ Aside0 (i + kq = 12) ∧ Aside0 (∀ j, j < i → badSlot (sl.getD j ByteArray.empty) (sp.getD j false) = false) ∧ Aside0 (Below w.heap.size w w') ∧ Aside0 (w'.heap[gb]? = some (.cells #[.int .i64 st, .slice (some ad1) 12 c1, .slice (some ad2) 2 c2, .slice (some ad3) 12 c3, .slice A4 wt.length c4] 28 (0, 0))) ∧ Aside0 (Drv w' gd st sp sl rg []))
  case atStart => exact ⟨0, rfl, ⟨Nat.zero_add _⟩, ⟨fun j hj => by omega⟩, ⟨(by repeat (first | (with_reducible first | exact HB.out | apply below_alloc | apply pw_below_drewN | apply below_drew1) | exact HB.out))⟩, ⟨by (with_reducible repeat (first | refine blk_drewN ?_ _ | refine blk_drew ?_ | refine blk_alloc ?_ _)); exact BK.out⟩, ⟨by (with_reducible repeat (first | refine drv_drewN ?_ _ | refine drv_drew ?_)); exact HD.out⟩⟩
  case round =>
    obtain ⟨i, rfl, HI, HF, HB, BK, HD⟩ := hrel
    have hcz_0 : wr.cell? ⟨gb, 0, none⟩ = some (.int .i64 st) := (blk_cell BK.out 0).trans rfl; have hcz_1 : wr.cell? ⟨gb, 1, none⟩ = some (.slice (some ad1) 12 c1) := (blk_cell BK.out 1).trans rfl; have hcz_2 : wr.cell? ⟨gb, 2, none⟩ = some (.slice (some ad2) 2 c2) := (blk_cell BK.out 2).trans rfl; have hcz_3 : wr.cell? ⟨gb, 3, none⟩ = some (.slice (some ad3) 12 c3) := (blk_cell BK.out 3).trans rfl; have hcz_4 : wr.cell? ⟨gb, 4, none⟩ = some (.slice A4 wt.length c4) := (blk_cell BK.out 4).trans rfl
    by_cases c1 : i < 12
    · have c1b0 : decide ((i : Int) < 12) = true := decide_eq_true (by omega)
      have p1 : (0 : Int) ≤ (i : Int) := by omega
      have q1 : (i : Int) < ((12 : Nat) : Int) := by omega
      have HWR := Aside0.mk (show wrap64 ((i : Int) + 1) = ((i + 1 : Nat) : Int) by unfold wrap64; omega)
      have HC1 := Aside0.mk c1
      obtain ⟨ad, e1, hx_0⟩ := Kd.at_string HR1.out (i : Int) p1 q1
      cases e1
      obtain ⟨ad, e1, hy_0⟩ := Kd.at_bool HR3.out (i : Int) p1 q1
      cases e1
      simp only [Int.toNat_natCast, rdOf] at hx_0 hy_0
      replace hx_0 := (HB.out.cell (World.block_lt_of_cell? w _ hx_0)).trans hx_0
      replace hy_0 := (HB.out.cell (World.block_lt_of_cell? w _ hy_0)).trans hy_0
      replace p1 := eq_true p1
      replace q1 := eq_true q1
      have q2 := eq_true (show (i : Int) < 12 by omega)
      clear c1
      obtain ⟨x, hE⟩ : ∃ x, x = sl.getD i ByteArray.empty := ⟨_, rfl⟩
      rw [← hE] at hx_0
      have HE := Aside0.mk hE
      clear hE
      obtain ⟨y, hE⟩ : ∃ y, y = sp.getD i false := ⟨_, rfl⟩
      rw [← hE] at hy_0
      have HY := Aside0.mk hE
      clear hE
      have HNB : badSlot x y = false → Aside0 (∀ j, j < i + 1 → badSlot (sl.getD j ByteArray.empty) (sp.getD j false) = false) := fun h => ⟨fun j hj => by
          by_cases e : j = i
          · rw [e, ← HE.out, ← HY.out]; exact h
          · exact HF.out j (by omega)⟩
      have HBG : badSlot x y = true → Aside0 (¬ Good st sl rg sp wt) := fun h => ⟨fun hg => by
          have := hg.so i HC1.out
          rw [← HE.out, ← HY.out, h] at this
          cases this⟩
      by_cases hx0 : x.size = 0
      · obtain rfl : x = ByteArray.empty := ByteArray.ext (Array.eq_empty_of_size_eq_zero hx0)
        clear hx0
        cases y with
        | true =>
          have HN := HBG rfl
          clear HBG HNB
          go_wp2
          go_ret2
          exact Or.inl ⟨HN.out, rfl, (by repeat (first | (with_reducible first | exact HB.out | apply below_alloc | apply pw_below_drewN | apply below_drew1) | exact HB.out))⟩
        | false =>
          have HF1 := HNB rfl
          clear HBG HNB
          go_wp2
          go_roundg (gk - 1)
          case measure => have := HI.out; have := HC1.out; omega
          case rel => exact ⟨i + 1, by rw [← HWR.out], ⟨by have := HI.out; have := HC1.out; omega⟩, HF1, ⟨(by repeat (first | (with_reducible first | exact HB.out | apply below_alloc | apply pw_below_drewN | apply below_drew1) | exact HB.out))⟩, ⟨by (with_reducible repeat (first | refine blk_drewN ?_ _ | refine blk_drew ?_ | refine blk_alloc ?_ _)); exact BK.out⟩, ⟨by (with_reducible repeat (first | refine drv_drewN ?_ _ | refine drv_drew ?_)); exact HD.out⟩⟩
      · have hz := Aside0.mk hx0
        have hx1 : x.toList ≠ [] := fun h => hx0 (by rw [← ByteArray.size_toList_x, h]; rfl)
        clear hx0
        by_cases hx3 : x.size = 3
        · have HF1 := HNB (by unfold badSlot; rw [if_neg hz.out]; exact decide_eq_false (by omega))
          clear HBG HNB
          have hx3 : ((x.size : Int) == 3) = true := by rw [beq_iff_eq]; omega
          go_wp2_with (first | (go_at_call 94; refine (impl_isColumn.calls x _ _ rfl).mono ?_; rintro e w9 ⟨rfl, ⟨nd, rfl⟩⟩; rw [hx3]))
          go_roundg (gk - 1)
          case measure => have := HI.out; have := HC1.out; omega
          case rel => exact ⟨i + 1, by rw [← HWR.out], ⟨by have := HI.out; have := HC1.out; omega⟩, HF1, ⟨(by repeat (first | (with_reducible first | exact HB.out | apply below_alloc | apply pw_below_drewN | apply below_drew1) | exact HB.out))⟩, ⟨by (with_reducible repeat (first | refine blk_drewN ?_ _ | refine blk_drew ?_ | refine blk_alloc ?_ _)); exact BK.out⟩, ⟨by (with_reducible repeat (first | refine drv_drewN ?_ _ | refine drv_drew ?_)); exact HD.out⟩⟩
        · have HN := HBG (by unfold badSlot; rw [if_neg hz.out]; exact decide_eq_true hx3)
          clear HBG HNB
          have hx3 : ((x.size : Int) == 3) = false := by rw [beq_eq_false_iff_ne]; omega
          go_wp2_with (first | (go_at_call 94; refine (impl_isColumn.calls x _ _ rfl).mono ?_; rintro e w9 ⟨rfl, ⟨nd, rfl⟩⟩; rw [hx3]))
          go_ret2
          exact Or.inl ⟨HN.out, rfl, (by repeat (first | (with_reducible first | exact HB.out | apply below_alloc | apply pw_below_drewN | apply below_drew1) | exact HB.out))⟩
    · have c1b0 : decide ((i : Int) < 12) = false := decide_eq_false (by omega)
      have HSO : Aside0 (∀ j, j < 12 → badSlot (sl.getD j ByteArray.empty) (sp.getD j false) = false) := ⟨fun j hj => HF.out j (by omega)⟩
      clear c1 HF
      by_cases hrg : rg.any (fun x : ByteArray => decide ((x.size : Int) > 700)) = true
      · have HN : Aside0 (¬ Good st sl rg sp wt) := ⟨fun hg => by have := hg.ro; rw [hrg] at this; cases this⟩
        have HRG := Aside0.mk hrg
        clear hrg
        go_wp2_with (first | (go_at_call 95; refine (HG.out _ (by repeat (first | (with_reducible first | exact HB.out | apply below_alloc | apply pw_below_drewN | apply below_drew1) | exact HB.out))).mono ?_; rintro e w12 ⟨rfl, hb⟩; rw [HRG.out]; have n0_ := Aside0.mk (below_step (by repeat (first | (with_reducible first | exact HB.out | apply below_alloc | apply pw_below_drewN | apply below_drew1) | exact HB.out)) hb); have n1_ := Aside0.mk (blk_below (g := gb) (o := .cells #[.int .i64 st, .slice (some ad1) 12 c1, .slice (some ad2) 2 c2, .slice (some ad3) 12 c3, .slice A4 wt.length c4] 28 (0, 0)) (by (with_reducible repeat (first | refine blk_drewN ?_ _ | refine blk_drew ?_ | refine blk_alloc ?_ _)); exact BK.out) hb); have n2_ := Aside0.mk (Drv.below (g := gd) (st := st) (sp := sp) (sl := sl) (rg := rg) (ns := []) (by (with_reducible repeat (first | refine drv_drewN ?_ _ | refine drv_drew ?_)); exact HD.out) hb); clear HB BK HD; have HB := n0_; have BK := n1_; have HD := n2_; clear n0_ n1_ n2_ hb; have hcz_0 : w12.cell? ⟨gb, 0, none⟩ = some (.int .i64 st) := (blk_cell BK.out 0).trans rfl; have hcz_1 : w12.cell? ⟨gb, 1, none⟩ = some (.slice (some ad1) 12 c1) := (blk_cell BK.out 1).trans rfl; have hcz_2 : w12.cell? ⟨gb, 2, none⟩ = some (.slice (some ad2) 2 c2) := (blk_cell BK.out 2).trans rfl; have hcz_3 : w12.cell? ⟨gb, 3, none⟩ = some (.slice (some ad3) 12 c3) := (blk_cell BK.out 3).trans rfl; have hcz_4 : w12.cell? ⟨gb, 4, none⟩ = some (.slice A4 wt.length c4) := (blk_cell BK.out 4).trans rfl))
        go_ret2
        exact Or.inl ⟨HN.out, rfl, (by repeat (first | (with_reducible first | exact HB.out | apply below_alloc | apply pw_below_drewN | apply below_drew1) | exact HB.out))⟩
      · have HRG : Aside0 (rg.any (fun x : ByteArray => decide ((x.size : Int) > 700)) = false) := ⟨by simpa using hrg⟩
        clear hrg
        go_upto_region 12 with (first | (go_at_call 95; refine (HG.out _ (by repeat (first | (with_reducible first | exact HB.out | apply below_alloc | apply pw_below_drewN | apply below_drew1) | exact HB.out))).mono ?_; rintro e w12 ⟨rfl, hb⟩; rw [HRG.out]; have n0_ := Aside0.mk (below_step (by repeat (first | (with_reducible first | exact HB.out | apply below_alloc | apply pw_below_drewN | apply below_drew1) | exact HB.out)) hb); have n1_ := Aside0.mk (blk_below (g := gb) (o := .cells #[.int .i64 st, .slice (some ad1) 12 c1, .slice (some ad2) 2 c2, .slice (some ad3) 12 c3, .slice A4 wt.length c4] 28 (0, 0)) (by (with_reducible repeat (first | refine blk_drewN ?_ _ | refine blk_drew ?_ | refine blk_alloc ?_ _)); exact BK.out) hb); have n2_ := Aside0.mk (Drv.below (g := gd) (st := st) (sp := sp) (sl := sl) (rg := rg) (ns := []) (by (with_reducible repeat (first | refine drv_drewN ?_ _ | refine drv_drew ?_)); exact HD.out) hb); clear HB BK HD; have HB := n0_; have BK := n1_; have HD := n2_; clear n0_ n1_ n2_ hb; have hcz_0 : w12.cell? ⟨gb, 0, none⟩ = some (.int .i64 st) := (blk_cell BK.out 0).trans rfl; have hcz_1 : w12.cell? ⟨gb, 1, none⟩ = some (.slice (some ad1) 12 c1) := (blk_cell BK.out 1).trans rfl; have hcz_2 : w12.cell? ⟨gb, 2, none⟩ = some (.slice (some ad2) 2 c2) := (blk_cell BK.out 2).trans rfl; have hcz_3 : w12.cell? ⟨gb, 3, none⟩ = some (.slice (some ad3) 12 c3) := (blk_cell BK.out 3).trans rfl; have hcz_4 : w12.cell? ⟨gb, 4, none⟩ = some (.slice A4 wt.length c4) := (blk_cell BK.out 4).trans rfl))
        (try simp only [Act.put, List.setIfInBounds_toArray, List.set_cons_zero, List.set_cons_succ])
        go_cut [89] (fun v89 wc => ∃ b : Bool, v89 = .bool b ∧ Aside0 (b = true → ¬ Good st sl rg sp wt) ∧ Aside0 (b = false → Good st sl rg sp wt) ∧ Aside0 (Below w.heap.size w wc) ∧ Aside0 (wc.heap[gb]? = some (.cells #[.int .i64 st, .slice (some ad1) 12 c1, .slice (some ad2) 2 c2, .slice (some ad3) 12 c3, .slice A4 wt.length c4] 28 (0, 0))) ∧ Aside0 (Drv wc gd st sp sl rg []))
        case first =>
          by_cases hst : st = 1
          · subst hst
            have hl1 : ∀ W : World, Drv W gd 1 sp sl rg [] → (Instr.loadAt 76 (.pointer (some ⟨gd, 13, none⟩))).run Try.prog W = .ok (.agg #[.string s0, .string s1, .string s2, .string s3, .string s4, .string s5, .string s6, .string s7, .string s8, .string s9, .string s10, .string s11]) W := fun W h => (by have := drv_load h (o := 13) (l := sl) (ty := 76) (fun i hi => by rw [blk_cell h.blk]; exact dc_sl h.lsp h.lsl (by rw [ESL.out] at hi; exact hi)) Try.underlying76 rfl (by rw [ESL.out]; kernel_rfl); rw [ESL.out] at this; exact this)
            have hl2 : ∀ W : World, Drv W gd 1 sp sl rg [] → (Instr.loadAt 77 (.pointer (some ⟨gd, 25, none⟩))).run Try.prog W = .ok (.agg #[.string r0, .string r1]) W := fun W h => (by have := drv_load h (o := 25) (l := rg) (ty := 77) (fun i hi => by rw [blk_cell h.blk]; exact dc_rg h.lsp h.lsl h.lrg (by rw [ERG.out] at hi; exact hi)) Try.underlying77 rfl (by rw [ERG.out]; kernel_rfl); rw [ERG.out] at this; exact this)
            have HL4 := Aside0.mk (hl1 _ HD.out)
            have HL5 := Aside0.mk (hl2 _ HD.out)
            have he1 : ∀ W : World, (Op.equalIn 10000 76 (.agg #[.string s0, .string s1, .string s2, .string s3, .string s4, .string s5, .string s6, .string s7, .string s8, .string s9, .string s10, .string s11]) (.agg #[.string ByteArray.empty, .string ByteArray.empty, .string ByteArray.empty, .string ByteArray.empty, .string ByteArray.empty, .string ByteArray.empty, .string ByteArray.empty, .string ByteArray.empty, .string ByteArray.empty, .string ByteArray.empty, .string ByteArray.empty, .string ByteArray.empty])).run Try.prog W = .ok (sl.all fun s => s.size == 0) W := fun W => by
              have := equal_strs (P := Try.prog) (t := 76) (e := 9) (n := 12) Try.underlying76 Try.underlying9 (by kernel_rfl) W sl HSH.out.2.1
              rw [ESL.out] at this ⊢
              exact this
            have he2 : ∀ W : World, (Op.equalIn 10000 77 (.agg #[.string r0, .string r1]) (.agg #[.string ByteArray.empty, .string ByteArray.empty])).run Try.prog W = .ok (rg.all fun s => s.size == 0) W := fun W => by
              have := equal_strs (P := Try.prog) (t := 77) (e := 9) (n := 2) Try.underlying77 Try.underlying9 (by kernel_rfl) W rg HSH.out.2.2.1
              rw [ERG.out] at this ⊢
              exact this
            have HE1 := Aside0.mk he1
            have HE2 := Aside0.mk he2
            clear hl1 hl2 he1 he2
            by_cases hz1 : sl.all (fun s => s.size == 0) = true
            · rw [hz1] at HE1
              have HZ1 := Aside0.mk hz1
              clear hz1
              by_cases hz2 : rg.all (fun s => s.size == 0) = true
              · rw [hz2] at HE2
                have HZ2 := Aside0.mk hz2
                clear hz2
                by_cases hz3 : wt.length = 0
                · have hz4 : decide ((wt.length : Int) > 0) = false := decide_eq_false (by omega)
                  have HZ3 := Aside0.mk hz3
                  clear hz3
                  go_wp2_with (first | ((refine gate_guard (by rfl) ?_); dsimp only; refine load_ev rfl rfl (.agg #[.string s0, .string s1, .string s2, .string s3, .string s4, .string s5, .string s6, .string s7, .string s8, .string s9, .string s10, .string s11]) HL4.out rfl ?_) | ((refine gate_guard (by rfl) ?_); dsimp only; refine neq_ev (t := 76) rfl rfl rfl rfl (by kernel_rfl) (HE1.out _) ?_) | ((refine gate_guard (by rfl) ?_); dsimp only; refine load_ev rfl rfl (.agg #[.string r0, .string r1]) HL5.out rfl ?_) | ((refine gate_guard (by rfl) ?_); dsimp only; refine neq_ev (t := 77) rfl rfl rfl rfl (by kernel_rfl) (HE2.out _) ?_))
                  go_meet
                  case rel => exact ⟨false, by rw [decide_eq_false (by have := HZ3.out; omega)], ⟨fun h => by cases h⟩, ⟨fun _ => ⟨HSH.out, HWA.out, HSO.out, HRG.out, fun _ => ⟨HZ1.out, HZ2.out, HZ3.out⟩⟩⟩, ⟨(by repeat (first | (with_reducible first | exact HB.out | apply below_alloc | apply pw_below_drewN | apply below_drew1) | exact HB.out))⟩, ⟨by (with_reducible repeat (first | refine blk_drewN ?_ _ | refine blk_drew ?_ | refine blk_alloc ?_ _)); exact BK.out⟩, ⟨by (with_reducible repeat (first | refine drv_drewN ?_ _ | refine drv_drew ?_)); exact HD.out⟩⟩
                · have hz4 : decide ((wt.length : Int) > 0) = true := decide_eq_true (by omega)
                  have HZ3 := Aside0.mk hz3
                  clear hz3
                  go_wp2_with (first | ((refine gate_guard (by rfl) ?_); dsimp only; refine load_ev rfl rfl (.agg #[.string s0, .string s1, .string s2, .string s3, .string s4, .string s5, .string s6, .string s7, .string s8, .string s9, .string s10, .string s11]) HL4.out rfl ?_) | ((refine gate_guard (by rfl) ?_); dsimp only; refine neq_ev (t := 76) rfl rfl rfl rfl (by kernel_rfl) (HE1.out _) ?_) | ((refine gate_guard (by rfl) ?_); dsimp only; refine load_ev rfl rfl (.agg #[.string r0, .string r1]) HL5.out rfl ?_) | ((refine gate_guard (by rfl) ?_); dsimp only; refine neq_ev (t := 77) rfl rfl rfl rfl (by kernel_rfl) (HE2.out _) ?_))
                  go_meet
                  case rel => exact ⟨true, by rw [decide_eq_true (by have := HZ3.out; omega)], ⟨fun _ hg => HZ3.out (hg.go rfl).2.2⟩, ⟨fun h => by cases h⟩, ⟨(by repeat (first | (with_reducible first | exact HB.out | apply below_alloc | apply pw_below_drewN | apply below_drew1) | exact HB.out))⟩, ⟨by (with_reducible repeat (first | refine blk_drewN ?_ _ | refine blk_drew ?_ | refine blk_alloc ?_ _)); exact BK.out⟩, ⟨by (with_reducible repeat (first | refine drv_drewN ?_ _ | refine drv_drew ?_)); exact HD.out⟩⟩
              · have hz2 : rg.all (fun s => s.size == 0) = false := by simpa using hz2
                rw [hz2] at HE2
                have HZ2 := Aside0.mk hz2
                clear hz2
                go_wp2_with (first | ((refine gate_guard (by rfl) ?_); dsimp only; refine load_ev rfl rfl (.agg #[.string s0, .string s1, .string s2, .string s3, .string s4, .string s5, .string s6, .string s7, .string s8, .string s9, .string s10, .string s11]) HL4.out rfl ?_) | ((refine gate_guard (by rfl) ?_); dsimp only; refine neq_ev (t := 76) rfl rfl rfl rfl (by kernel_rfl) (HE1.out _) ?_) | ((refine gate_guard (by rfl) ?_); dsimp only; refine load_ev rfl rfl (.agg #[.string r0, .string r1]) HL5.out rfl ?_) | ((refine gate_guard (by rfl) ?_); dsimp only; refine neq_ev (t := 77) rfl rfl rfl rfl (by kernel_rfl) (HE2.out _) ?_))
                go_meet
                case rel => exact ⟨true, rfl, ⟨fun _ hg => by have := (hg.go rfl).2.1; rw [HZ2.out] at this; cases this⟩, ⟨fun h => by cases h⟩, ⟨(by repeat (first | (with_reducible first | exact HB.out | apply below_alloc | apply pw_below_drewN | apply below_drew1) | exact HB.out))⟩, ⟨by (with_reducible repeat (first | refine blk_drewN ?_ _ | refine blk_drew ?_ | refine blk_alloc ?_ _)); exact BK.out⟩, ⟨by (with_reducible repeat (first | refine drv_drewN ?_ _ | refine drv_drew ?_)); exact HD.out⟩⟩
            · have hz1 : sl.all (fun s => s.size == 0) = false := by simpa using hz1
              rw [hz1] at HE1
              have HZ1 := Aside0.mk hz1
              clear hz1
              go_wp2_with (first | ((refine gate_guard (by rfl) ?_); dsimp only; refine load_ev rfl rfl (.agg #[.string s0, .string s1, .string s2, .string s3, .string s4, .string s5, .string s6, .string s7, .string s8, .string s9, .string s10, .string s11]) HL4.out rfl ?_) | ((refine gate_guard (by rfl) ?_); dsimp only; refine neq_ev (t := 76) rfl rfl rfl rfl (by kernel_rfl) (HE1.out _) ?_))
              go_meet
              case rel => exact ⟨true, rfl, ⟨fun _ hg => by have := (hg.go rfl).1; rw [HZ1.out] at this; cases this⟩, ⟨fun h => by cases h⟩, ⟨(by repeat (first | (with_reducible first | exact HB.out | apply below_alloc | apply pw_below_drewN | apply below_drew1) | exact HB.out))⟩, ⟨by (with_reducible repeat (first | refine blk_drewN ?_ _ | refine blk_drew ?_ | refine blk_alloc ?_ _)); exact BK.out⟩, ⟨by (with_reducible repeat (first | refine drv_drewN ?_ _ | refine drv_drew ?_)); exact HD.out⟩⟩
          · have hst1 : (st == 1) = false := by rw [beq_eq_false_iff_ne]; exact hst
            have HN : Aside0 (Good st sl rg sp wt) := ⟨⟨HSH.out, HWA.out, HSO.out, HRG.out, fun h => absurd h hst⟩⟩
            clear hst
            go_wp2
            go_meet
            case rel => exact ⟨false, rfl, ⟨fun h => by cases h⟩, ⟨fun _ => HN.out⟩, ⟨(by repeat (first | (with_reducible first | exact HB.out | apply below_alloc | apply pw_below_drewN | apply below_drew1) | exact HB.out))⟩, ⟨by (with_reducible repeat (first | refine blk_drewN ?_ _ | refine blk_drew ?_ | refine blk_alloc ?_ _)); exact BK.out⟩, ⟨by (with_reducible repeat (first | refine drv_drewN ?_ _ | refine drv_drew ?_)); exact HD.out⟩⟩
        case rest =>
          obtain ⟨b, rfl, HT, HFA, HB, BK, HD⟩ := hcut
          have hcz_0 : wc.cell? ⟨gb, 0, none⟩ = some (.int .i64 st) := (blk_cell BK.out 0).trans rfl; have hcz_1 : wc.cell? ⟨gb, 1, none⟩ = some (.slice (some ad1) 12 c1) := (blk_cell BK.out 1).trans rfl; have hcz_2 : wc.cell? ⟨gb, 2, none⟩ = some (.slice (some ad2) 2 c2) := (blk_cell BK.out 2).trans rfl; have hcz_3 : wc.cell? ⟨gb, 3, none⟩ = some (.slice (some ad3) 12 c3) := (blk_cell BK.out 3).trans rfl; have hcz_4 : wc.cell? ⟨gb, 4, none⟩ = some (.slice A4 wt.length c4) := (blk_cell BK.out 4).trans rfl
          cases b with
          | true =>
            have HN := HT.out rfl
            have HN := Aside0.mk HN
            clear HT HFA
            go_wp2
            go_ret2
            exact Or.inl ⟨HN.out, rfl, (by repeat (first | (with_reducible first | exact HB.out | apply below_alloc | apply pw_below_drewN | apply below_drew1) | exact HB.out))⟩
          | false =>
            have HGO := Aside0.mk (HFA.out rfl)
            clear HT HFA
            go_wp2
            go_loopg [96, 7] wt.length (fun kq v96 v7 w' => ∃ (i : Nat) (ns : List (Nat × Pt)), v96 = .int .i64 (i : Int) ∧ v7 = .pointer (some (linkOf gd ns)) ∧ Aside0 (i + kq = wt.length) ∧ Aside0 (ns.map (·.2) = wt.take i) ∧ Aside0 (Below w.heap.size w w') ∧ Aside0 (Drv w' gd st sp sl rg ns))
            case atStart => exact ⟨0, [], rfl, rfl, ⟨Nat.zero_add _⟩, ⟨rfl⟩, ⟨(by repeat (first | (with_reducible first | exact HB.out | apply below_alloc | apply pw_below_drewN | apply below_drew1) | exact HB.out))⟩, ⟨by (with_reducible repeat (first | refine drv_drewN ?_ _ | refine drv_drew ?_)); exact HD.out⟩⟩
            case round =>
              obtain ⟨i, ns, rfl, rfl, HI, HM1, HB, HD⟩ := hrel
              by_cases c1 : i < wt.length
              · have c1b0 : decide ((i : Int) < (wt.length : Int)) = true := decide_eq_true (by omega)
                have p1 : (0 : Int) ≤ (i : Int) := by omega
                have q1 : (i : Int) < (wt.length : Int) := by omega
                have hm := HM.out
                have HWR := Aside0.mk (show wrap64 ((i : Int) + 1) = ((i + 1 : Nat) : Int) by unfold wrap64; omega)
                have HC1 := Aside0.mk c1
                clear hm
                obtain ⟨ad, e1, hx_0, hx_1, hx_2⟩ := at_T54 HR4.out (i : Int) p1 q1
                cases e1
                simp only [Int.toNat_natCast, rd_T54] at hx_0 hx_1 hx_2
                replace hx_0 := (HB.out.cell (World.block_lt_of_cell? w _ hx_0)).trans hx_0
                replace hx_1 := (HB.out.cell (World.block_lt_of_cell? w _ hx_1)).trans hx_1
                replace hx_2 := (HB.out.cell (World.block_lt_of_cell? w _ hx_2)).trans hx_2
                replace p1 := eq_true p1
                replace q1 := eq_true q1
                clear c1
                obtain ⟨x, hE⟩ : ∃ x, x = wt.getD i z54 := ⟨_, rfl⟩
                rw [← hE] at hx_0 hx_1 hx_2
                have HE := Aside0.mk hE
                clear hE
                have hu54 := Try.underlying54
                have hu112 := Try.underlying112
                obtain ⟨lb, lo, hlk0⟩ : ∃ lb lo, (⟨lb, lo, none⟩ : Addr) = linkOf gd ns := by cases ns <;> exact ⟨_, _, rfl⟩
                rw [← hlk0]
                have HLK0 := Aside0.mk hlk0
                have hlk1 : lb = lastN gd ns := (congrArg Addr.block hlk0).trans (linkOf_block gd ns)
                have HLK := Aside0.mk hlk1
                clear hlk1
                clear hlk0
                go_wp2_with (first | ((with_reducible refine gate_dst (N := 9) rfl ?_); refine box_event ?hg (N := 9) ?hd (cs := #[.bool false, .int .i64 0, .string ⟨#[]⟩]) (t := 54) ?hr ?_; (case hd => rfl); (case hg => rfl); (case hr => first | (go_simp; done) | (go_simp; rfl)); intro gp hg w20 hbox hb; have n0_ := Aside0.mk (below_step (by repeat (first | (with_reducible first | exact HB.out | apply below_alloc | apply pw_below_drewN | apply below_drew1) | exact HB.out)) hb); have n2_ := Aside0.mk (Drv.below (g := gd) (st := st) (sp := sp) (sl := sl) (rg := rg) (ns := ns) (by (with_reducible repeat (first | refine drv_drewN ?_ _ | refine drv_drew ?_)); exact HD.out) hb); have HLP : Aside0 (lastN gd ns < gp) := ⟨by rw [hg]; exact Drv.last_lt (st := st) (sp := sp) (sl := sl) (rg := rg) (by (with_reducible repeat (first | refine drv_drewN ?_ _ | refine drv_drew ?_)); exact HD.out)⟩; have HGP : Aside0 (w.heap.size ≤ gp) := ⟨by rw [hg]; exact (below_size (by repeat (first | (with_reducible first | exact HB.out | apply below_alloc | apply pw_below_drewN | apply below_drew1) | exact HB.out)))⟩; clear HB HD; have HB := n0_; have HD := n2_; have BP := Aside0.mk hbox; clear n0_ n2_ hb hbox hg; have hcp_0 : w20.cell? ⟨gp, 0, none⟩ = some (.bool false) := (blk_cell BP.out 0).trans rfl; have hcp_1 : w20.cell? ⟨gp, 1, none⟩ = some (.int .i64 0) := (blk_cell BP.out 1).trans rfl; have hcp_2 : w20.cell? ⟨gp, 2, none⟩ = some (.string ⟨#[]⟩) := (blk_cell BP.out 2).trans rfl; have hfp_0 := blk_frozen BP.out 0; have hfp_1 := blk_frozen BP.out 1; have hfp_2 := blk_frozen BP.out 2) | ((with_reducible refine gate_dst (N := 103) rfl ?_); refine box_event ?hg (N := 103) ?hd (cs := #[.bool x.f0, .int .i64 x.f1, .string x.f2, .pointer none]) (t := 112) ?hr ?_; (case hd => rfl); (case hg => rfl); (case hr => first | (go_simp; done) | (go_simp; rfl)); intro gn hg w21 hbox hb; have n0_ := Aside0.mk (below_step (by repeat (first | (with_reducible first | exact HB.out | apply below_alloc | apply pw_below_drewN | apply below_drew1 | refine below_set ?_ HGP.out) | exact HB.out)) hb); have n2_ := Aside0.mk (Drv.below (g := gd) (st := st) (sp := sp) (sl := sl) (rg := rg) (ns := ns) (by (with_reducible repeat (first | refine drv_drewN ?_ _ | refine drv_drew ?_ | refine Drv.far ?_ HLP.out _)); exact HD.out) hb); have HLN : Aside0 (lastN gd ns < gn) := ⟨by rw [hg]; exact Drv.last_lt (st := st) (sp := sp) (sl := sl) (rg := rg) (by (with_reducible repeat (first | refine drv_drewN ?_ _ | refine drv_drew ?_ | refine Drv.far ?_ HLP.out _)); exact HD.out)⟩; clear HB HD; have HB := n0_; have HD := n2_; have BN : Aside0 (Go.Proofs.Ytkgpnloghmbmlaa.Drv.Node w21 gn x (.pointer none)) := ⟨hbox⟩; clear n0_ n2_ hb hbox hg; have HLB : Aside0 (w.heap.size ≤ lb) := ⟨by rw [HLK.out]; exact Nat.le_trans HGD.out HD.out.seg.le⟩; have hlk : w21.cell? ⟨lb, lo, none⟩ = some (.pointer none) := (HLK0.out.symm ▸ HD.out.linkE); have hlf : w21.frozen? ⟨lb, lo, none⟩ = false := (HLK0.out.symm ▸ HD.out.linkFreeE)))
                go_roundg (gk - 1)
                case measure => have := HI.out; have := HC1.out; omega
                case rel =>
                  exact ⟨i + 1, ns ++ [(gn, x)], by rw [← HWR.out], by rw [linkOf_snoc], ⟨by have := HI.out; have := HC1.out; omega⟩, ⟨by rw [List.map_append, HM1.out, List.take_succ_eq_append_getElem HC1.out]; have h1 := HC1.out; simp [HE.out, List.getD, h1]⟩,
                    ⟨by repeat (first | exact HB.out | refine Below.setCell ?_ HLB.out _ | apply pw_below_drewN | apply below_drew1)⟩, ⟨by (with_reducible repeat (first | refine drv_drewN ?_ _ | refine drv_drew ?_)); rw [HLK0.out]; exact Drv.hang HD.out BN.out HLN.out⟩⟩
              · have c1b0 : decide ((i : Int) < (wt.length : Int)) = false := decide_eq_false (by omega)
                have HI2 : Aside0 (ns.map (·.2) = wt) := ⟨by rw [HM1.out, show i = wt.length by have := HI.out; omega, List.take_length]⟩
                have c1b1 : decide (i < wt.length) = false := decide_eq_false c1
                have c1b2 : ((i : Int) < (wt.length : Int)) = False := eq_false (by omega)
                go_wp2
                go_ret2
                exact Or.inr ⟨HGO.out, gd, ns, rfl, HGD.out, by (with_reducible repeat (first | refine drv_drewN ?_ _ | refine drv_drew ?_)); exact HD.out, HI2.out, (by repeat (first | (with_reducible first | exact HB.out | apply below_alloc | apply pw_below_drewN | apply below_drew1) | exact HB.out))⟩

theorem list12 {α : Type} (l : List α) (h : l.length = 12) : ∃ a0 a1 a2 a3 a4 a5 a6 a7 a8 a9 a10 a11, l = [a0, a1, a2, a3, a4, a5, a6, a7, a8, a9, a10, a11] := by
  match l, h with
  | [a0, a1, a2, a3, a4, a5, a6, a7, a8, a9, a10, a11], _ => exact ⟨a0, a1, a2, a3, a4, a5, a6, a7, a8, a9, a10, a11, rfl⟩
theorem list2 {α : Type} (l : List α) (h : l.length = 2) : ∃ a0 a1, l = [a0, a1] := by
  match l, h with
  | [a0, a1], _ => exact ⟨a0, a1, rfl⟩
/-- WHAT readDisk DOES. -/
theorem readDisk_calls (st : Int) (A1 : Option Addr) (c1 : Nat) (sl : List ByteArray) (A2 : Option Addr) (c2 : Nat) (rg : List ByteArray) (A3 : Option Addr) (c3 : Nat) (sp : List Bool) (A4 : Option Addr) (c4 : Nat) (wt : List S54) (w : World) (hr1 : Kd.C Kd.string w A1 sl.length sl) (hc1 : sl.length ≤ c1) (hr2 : Kd.C Kd.string w A2 rg.length rg) (hc2 : rg.length ≤ c2) (hr3 : Kd.C Kd.bool w A3 sp.length sp) (hc3 : sp.length ≤ c3) (hr4 : Kd.C k54 w A4 wt.length wt) (hc4 : wt.length ≤ c4) :
    Calls Try.prog 52 #[.agg #[.int .i64 st, .slice A1 sl.length c1, .slice A2 rg.length c2, .slice A3 sp.length c3, .slice A4 wt.length c4]] w fun e w' => ReadPost st sl rg sp wt w e w' := by
  by_cases hs : Shaped st sl rg sp wt
  · by_cases hw : wt.any (fun x => !putB x) = true
    · refine (readDisk_wait st A1 c1 sl A2 c2 rg A3 c3 sp A4 c4 wt w hr1 hc1 hr2 hc2 hr3 hc3 hr4 hc4 hs hw).mono fun e w' h => Or.inl ⟨fun hg => ?_, h⟩
      have := hg.wa
      rw [hw] at this
      cases this
    · have hw : wt.any (fun x => !putB x) = false := by simpa using hw
      obtain ⟨s0, s1, s2, s3, s4, s5, s6, s7, s8, s9, s10, s11, esl⟩ := list12 sl hs.2.1
      obtain ⟨r0, r1, erg⟩ := list2 rg hs.2.2.1
      obtain ⟨b0, b1, b2, b3, b4, b5, b6, b7, b8, b9, b10, b11, esp⟩ := list12 sp hs.2.2.2.1
      obtain ⟨ad1, rfl, h1⟩ := strs_at hr1 (by rw [hs.2.1]; omega)
      obtain ⟨ad2, rfl, h2⟩ := strs_at hr2 (by rw [hs.2.2.1]; omega)
      obtain ⟨ad3, rfl, h3⟩ := bools_at hr3 (by rw [hs.2.2.2.1]; omega)
      have l1 : ∀ W : World, Below w.heap.size w W → (Instr.loadAt 76 (.pointer (some ad1))).run Try.prog W = .ok (.agg (sl.map Value.string).toArray) W := fun W hb =>
        loadAt_list W ad1 76 _ _ (fun j v hv => (hb.cell (World.block_lt_of_cell? w _ (h1 j v hv))).trans (h1 j v hv)) Try.underlying76 rfl (by rw [List.length_map, hs.2.1]; kernel_rfl)
      have l2 : ∀ W : World, Below w.heap.size w W → (Instr.loadAt 77 (.pointer (some ad2))).run Try.prog W = .ok (.agg (rg.map Value.string).toArray) W := fun W hb =>
        loadAt_list W ad2 77 _ _ (fun j v hv => (hb.cell (World.block_lt_of_cell? w _ (h2 j v hv))).trans (h2 j v hv)) Try.underlying77 rfl (by rw [List.length_map, hs.2.2.1]; kernel_rfl)
      have l3 : ∀ W : World, Below w.heap.size w W → (Instr.loadAt 73 (.pointer (some ad3))).run Try.prog W = .ok (.agg (sp.map Value.bool).toArray) W := fun W hb =>
        loadAt_list W ad3 73 _ _ (fun j v hv => (hb.cell (World.block_lt_of_cell? w _ (h3 j v hv))).trans (h3 j v hv)) Try.underlying73 rfl (by rw [List.length_map, hs.2.2.2.1]; kernel_rfl)
      have cs : ∀ W : World, Below w.heap.size w W → Calls Try.prog 91 #[.agg #[.int .i64 st, .slice (some ad1) 12 c1, .slice (some ad2) 2 c2, .slice (some ad3) 12 c3, .slice A4 wt.length c4]] W fun e w' => e = .returned (.bool true) ∧ Below W.heap.size W w' := fun W hb => by
        have := impl_Disk_shaped.calls st _ _ sl _ _ rg _ _ sp _ _ wt _ W (Kd.C_below hr1 hb) hc1 (Kd.C_below hr2 hb) hc2 (Kd.C_below hr3 hb) hc3 (Kd.C_below hr4 hb) hc4 (shaped_eq st sl rg sp wt)
        rw [decide_eq_true hs, hs.2.1, hs.2.2.1, hs.2.2.2.1] at this
        exact this
      have cw : ∀ W : World, Below w.heap.size w W → Calls Try.prog 92 #[.slice A4 wt.length c4, .func (.func 93) #[] #[]] W fun e w' => e = .returned (.bool false) ∧ Below W.heap.size W w' := fun W hb => by
        have := containsPut A4 c4 wt W (Kd.C_below hr4 hb) hc4
        rw [hw] at this
        exact this
      have cg : ∀ W : World, Below w.heap.size w W → Calls Try.prog 95 #[.slice (some ad2) 2 c2, .func (.func 96) #[] #[]] W fun e w' => e = .returned (.bool (rg.any fun x => decide ((x.size : Int) > 700))) ∧ Below W.heap.size W w' := fun W hb => by
        have := containsText (some ad2) c2 rg W (Kd.C_below hr2 hb) hc2
        rw [hs.2.2.1] at this
        exact this
      have g1 : Kd.C Kd.string w (some ad1) 12 sl := hs.2.1 ▸ hr1
      have g3 : Kd.C Kd.bool w (some ad3) 12 sp := hs.2.2.2.1 ▸ hr3
      rw [hs.2.1, hs.2.2.1, hs.2.2.2.1]
      exact readDisk_main st ad1 ad2 ad3 A4 c1 c2 c3 c4 s0 s1 s2 s3 s4 s5 s6 s7 s8 s9 s10 s11 r0 r1 b0 b1 b2 b3 b4 b5 b6 b7 b8 b9 b10 b11 sl rg sp wt w esl erg esp (by rw [esl] at l1; exact l1) (by rw [erg] at l2; exact l2) (by rw [esp] at l3; exact l3) cs cw cg g1 g3 hr4 hs hw
  · exact (readDisk_shape st A1 c1 sl A2 c2 rg A3 c3 sp A4 c4 wt w hr1 hc1 hr2 hc2 hr3 hc3 hr4 hc4 hs).mono fun e w' h => Or.inl ⟨fun hg => hs hg.sh, h⟩
end Go.Proofs.Ytkgpnloghmbmlaa.Print
