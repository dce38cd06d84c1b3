/- Proved, with what follows on it: the row of the law FnDiskPut. Conditions: the row's alone. Texts of this session and words that the kit's print laid for this seat, merged and cut by shrink.py, a program of this session. -/
import Derived.ArgAppend
import Derived.Below
import Derived.BigQuiet
import Derived.Deep.AppendLies
import Derived.Deep.CutBlock
import Derived.Deep.DeepCutAuto
import Derived.Deep.Draws
import Derived.Deep.LoopGhost
import Derived.Deep.OwnRows
import Derived.Deep.QuietTactic
import Derived.Deep.RegionHeld3
import Derived.KernelRfl
import Derived.Laws.BitsLemmas
import Derived.Laws.BytesArg
import Derived.Laws.IdiomCopy
import Derived.Laws.MakeOwn
import Derived.Laws.OwnMore
import Derived.Laws.Rows
import Derived.Laws.Slices
import Derived.Lib.AppendStr
import Derived.Lib.ConvBytes
import Derived.Maps.AppendAt
import Derived.OrdersHeld
import Derived.OwnWalk
import Derived.RowKit
import Derived.RowKit3
import Derived.Tactics
import Derived.WalkKit
import Derived.WideLaws
import Derived.Test.YtkgpnloghmbmlaaProg
import Derived.Test.YtkgpnloghmbmlaaZFnDiskPutA
namespace Go.Proofs.Ytkgpnloghmbmlaa.Hd
open Go.RowKit Go.Proofs.YtkgpnloghmbmlaaW.PrintWords Go.Proofs.YtkgpnloghmbmlaaW.PrintLast
set_option linter.unusedVariables false
inductive Part where
  | same (lo hi : Nat) (wc : World)
  | box (g : Nat) (cs : Array Value) (t : TypeId)
def Part.lo : Part → Nat
  | .same lo _ _ => lo
  | .box g _ _ => g
def Part.hi : Part → Nat
  | .same _ hi _ => hi
  | .box g _ _ => g + 1
def Part.F (w : World) : Part → Prop
  | .same lo hi wc => ∀ k, lo ≤ k → k < hi → w.heap[k]? = wc.heap[k]?
  | .box g cs t => w.heap[g]? = some (.cells cs t (0, 0))
theorem Part.F.keep {w w' : World} : ∀ {p : Part}, p.F w → (∀ k, p.lo ≤ k → k < p.hi → w'.heap[k]? = w.heap[k]?) → p.F w'
  | .same _ _ _, h, hk => fun k h1 h2 => (hk k h1 h2).trans (h k h1 h2)
  | .box g _ _, h, hk => (hk g (Nat.le_refl _) (Nat.lt_succ_self _)).trans h
def Part.Off (p q : Part) : Prop := p.hi ≤ q.lo ∨ q.hi ≤ p.lo
theorem Part.Off.symm {p q : Part} (h : p.Off q) : q.Off p := Or.symm h
structure Hd (base : Nat) (w0 w : World) (L : List Part) : Prop where
  bel : Below base w0 w
  ge : base ≤ w.heap.size
  all : ∀ p ∈ L, base ≤ p.lo ∧ p.hi ≤ w.heap.size ∧ p.F w
  dis : L.Pairwise Part.Off
section
variable {base : Nat} {w0 w w' : World} {L : List Part}
theorem Hd.start (w : World) : Hd w.heap.size w w [] := ⟨Below.refl _ _, Nat.le_refl _, fun _ h => (by cases h), List.Pairwise.nil⟩
theorem Hd.base_le (h : Hd base w0 w L) : base ≤ w.heap.size := h.ge
theorem Hd.step (h : Hd base w0 w L) (hb : Below w.heap.size w w') : Hd base w0 w' L :=
  ⟨h.bel.trans (hb.mono h.ge), Nat.le_trans h.ge hb.size, fun p hp => have hq := h.all p hp; ⟨hq.1, Nat.le_trans hq.2.1 hb.size, hq.2.2.keep fun k _ h2 => hb.block k (Nat.lt_of_lt_of_le h2 hq.2.1)⟩, h.dis⟩
theorem Hd.drewN (h : Hd base w0 w L) (n : Nat) : Hd base w0 (w.drewN n) L :=
  ⟨⟨h.bel.os, h.bel.tape, h.bel.output, h.bel.size, h.bel.block⟩, h.ge, fun p hp => have hq := h.all p hp; ⟨hq.1, hq.2.1, hq.2.2.keep fun _ _ _ => rfl⟩, h.dis⟩
theorem Hd.drew (h : Hd base w0 w L) : Hd base w0 w.drew L :=
  ⟨h.bel.drew, h.ge, fun p hp => have hq := h.all p hp; ⟨hq.1, hq.2.1, hq.2.2.keep fun _ _ _ => rfl⟩, h.dis⟩
theorem Hd.less {p : Part} (h : Hd base w0 w (p :: L)) : Hd base w0 w L := ⟨h.bel, h.ge, fun q hq => h.all q (List.mem_cons_of_mem _ hq), (List.pairwise_cons.1 h.dis).2⟩
theorem Hd.more {p : Part} (h : Hd base w0 w L) (hb : Below w.heap.size w w') (h1 : w.heap.size ≤ p.lo) (h2 : p.hi ≤ w'.heap.size) (h3 : p.F w') : Hd base w0 w' (p :: L) :=
  have hs := h.step hb
  ⟨hs.bel, hs.ge, fun q hq => by
    rcases List.mem_cons.1 hq with rfl | hq
    · exact ⟨Nat.le_trans h.ge h1, h2, h3⟩
    · exact hs.all q hq, List.pairwise_cons.2 ⟨fun q hq => .inr (Nat.le_trans (h.all q hq).2.1 h1), hs.dis⟩⟩
theorem Hd.made (h : Hd base w0 w L) (hb : Below w.heap.size w w') : Hd base w0 w' (.same w.heap.size w'.heap.size w' :: L) :=
  h.more hb (Nat.le_refl _) (Nat.le_refl _) (fun _ _ _ => rfl)
theorem Hd.boxed (h : Hd base w0 w L) {g : Nat} {cs : Array Value} {t : TypeId} (hg : g = w.heap.size) (hbox : w'.heap[g]? = some (.cells cs t (0, 0))) (hb : Below w.heap.size w w') : Hd base w0 w' (.box g cs t :: L) :=
  h.more hb (Nat.le_of_eq hg.symm) (blk_lt hbox) hbox
theorem Hd.get (h : Hd base w0 w L) (i : Nat) {p : Part} (e : L[i]? = some p) : base ≤ p.lo ∧ p.hi ≤ w.heap.size ∧ p.F w := h.all p (List.mem_of_getElem? e)
theorem Hd.box (h : Hd base w0 w L) (i : Nat) {g : Nat} {cs : Array Value} {t : TypeId} (e : L[i]? = some (.box g cs t)) : w.heap[g]? = some (.cells cs t (0, 0)) := (h.get i e).2.2
theorem Hd.box_ge (h : Hd base w0 w L) (i : Nat) {g : Nat} {cs : Array Value} {t : TypeId} (e : L[i]? = some (.box g cs t)) : base ≤ g := (h.get i e).1
theorem Hd.same (h : Hd base w0 w L) (i : Nat) {lo hi : Nat} {wc : World} (e : L[i]? = some (.same lo hi wc)) : ∀ k, lo ≤ k → k < hi → w.heap[k]? = wc.heap[k]? := (h.get i e).2.2
theorem off_set : ∀ {L : List Part} {i : Nat} {p p' : Part}, L.Pairwise Part.Off → L[i]? = some p → p'.lo = p.lo → p'.hi = p.hi → (L.set i p').Pairwise Part.Off ∧ (∀ q ∈ L.set i p', q = p' ∨ (q ∈ L ∧ q.Off p))
  | [], _, _, _, _, e, _, _ => by simp at e
  | q :: L, 0, p, p', h, e, e1, e2 => by
    obtain rfl : q = p := by simpa using e
    have hc := List.pairwise_cons.1 h
    refine ⟨List.pairwise_cons.2 ⟨fun r hr => ?_, hc.2⟩, fun r hr => ?_⟩
    · have := hc.1 r hr
      unfold Part.Off at this ⊢
      omega
    · rcases List.mem_cons.1 hr with rfl | hr
      · exact .inl rfl
      · exact .inr ⟨List.mem_cons_of_mem _ hr, (hc.1 r hr).symm⟩
  | q :: L, i + 1, p, p', h, e, e1, e2 => by
    have hc := List.pairwise_cons.1 h
    have e' : L[i]? = some p := by simpa using e
    have ih := off_set hc.2 e' e1 e2
    refine ⟨List.pairwise_cons.2 ⟨fun r hr => ?_, ih.1⟩, fun r hr => ?_⟩
    · rcases ih.2 r hr with rfl | hr
      · have := hc.1 p (List.mem_of_getElem? e')
        unfold Part.Off at this ⊢
        omega
      · exact hc.1 r hr.1
    · rcases List.mem_cons.1 hr with rfl | hr
      · exact .inr ⟨List.mem_cons_self, hc.1 p (List.mem_of_getElem? e')⟩
      · rcases ih.2 r hr with h1 | h1
        · exact .inl h1
        · exact .inr ⟨List.mem_cons_of_mem _ h1.1, h1.2⟩
theorem Hd.put (h : Hd base w0 w L) (i : Nat) {p p' : Part} (e : L[i]? = some p) (e1 : p'.lo = p.lo) (e2 : p'.hi = p.hi) (hF : p'.F w') (hb : Below base w w') (hk : ∀ k, k < w.heap.size → (k < p.lo ∨ p.hi ≤ k) → w'.heap[k]? = w.heap[k]?) : Hd base w0 w' (L.set i p') := by
  have hs := off_set h.dis e e1 e2
  have hg := h.get i e
  refine ⟨h.bel.trans hb, Nat.le_trans h.ge hb.size, fun q hq => ?_, hs.1⟩
  rcases hs.2 q hq with rfl | ⟨h1, h2⟩
  · exact ⟨e1 ▸ hg.1, e2 ▸ Nat.le_trans hg.2.1 hb.size, hF⟩
  · have ha := h.all q h1
    exact ⟨ha.1, Nat.le_trans ha.2.1 hb.size, ha.2.2.keep fun k h3 h4 => hk k (Nat.lt_of_lt_of_le h4 ha.2.1) (by unfold Part.Off at h2; omega)⟩
theorem Hd.set_box (h : Hd base w0 w L) (i : Nat) {g : Nat} {cs : Array Value} {t : TypeId} (e : L[i]? = some (.box g cs t)) (j : Nat) (v : Value) : Hd base w0 (w.setCell ⟨g, j, none⟩ v) (L.set i (.box g (cs.setIfInBounds j v) t)) :=
  have hg := h.get i e
  h.put i e rfl rfl (blk_set hg.2.2 j v) ((Below.refl base w).setCell (p := ⟨g, j, none⟩) hg.1 v) fun k _ h3 => Below.heap_setCell w _ v k (by show k ≠ g; have : (Part.box g cs t).lo = g := rfl; have : (Part.box g cs t).hi = g + 1 := rfl; omega)
theorem Hd.wrote (h : Hd base w0 w L) (i : Nat) {lo hi : Nat} {wc : World} (e : L[i]? = some (.same lo hi wc)) (hb : Below base w w') (hk : ∀ k, k < w.heap.size → (k < lo ∨ hi ≤ k) → w'.heap[k]? = w.heap[k]?) : Hd base w0 w' (L.set i (.same lo hi w')) :=
  h.put i e rfl rfl (p' := .same lo hi w') (fun _ _ _ => rfl) hb hk
theorem Hd.grown (h : Hd base w0 w L) {row : Option Nat} (hg : w.grownBy w' row) (hr : ∀ k, row = some k → base ≤ k ∧ ∀ p ∈ L, k < p.lo ∨ p.hi ≤ k) : Hd base w0 w' L :=
  ⟨h.bel.trans ⟨hg.os, hg.tape, hg.output, hg.size, fun k hk => hg.block k (Nat.lt_of_lt_of_le hk h.ge) fun e => by have := (hr k e.symm).1; omega⟩, Nat.le_trans h.ge hg.size,
    fun p hp => have hq := h.all p hp; ⟨hq.1, Nat.le_trans hq.2.1 hg.size, hq.2.2.keep fun k h1 h2 => hg.block k (Nat.lt_of_lt_of_le h2 hq.2.1) fun e => by have := (hr k e.symm).2 p hp; omega⟩, h.dis⟩
theorem Hd.sel (h : Hd base w0 w L) (is : List Nat) (L' : List Part) (hn : is.Nodup) (e : is.map (fun i => L[i]?) = L'.map some) : Hd base w0 w L' := by
  have key : ∀ (is : List Nat) (L' : List Part), is.Nodup → is.map (fun i => L[i]?) = L'.map some → (∀ p ∈ L', ∃ i ∈ is, L[i]? = some p) ∧ L'.Pairwise Part.Off := by
    intro is
    induction is with
    | nil =>
      intro L' _ e
      cases L' with
      | nil => exact ⟨fun _ h => (by cases h), List.Pairwise.nil⟩
      | cons _ _ => simp at e
    | cons i is ih =>
      intro L' hn e
      cases L' with
      | nil => simp at e
      | cons p L' =>
        simp only [List.map_cons, List.cons.injEq] at e
        have hc := List.nodup_cons.1 hn
        have h1 := ih L' hc.2 e.2
        refine ⟨fun q hq => ?_, List.pairwise_cons.2 ⟨fun q hq => ?_, h1.2⟩⟩
        · rcases List.mem_cons.1 hq with rfl | hq
          · exact ⟨i, List.mem_cons_self, e.1⟩
          · obtain ⟨j, hj, hj2⟩ := h1.1 q hq
            exact ⟨j, List.mem_cons_of_mem _ hj, hj2⟩
        · obtain ⟨j, hj, hj2⟩ := h1.1 q hq
          have hij : i ≠ j := fun e => hc.1 (e ▸ hj)
          obtain ⟨hi1, hi2⟩ := List.getElem?_eq_some_iff.1 e.1
          obtain ⟨hj1, hj3⟩ := List.getElem?_eq_some_iff.1 hj2
          rw [← hi2, ← hj3]
          rcases Nat.lt_or_gt_of_ne hij with hl | hl
          · exact List.pairwise_iff_getElem.1 h.dis i j hi1 hj1 hl
          · exact (List.pairwise_iff_getElem.1 h.dis j i hj1 hi1 hl).symm
  have hk := key is L' hn e
  refine ⟨h.bel, h.ge, fun p hp => ?_, hk.2⟩
  obtain ⟨i, _, hi⟩ := hk.1 p hp
  exact h.get i hi
theorem Hd.C {α : Type} {d : Kd α} {A : Option Addr} {n : Nat} {xs : List α} (h : Hd w0.heap.size w0 w L) (hc : d.C w0 A n xs) : d.C w A n xs := Kd.C_below hc h.bel
end
end Go.Proofs.Ytkgpnloghmbmlaa.Hd
namespace Go.Proofs.Ytkgpnloghmbmlaa.Hd
open Go.RowKit Go.Proofs.YtkgpnloghmbmlaaW.PrintWords Go.Proofs.YtkgpnloghmbmlaaW.PrintLast
set_option linter.unusedVariables false
theorem Hd.set_row {base : Nat} {w0 w : World} {L : List Part} (h : Hd base w0 w L) (i : Nat) {g : Nat} {cs : Array Value} {t : TypeId} (e : L[i]? = some (.box g cs t)) (cs' : Array Value) : Hd base w0 (w.setRow g cs') (L.set i (.box g cs' t)) := by
  have hg := h.get i e
  have hgb : base ≤ g := hg.1
  have far : ∀ k, k ≠ g → (w.setRow g cs').heap[k]? = w.heap[k]? := fun k hk => setRow_other w g k cs' hk
  refine h.put i e rfl rfl (p' := .box g cs' t) (setRow_heap w g cs cs' t (0, 0) hg.2.2) ⟨rfl, rfl, rfl, by rw [setRow_size]; exact Nat.le_refl _, fun k hk => far k (by omega)⟩ fun k _ h3 => far k (by have : (Part.box g cs t).lo = g := rfl; have : (Part.box g cs t).hi = g + 1 := rfl; omega)
section
variable {P : Program} {ops : Array Oper} {Q : Exit → Act → World → Prop} {rest : List Oper} {o : Oper} {a : Act} {base : Nat} {w0 w : World} {L : List Part}
theorem Hd.run_row (h : Hd base w0 w L) (i : Nat) {g : Nat} {cs : Array Value} {t : TypeId} (e : L[i]? = some (.box g cs t)) {ty : TypeId} {x : Operand} (ho : o.op = .load ty x) (hx : a.eval x = .pointer (some ⟨g, 0, none⟩)) {d : TypeDesc}
    (hu : P.underlying ty = some d) (hd : (match d with | .struct _ | .array _ _ => true | _ => false) = true) (hi : (P.info? ty).map (·.size) = some cs.size) : (execOp a.eval o).run P w = .ok (.value (.agg cs)) w := by
  unfold execOp
  simp only [ho, hx, Instr.loadAt, Instr.sureAddr, Sem.run_bind, Sem.run_pure, Result.andThen_ok, run_loadVar_row w g t ty cs (0, 0) d (h.box i e) hu hd hi]
theorem Hd.ld_row (h : Hd base w0 w L) (i : Nat) {g : Nat} {cs : Array Value} {t : TypeId} (e : L[i]? = some (.box g cs t)) (hgd : o.guard = none) {ty : TypeId} {x : Operand} (ho : o.op = .load ty x) (hx : a.eval x = .pointer (some ⟨g, 0, none⟩)) {d : TypeDesc}
    (hu : P.underlying ty = some d) (hd : (match d with | .struct _ | .array _ _ => true | _ => false) = true) (hi : (P.info? ty).map (·.size) = some cs.size) (k : wpList P ops Q rest (a.put o.dst (.agg cs)) w) : wpList P ops Q (o :: rest) a w :=
  Kd.event_run hgd (h.run_row i e ho hx hu hd hi) k
theorem run_loadVar_cell {ty : TypeId} {d : TypeDesc} {A : Addr} {v : Value} (hu : P.underlying ty = some d) (hd : (match d with | .struct _ | .array _ _ => true | _ => false) = false) (hc : w.cell? A = some v) : (loadVar ty A).run P w = .ok v w := by
  have hagg : (isAgg ty).run P w = .ok false w := by
    unfold isAgg
    rw [Sem.run_bind, run_underlying hu w]
    cases d <;> simp_all
  simp [loadVar, Sem.run_bind, hagg, load, Sem.run, hc]
theorem Hd.run_cell (h : Hd base w0 w L) (i : Nat) {g : Nat} {cs : Array Value} {t : TypeId} (e : L[i]? = some (.box g cs t)) (j : Nat) {v : Value} (hv : cs[j]? = some v) {ty : TypeId} {x : Operand} (ho : o.op = .load ty x) (hx : a.eval x = .pointer (some ⟨g, j, none⟩)) {d : TypeDesc}
    (hu : P.underlying ty = some d) (hd : (match d with | .struct _ | .array _ _ => true | _ => false) = false) : (execOp a.eval o).run P w = .ok (.value v) w := by
  unfold execOp
  simp only [ho, hx, Instr.loadAt, Instr.sureAddr, Sem.run_bind, Sem.run_pure, Result.andThen_ok, run_loadVar_cell (w := w) hu hd ((zq4 (h.box i e) j).trans hv)]
theorem Hd.ld_cell (h : Hd base w0 w L) (i : Nat) {g : Nat} {cs : Array Value} {t : TypeId} (e : L[i]? = some (.box g cs t)) (j : Nat) {v : Value} (hv : cs[j]? = some v) (hgd : o.guard = none) {ty : TypeId} {x : Operand} (ho : o.op = .load ty x) (hx : a.eval x = .pointer (some ⟨g, j, none⟩)) {d : TypeDesc}
    (hu : P.underlying ty = some d) (hd : (match d with | .struct _ | .array _ _ => true | _ => false) = false) (k : wpList P ops Q rest (a.put o.dst v) w) : wpList P ops Q (o :: rest) a w :=
  Kd.event_run hgd (h.run_cell i e j hv ho hx hu hd) k
theorem Hd.bx (h : Hd base w0 w L) (hgd : o.guard = none) (cs : Array Value) (t : TypeId)
    (hrun : (execOp a.eval o).run P w = .ok (.value (.pointer (some ⟨w.heap.size, 0, none⟩))) (w.alloc (.cells cs t (0, 0))))
    (k : ∀ g w1, Az (Hd base w0 w1 (.box g cs t :: L)) → wpList P ops Q rest (a.put o.dst (.pointer (some ⟨g, 0, none⟩))) w1) : wpList P ops Q (o :: rest) a w :=
  Kd.event_run hgd hrun (k _ _ ⟨h.boxed rfl (blk_new w _) (zq2 (Below.refl _ _) _)⟩)
theorem Hd.run_st (h : Hd base w0 w L) (i : Nat) {g : Nat} {cs : Array Value} {t : TypeId} (e : L[i]? = some (.box g cs t)) {ty : TypeId} {x y : Operand} (ho : o.op = .store ty x y) (hx : a.eval x = .pointer (some ⟨g, 0, none⟩)) (cs' : Array Value) (hy : a.eval y = .agg cs')
    (hi : (P.info? ty).map (·.size) = some cs'.size) (hs : cs.size = cs'.size) (h1 : cs'.all (·.oneCell') = true) : (execOp a.eval o).run P w = .ok .skip (w.setRow g cs') := by
  unfold execOp
  simp only [ho, hx, hy, Instr.storeAt, Instr.sureAddr, Sem.run_bind, Sem.run_pure, Result.andThen_ok, run_storeVar_row w g t ty cs cs' (h.box i e) hi hs h1]
theorem Hd.st_row (h : Hd base w0 w L) (i : Nat) {g : Nat} {cs : Array Value} {t : TypeId} (e : L[i]? = some (.box g cs t)) (hgd : o.guard = none) {ty : TypeId} {x y : Operand} (ho : o.op = .store ty x y) (hN : o.dst = none) (hx : a.eval x = .pointer (some ⟨g, 0, none⟩)) (cs' : Array Value) (hy : a.eval y = .agg cs')
    (hi : (P.info? ty).map (·.size) = some cs'.size) (hs : cs.size = cs'.size) (h1 : cs'.all (·.oneCell') = true) (k : ∀ w1, Az (Hd base w0 w1 (L.set i (.box g cs' t))) → wpList P ops Q rest a w1) : wpList P ops Q (o :: rest) a w := by
  refine wpList_plain hgd fun K hK => ?_
  unfold Oper.wp
  rw [h.run_st i e ho hx cs' hy hi hs h1]
  show K (a.put o.dst undef) _
  rw [hN]
  exact hK _ _ (k _ ⟨h.set_row i e cs'⟩)
theorem Hd.st_cell (h : Hd base w0 w L) (i : Nat) {g : Nat} {cs : Array Value} {t : TypeId} (e : L[i]? = some (.box g cs t)) (j : Nat) (v : Value) (hgd : o.guard = none) (hN : o.dst = none) 
    (hrun : (execOp a.eval o).run P w = .ok .skip (w.setCell ⟨g, j, none⟩ v)) (k : ∀ w1, Az (Hd base w0 w1 (L.set i (.box g (cs.setIfInBounds j v) t))) → wpList P ops Q rest a w1) : wpList P ops Q (o :: rest) a w := by
  refine wpList_plain hgd fun K hK => ?_
  unfold Oper.wp
  rw [hrun]
  show K (a.put o.dst undef) _
  rw [hN]
  exact hK _ _ (k _ ⟨h.set_box i e j v⟩)
end
end Go.Proofs.Ytkgpnloghmbmlaa.Hd
namespace Go.Proofs.Ytkgpnloghmbmlaa.Hd
open Go.RowKit Go.Proofs.YtkgpnloghmbmlaaW.PrintWords Go.Proofs.YtkgpnloghmbmlaaW.PrintLast
set_option linter.unusedVariables false
section
variable {P : Program} {ops : Array Oper} {Q : Exit → Act → World → Prop} {rest : List Oper} {o : Oper} {a : Act} {base : Nat} {w0 w : World} {L : List Part}
theorem run_c {A : Addr} {v : Value} {ty : TypeId} {x : Operand} {d : TypeDesc} (hc : w.cell? A = some v) (ho : o.op = .load ty x) (hx : a.eval x = .pointer (some A)) (hu : P.underlying ty = some d) (hd : (match d with | .struct _ | .array _ _ => true | _ => false) = false) : (execOp a.eval o).run P w = .ok (.value v) w := by
  unfold execOp
  simp only [ho, hx, Instr.loadAt, Instr.sureAddr, Sem.run_bind, Sem.run_pure, Result.andThen_ok, run_loadVar_cell (w := w) hu hd hc]
theorem ld_c {A : Addr} {v : Value} {ty : TypeId} {x : Operand} {d : TypeDesc} (hc : w.cell? A = some v) (hgd : o.guard = none) (ho : o.op = .load ty x) (hx : a.eval x = .pointer (some A)) (hu : P.underlying ty = some d) (hd : (match d with | .struct _ | .array _ _ => true | _ => false) = false)
    (k : wpList P ops Q rest (a.put o.dst v) w) : wpList P ops Q (o :: rest) a w := Kd.event_run hgd (run_c hc ho hx hu hd) k
theorem run_storeVar_cell {ty : TypeId} {A : Addr} {u v : Value} (hi : (P.info? ty).map (·.size) = some 1) (hc : w.cell? A = some u) (hf : w.frozen? A = false) (h1 : v.oneCell' = true) : (storeVar ty A v).run P w = .ok () (w.setCell A v) := by
  cases hq : P.info? ty with
  | none => simp [hq] at hi
  | some i =>
    have hs : i.size = 1 := by simpa [hq] using hi
    have hz : A.add 0 = A := by simp [Addr.add]
    have hcl : v.cells = #[v] := by cases v <;> simp_all [Value.cells, Value.oneCell']
    have hst := run_store P w A v .plain h1
    simp [storeVar, sizeOf, typeInfo, hq, hcl, hs, storeCells, hz, Sem.run_bind, hst, hc, hf]
theorem run_sc {A : Addr} {u v : Value} {ty : TypeId} {x y : Operand} (hi : (P.info? ty).map (·.size) = some 1) (hc : w.cell? A = some u) (hf : w.frozen? A = false) (ho : o.op = .store ty x y) (hx : a.eval x = .pointer (some A)) (hy : a.eval y = v) (h1 : v.oneCell' = true) : (execOp a.eval o).run P w = .ok .skip (w.setCell A v) := by
  unfold execOp
  simp only [ho, hx, hy, Instr.storeAt, Instr.sureAddr, Sem.run_bind, Sem.run_pure, Result.andThen_ok, run_storeVar_cell hi hc hf h1]
theorem st_c {A : Addr} {u v : Value} {ty : TypeId} {x y : Operand} {R : World → Prop} (hi : (P.info? ty).map (·.size) = some 1) (hc : w.cell? A = some u) (hf : w.frozen? A = false) (hgd : o.guard = none) (ho : o.op = .store ty x y) (hN : o.dst = none) (hx : a.eval x = .pointer (some A)) (hy : a.eval y = v) (h1 : v.oneCell' = true)
    (hH : R (w.setCell A v)) (k : ∀ w1, R w1 → wpList P ops Q rest a w1) : wpList P ops Q (o :: rest) a w := by
  refine wpList_plain hgd fun K hK => ?_
  unfold Oper.wp
  rw [run_sc hi hc hf ho hx hy h1]
  show K (a.put o.dst undef) _
  rw [hN]
  exact hK _ _ (k _ hH)
def BytesAt (w : World) (g : Nat) (xs : List Int) : Prop := ∀ i, i < xs.length → w.cell? ⟨g, i, none⟩ = some (.int .u8 (xs.getD i 0)) ∧ w.frozen? ⟨g, i, none⟩ = false
theorem BytesAt.move {w w' : World} {g : Nat} {xs : List Int} (h : BytesAt w g xs) (hk : w'.heap[g]? = w.heap[g]?) : BytesAt w' g xs := fun i hi =>
  ⟨(World.cell?_of_block (w := w) (a := ⟨g, i, none⟩) hk).trans (h i hi).1, (World.frozen?_of_block (w := w) (a := ⟨g, i, none⟩) hk).trans (h i hi).2⟩
theorem BytesAt.put {w : World} {g b : Nat} {xs : List Int} {v : Int} (h : BytesAt w g xs) (hb : b < xs.length) : BytesAt (w.setCell ⟨g, b, none⟩ (.int .u8 v)) g (xs.set b v) := fun i hi => by
  rw [List.length_set] at hi
  refine ⟨?_, by rw [World.frozen?_setCell]; exact (h i hi).2⟩
  by_cases hib : b = i
  · subst hib
    rw [World.cell?_setCell_same' _ _ _ (by rw [(h b hb).1]; rfl)]
    simp [List.getD, hb]
  · rw [World.cell?_setCell_other _ _ _ _ (by simp; try omega), (h i hi).1]
    simp only [List.getD, List.getElem?_set_ne hib]
theorem bytesAt_new (w : World) (e : TypeId) (s : ByteArray) : BytesAt (Lib.bytesWorld w e s) w.heap.size (bytesOf s) := fun i hi => by
  have hl : (bytesOf s).length = s.size := by simp [bytesOf]
  rw [hl] at hi
  refine ⟨?_, ?_⟩
  · rw [Lib.bytesWorld_cell w e s i hi]
    simp [bytesOf, List.getD, hi]
  · have hblk := Lib.bytesWorld_at_new w e s
    have hsz : s.size ≤ (Lib.bytesCells w e s).size := by simp [Lib.bytesCells]
    simp [World.frozen?, hblk]
    omega
theorem Hd.conv_sb (h : Hd base w0 w L) (hgd : o.guard = none) {ts tb te : TypeId} {x : Operand} {s : ByteArray} (hts : P.underlying ts = some .string) (htb : P.underlying tb = some (.slice te)) (hte : P.underlying te = some (.int .u8)) (ho : o.op = .convert ts tb x) (hx : a.eval x = .string s)
    (k : ∀ g c w1, Az (Hd base w0 w1 (.same g (g + 1) w1 :: L)) → Az (BytesAt w1 g (bytesOf s)) → wpList P ops Q rest (a.put o.dst (.slice (some ⟨g, 0, none⟩) s.size c)) w1) : wpList P ops Q (o :: rest) a w := by
  refine Kd.event_run hgd (w1 := Lib.bytesWorld w te s) (v := .slice (some ⟨w.heap.size, 0, none⟩) s.size (grownCap w s.size 0 te)) ?_ (k _ _ _ ⟨?_⟩ ⟨bytesAt_new w te s⟩)
  · unfold execOp
    simp only [ho, hx, Sem.run_bind, Lib.run_convert_string_bytes w ts tb te s hts htb hte, Result.andThen_ok]
    rfl
  · have hsz := Lib.bytesWorld_size w te s
    exact h.more ⟨rfl, rfl, rfl, by omega, fun j hj => Lib.bytesWorld_at_old w te s j hj⟩ (Nat.le_refl _) (by show w.heap.size + 1 ≤ _; omega) (fun _ _ _ => rfl)
theorem conv_bs (hgd : o.guard = none) {ts tb te : TypeId} {x : Operand} {g n c : Nat} {xs : List Int} (hts : P.underlying ts = some .string) (htb : P.underlying tb = some (.slice te)) (hte : P.underlying te = some (.int .u8)) (ho : o.op = .convert tb ts x) (hx : a.eval x = .slice (some ⟨g, 0, none⟩) n c) (hn : xs.length = n) (hb : BytesAt w g xs)
    (k : wpList P ops Q rest (a.put o.dst (.string (strOfNums xs))) w) : wpList P ops Q (o :: rest) a w := by
  refine Kd.event_run hgd ?_ k
  unfold execOp
  simp only [ho, hx, Sem.run_bind, run_convert_bytes_arg w tb te htb hte g 0 n c xs hn (fun i hi => by rw [Nat.zero_add]; exact (hb i (by omega)).1) ts hts, Result.andThen_ok]
  rfl
theorem Hd.kept {lo hi : Nat} (h : Hd lo w0 w L) (i : Nat) (e : L[i]? = some (.same hi w0.heap.size w0)) : ∀ k, k < w0.heap.size → (k < lo ∨ hi ≤ k) → w.heap[k]? = w0.heap[k]? := fun k h1 h2 => by
  rcases h2 with h2 | h2
  · exact h.bel.block k h2
  · exact h.same i e k h2 h1
theorem Hd.cell (h : Hd base w0 w L) (i : Nat) {lo hi : Nat} {wc : World} (e : L[i]? = some (.same lo hi wc)) {g j : Nat} {v : Value} (hg : lo ≤ g ∧ g < hi) (hc : wc.cell? ⟨g, j, none⟩ = some v) : w.cell? ⟨g, j, none⟩ = some v :=
  (World.cell?_of_block (w := wc) (a := ⟨g, j, none⟩) (h.same i e g hg.1 hg.2)).trans hc
theorem Hd.frz (h : Hd base w0 w L) (i : Nat) {lo hi : Nat} {wc : World} (e : L[i]? = some (.same lo hi wc)) {g j : Nat} (hg : lo ≤ g ∧ g < hi) (hc : wc.frozen? ⟨g, j, none⟩ = false) : w.frozen? ⟨g, j, none⟩ = false :=
  (World.frozen?_of_block (w := wc) (a := ⟨g, j, none⟩) (h.same i e g hg.1 hg.2)).trans hc
end
end Go.Proofs.Ytkgpnloghmbmlaa.Hd
namespace Go.Proofs.Ytkgpnloghmbmlaa.Hq
open Go.RowKit Go.Proofs.YtkgpnloghmbmlaaW.PrintWords Go.Proofs.YtkgpnloghmbmlaaW.PrintLast
set_option linter.unusedVariables false
inductive Part where
  | set (S : Nat → Prop) (wc : World)
  | box (g : Nat) (cs : Array Value) (t : TypeId)
def Part.has : Part → Nat → Prop
  | .set S _ => S
  | .box g _ _ => fun k => k = g
def Part.F (w : World) : Part → Prop
  | .set S wc => ∀ k, S k → w.heap[k]? = wc.heap[k]?
  | .box g cs t => w.heap[g]? = some (.cells cs t (0, 0))
theorem Part.F.keep {w w' : World} : ∀ {p : Part}, p.F w → (∀ k, p.has k → w'.heap[k]? = w.heap[k]?) → p.F w'
  | .set _ _, h, hk => fun k h1 => (hk k h1).trans (h k h1)
  | .box g _ _, h, hk => (hk g rfl).trans h
def Part.Off (p q : Part) : Prop := ∀ k, p.has k → q.has k → False
theorem Part.Off.symm {p q : Part} (h : p.Off q) : q.Off p := fun k h1 h2 => h k h2 h1
structure Hq (base : Nat) (w0 w : World) (L : List Part) : Prop where
  bel : Below base w0 w
  ge : base ≤ w.heap.size
  all : ∀ p ∈ L, (∀ k, p.has k → base ≤ k ∧ k < w.heap.size) ∧ p.F w
  dis : L.Pairwise Part.Off
section
variable {base : Nat} {w0 w w' : World} {L : List Part}
theorem Hq.step (h : Hq base w0 w L) (hb : Below w.heap.size w w') : Hq base w0 w' L :=
  ⟨h.bel.trans (hb.mono h.ge), Nat.le_trans h.ge hb.size, fun p hp => have hq := h.all p hp; ⟨fun k hk => ⟨(hq.1 k hk).1, Nat.lt_of_lt_of_le (hq.1 k hk).2 hb.size⟩, hq.2.keep fun k hk => hb.block k (hq.1 k hk).2⟩, h.dis⟩
theorem Hq.drewN (h : Hq base w0 w L) (n : Nat) : Hq base w0 (w.drewN n) L :=
  ⟨⟨h.bel.os, h.bel.tape, h.bel.output, h.bel.size, h.bel.block⟩, h.ge, fun p hp => have hq := h.all p hp; ⟨hq.1, hq.2.keep fun _ _ => rfl⟩, h.dis⟩
theorem Hq.drew (h : Hq base w0 w L) : Hq base w0 w.drew L :=
  ⟨h.bel.drew, h.ge, fun p hp => have hq := h.all p hp; ⟨hq.1, hq.2.keep fun _ _ => rfl⟩, h.dis⟩
theorem Hq.less {p : Part} (h : Hq base w0 w (p :: L)) : Hq base w0 w L := ⟨h.bel, h.ge, fun q hq => h.all q (List.mem_cons_of_mem _ hq), (List.pairwise_cons.1 h.dis).2⟩
theorem Hq.more {p : Part} (h : Hq base w0 w L) (hb : Below w.heap.size w w') (h1 : ∀ k, p.has k → w.heap.size ≤ k ∧ k < w'.heap.size) (h3 : p.F w') : Hq base w0 w' (p :: L) :=
  have hs := h.step hb
  ⟨hs.bel, hs.ge, fun q hq => by
    rcases List.mem_cons.1 hq with rfl | hq
    · exact ⟨fun k hk => ⟨Nat.le_trans h.ge (h1 k hk).1, (h1 k hk).2⟩, h3⟩
    · exact hs.all q hq, List.pairwise_cons.2 ⟨fun q hq k hk hk2 => by have := (h1 k hk).1; have := ((h.all q hq).1 k hk2).2; omega, hs.dis⟩⟩
theorem Hq.made (h : Hq base w0 w L) (hb : Below w.heap.size w w') : Hq base w0 w' (.set (fun k => w.heap.size ≤ k ∧ k < w'.heap.size) w' :: L) :=
  h.more hb (fun _ hk => hk) (fun _ _ => rfl)
theorem Hq.boxed (h : Hq base w0 w L) {g : Nat} {cs : Array Value} {t : TypeId} (hg : g = w.heap.size) (hbox : w'.heap[g]? = some (.cells cs t (0, 0))) (hb : Below w.heap.size w w') : Hq base w0 w' (.box g cs t :: L) :=
  h.more hb (fun k hk => by
    obtain rfl : k = g := hk
    exact ⟨Nat.le_of_eq hg.symm, blk_lt hbox⟩) hbox
theorem Hq.get (h : Hq base w0 w L) (i : Nat) {p : Part} (e : L[i]? = some p) : (∀ k, p.has k → base ≤ k ∧ k < w.heap.size) ∧ p.F w := h.all p (List.mem_of_getElem? e)
theorem Hq.box (h : Hq base w0 w L) (i : Nat) {g : Nat} {cs : Array Value} {t : TypeId} (e : L[i]? = some (.box g cs t)) : w.heap[g]? = some (.cells cs t (0, 0)) := (h.get i e).2
theorem Hq.box_ge (h : Hq base w0 w L) (i : Nat) {g : Nat} {cs : Array Value} {t : TypeId} (e : L[i]? = some (.box g cs t)) : base ≤ g := ((h.get i e).1 g rfl).1
theorem Hq.same (h : Hq base w0 w L) (i : Nat) {S : Nat → Prop} {wc : World} (e : L[i]? = some (.set S wc)) : ∀ k, S k → w.heap[k]? = wc.heap[k]? := (h.get i e).2
theorem Hq.set_in (h : Hq base w0 w L) (i : Nat) {S : Nat → Prop} {wc : World} (e : L[i]? = some (.set S wc)) : ∀ k, S k → base ≤ k ∧ k < w.heap.size := (h.get i e).1
theorem off_set : ∀ {L : List Part} {i : Nat} {p p' : Part}, L.Pairwise Part.Off → L[i]? = some p → (∀ q ∈ L, p.Off q → p'.Off q) → (L.set i p').Pairwise Part.Off ∧ (∀ q ∈ L.set i p', q = p' ∨ (q ∈ L ∧ q.Off p))
  | [], _, _, _, _, e, _ => by simp at e
  | q :: L, 0, p, p', h, e, e1 => by
    obtain rfl : q = p := by simpa using e
    have hc := List.pairwise_cons.1 h
    refine ⟨List.pairwise_cons.2 ⟨fun r hr => e1 r (List.mem_cons_of_mem _ hr) (hc.1 r hr), hc.2⟩, fun r hr => ?_⟩
    rcases List.mem_cons.1 hr with rfl | hr
    · exact .inl rfl
    · exact .inr ⟨List.mem_cons_of_mem _ hr, (hc.1 r hr).symm⟩
  | q :: L, i + 1, p, p', h, e, e1 => by
    have hc := List.pairwise_cons.1 h
    have e' : L[i]? = some p := by simpa using e
    have ih := off_set hc.2 e' (fun q hq => e1 q (List.mem_cons_of_mem _ hq))
    refine ⟨List.pairwise_cons.2 ⟨fun r hr => ?_, ih.1⟩, fun r hr => ?_⟩
    · rcases ih.2 r hr with rfl | hr
      · exact (e1 q List.mem_cons_self (hc.1 p (List.mem_of_getElem? e')).symm).symm
      · exact hc.1 r hr.1
    · rcases List.mem_cons.1 hr with rfl | hr
      · exact .inr ⟨List.mem_cons_self, hc.1 p (List.mem_of_getElem? e')⟩
      · rcases ih.2 r hr with h1 | h1
        · exact .inl h1
        · exact .inr ⟨List.mem_cons_of_mem _ h1.1, h1.2⟩
theorem Hq.put (h : Hq base w0 w L) (i : Nat) {p p' : Part} (e : L[i]? = some p) (e1 : ∀ k, p'.has k → (p.has k ∨ w.heap.size ≤ k) ∧ k < w'.heap.size) (hF : p'.F w') (hb : Below base w w') (hk : ∀ k, k < w.heap.size → ¬ p.has k → w'.heap[k]? = w.heap[k]?) : Hq base w0 w' (L.set i p') := by
  have hs := off_set (p' := p') h.dis e (fun q hq ho k h1 h2 => by
    rcases (e1 k h1).1 with h3 | h3
    · exact ho k h3 h2
    · have := ((h.all q hq).1 k h2).2
      omega)
  have hg := h.get i e
  refine ⟨h.bel.trans hb, Nat.le_trans h.ge hb.size, fun q hq => ?_, hs.1⟩
  rcases hs.2 q hq with rfl | ⟨h1, h2⟩
  · refine ⟨fun k h3 => ⟨?_, (e1 k h3).2⟩, hF⟩
    rcases (e1 k h3).1 with h4 | h4
    · exact (hg.1 k h4).1
    · exact Nat.le_trans h.ge h4
  · have ha := h.all q h1
    exact ⟨fun k h3 => ⟨(ha.1 k h3).1, Nat.lt_of_lt_of_le (ha.1 k h3).2 hb.size⟩, ha.2.keep fun k h3 => hk k (ha.1 k h3).2 fun h4 => h2 k h3 h4⟩
theorem Hq.put_box (h : Hq base w0 w L) (i : Nat) {g : Nat} {cs cs' : Array Value} {t : TypeId} (e : L[i]? = some (.box g cs t)) (hF : w'.heap[g]? = some (.cells cs' t (0, 0))) (hb : Below base w w') (hk : ∀ k, k < w.heap.size → k ≠ g → w'.heap[k]? = w.heap[k]?) : Hq base w0 w' (L.set i (.box g cs' t)) :=
  h.put i e (fun k h1 => by
    obtain rfl : k = g := h1
    exact ⟨.inl rfl, blk_lt hF⟩) hF hb hk
theorem Hq.set_box (h : Hq base w0 w L) (i : Nat) {g : Nat} {cs : Array Value} {t : TypeId} (e : L[i]? = some (.box g cs t)) (j : Nat) (v : Value) : Hq base w0 (w.setCell ⟨g, j, none⟩ v) (L.set i (.box g (cs.setIfInBounds j v) t)) :=
  h.put_box i e (blk_set (h.box i e) j v) ((Below.refl base w).setCell (p := ⟨g, j, none⟩) (h.box_ge i e) v) fun k _ h3 => Below.heap_setCell w _ v k h3
theorem Hq.wrote (h : Hq base w0 w L) (i : Nat) {S : Nat → Prop} {wc : World} (e : L[i]? = some (.set S wc)) (hb : Below base w w') (hk : ∀ k, k < w.heap.size → ¬ S k → w'.heap[k]? = w.heap[k]?) : Hq base w0 w' (L.set i (.set (fun k => (S k ∨ w.heap.size ≤ k) ∧ k < w'.heap.size) w')) :=
  h.put i e (p' := .set (fun k => (S k ∨ w.heap.size ≤ k) ∧ k < w'.heap.size) w') (fun k hk => hk) (fun _ _ => rfl) hb hk
theorem Hq.set_cell (h : Hq base w0 w L) (i : Nat) {S : Nat → Prop} {wc : World} (e : L[i]? = some (.set S wc)) {g j : Nat} (hg : S g) (v : Value) : Hq base w0 (w.setCell ⟨g, j, none⟩ v) (L.set i (.set S (w.setCell ⟨g, j, none⟩ v))) :=
  h.put i e (p' := .set S (w.setCell ⟨g, j, none⟩ v)) (fun k hk => ⟨.inl hk, by rw [show (w.setCell ⟨g, j, none⟩ v).heap.size = w.heap.size by simp [World.setCell]]; exact (h.set_in i e k hk).2⟩) (fun _ _ => rfl)
    ((Below.refl base w).setCell (p := ⟨g, j, none⟩) (h.set_in i e g hg).1 v) fun k _ h3 => Below.heap_setCell w _ v k (fun hh => h3 (hh ▸ hg))
theorem Hq.cell (h : Hq base w0 w L) (i : Nat) {S : Nat → Prop} {wc : World} (e : L[i]? = some (.set S wc)) {g j : Nat} {v : Value} (hg : S g) (hc : wc.cell? ⟨g, j, none⟩ = some v) : w.cell? ⟨g, j, none⟩ = some v :=
  (World.cell?_of_block (w := wc) (a := ⟨g, j, none⟩) (h.same i e g hg)).trans hc
theorem Hq.frz (h : Hq base w0 w L) (i : Nat) {S : Nat → Prop} {wc : World} (e : L[i]? = some (.set S wc)) {g j : Nat} (hg : S g) (hc : wc.frozen? ⟨g, j, none⟩ = false) : w.frozen? ⟨g, j, none⟩ = false :=
  (World.frozen?_of_block (w := wc) (a := ⟨g, j, none⟩) (h.same i e g hg)).trans hc
theorem Hq.sel (h : Hq base w0 w L) (is : List Nat) (L' : List Part) (hn : is.Nodup) (e : is.map (fun i => L[i]?) = L'.map some) : Hq base w0 w L' := by
  have key : ∀ (is : List Nat) (L' : List Part), is.Nodup → is.map (fun i => L[i]?) = L'.map some → (∀ p ∈ L', ∃ i ∈ is, L[i]? = some p) ∧ L'.Pairwise Part.Off := by
    intro is
    induction is with
    | nil =>
      intro L' _ e
      cases L' with
      | nil => exact ⟨fun _ h => (by cases h), List.Pairwise.nil⟩
      | cons _ _ => simp at e
    | cons i is ih =>
      intro L' hn e
      cases L' with
      | nil => simp at e
      | cons p L' =>
        simp only [List.map_cons, List.cons.injEq] at e
        have hc := List.nodup_cons.1 hn
        have h1 := ih L' hc.2 e.2
        refine ⟨fun q hq => ?_, List.pairwise_cons.2 ⟨fun q hq => ?_, h1.2⟩⟩
        · rcases List.mem_cons.1 hq with rfl | hq
          · exact ⟨i, List.mem_cons_self, e.1⟩
          · obtain ⟨j, hj, hj2⟩ := h1.1 q hq
            exact ⟨j, List.mem_cons_of_mem _ hj, hj2⟩
        · obtain ⟨j, hj, hj2⟩ := h1.1 q hq
          have hij : i ≠ j := fun e => hc.1 (e ▸ hj)
          obtain ⟨hi1, hi2⟩ := List.getElem?_eq_some_iff.1 e.1
          obtain ⟨hj1, hj3⟩ := List.getElem?_eq_some_iff.1 hj2
          rw [← hi2, ← hj3]
          rcases Nat.lt_or_gt_of_ne hij with hl | hl
          · exact List.pairwise_iff_getElem.1 h.dis i j hi1 hj1 hl
          · exact (List.pairwise_iff_getElem.1 h.dis j i hj1 hi1 hl).symm
  have hk := key is L' hn e
  refine ⟨h.bel, h.ge, fun p hp => ?_, hk.2⟩
  obtain ⟨i, _, hi⟩ := hk.1 p hp
  exact h.get i hi
theorem Hq.set_row (h : Hq base w0 w L) (i : Nat) {g : Nat} {cs : Array Value} {t : TypeId} (e : L[i]? = some (.box g cs t)) (cs' : Array Value) : Hq base w0 (w.setRow g cs') (L.set i (.box g cs' t)) := by
  have hgb := h.box_ge i e
  have far : ∀ k, k ≠ g → (w.setRow g cs').heap[k]? = w.heap[k]? := fun k hk => setRow_other w g k cs' hk
  exact h.put_box i e (setRow_heap w g cs cs' t (0, 0) (h.box i e)) ⟨rfl, rfl, rfl, by rw [setRow_size]; exact Nat.le_refl _, fun k hk => far k (by omega)⟩ fun k _ h3 => far k h3
theorem Hq.start_set {S : Nat → Prop} (w : World) (hb : base ≤ w.heap.size) (hS : ∀ k, S k → base ≤ k ∧ k < w.heap.size) : Hq base w w [.set S w, .set (fun k => ¬ S k ∧ base ≤ k ∧ k < w.heap.size) w] :=
  ⟨Below.refl _ _, hb, fun p hp => (by
    rcases List.mem_cons.1 hp with rfl | hp
    · exact ⟨hS, fun _ _ => rfl⟩
    · rcases List.mem_cons.1 hp with rfl | hp
      · exact ⟨fun k hk => hk.2, fun _ _ => rfl⟩
      · cases hp), List.pairwise_cons.2 ⟨fun q hq => (by
    rcases List.mem_cons.1 hq with rfl | hq
    · exact fun k h1 h2 => h2.1 h1
    · cases hq), List.pairwise_cons.2 ⟨fun _ h => (by cases h), List.Pairwise.nil⟩⟩⟩
theorem Hq.start_box {g : Nat} {cs : Array Value} {t : TypeId} (w : World) (hb : base ≤ g) (hbox : w.heap[g]? = some (.cells cs t (0, 0))) : Hq base w w [.box g cs t, .set (fun k => k ≠ g ∧ base ≤ k ∧ k < w.heap.size) w] :=
  ⟨Below.refl _ _, Nat.le_trans hb (Nat.le_of_lt (blk_lt hbox)), fun p hp => (by
    rcases List.mem_cons.1 hp with rfl | hp
    · exact ⟨fun k hk => by
        obtain rfl : k = g := hk
        exact ⟨hb, blk_lt hbox⟩, hbox⟩
    · rcases List.mem_cons.1 hp with rfl | hp
      · exact ⟨fun k hk => hk.2, fun _ _ => rfl⟩
      · cases hp), List.pairwise_cons.2 ⟨fun q hq => (by
    rcases List.mem_cons.1 hq with rfl | hq
    · exact fun k h1 h2 => h2.1 h1
    · cases hq), List.pairwise_cons.2 ⟨fun _ h => (by cases h), List.Pairwise.nil⟩⟩⟩
theorem Hq.kept {S : Nat → Prop} (h : Hq base w0 w L) (i : Nat) (e : L[i]? = some (.set (fun k => ¬ S k ∧ base ≤ k ∧ k < w0.heap.size) w0)) : ∀ k, k < w0.heap.size → ¬ S k → w.heap[k]? = w0.heap[k]? := fun k h1 h2 => by
  by_cases hb : base ≤ k
  · exact h.same i e k ⟨h2, hb, h1⟩
  · exact h.bel.block k (by omega)
end
section
variable {P : Program} {ops : Array Oper} {Q : Exit → Act → World → Prop} {rest : List Oper} {o : Oper} {a : Act} {base : Nat} {w0 w : World} {L : List Part}
theorem Hq.run_row (h : Hq base w0 w L) (i : Nat) {g : Nat} {cs : Array Value} {t : TypeId} (e : L[i]? = some (.box g cs t)) {ty : TypeId} {x : Operand} (ho : o.op = .load ty x) (hx : a.eval x = .pointer (some ⟨g, 0, none⟩)) {d : TypeDesc}
    (hu : P.underlying ty = some d) (hd : (match d with | .struct _ | .array _ _ => true | _ => false) = true) (hi : (P.info? ty).map (·.size) = some cs.size) : (execOp a.eval o).run P w = .ok (.value (.agg cs)) w := by
  unfold execOp
  simp only [ho, hx, Instr.loadAt, Instr.sureAddr, Sem.run_bind, Sem.run_pure, Result.andThen_ok, run_loadVar_row w g t ty cs (0, 0) d (h.box i e) hu hd hi]
theorem Hq.ld_row (h : Hq base w0 w L) (i : Nat) {g : Nat} {cs : Array Value} {t : TypeId} (e : L[i]? = some (.box g cs t)) (hgd : o.guard = none) {ty : TypeId} {x : Operand} (ho : o.op = .load ty x) (hx : a.eval x = .pointer (some ⟨g, 0, none⟩)) {d : TypeDesc}
    (hu : P.underlying ty = some d) (hd : (match d with | .struct _ | .array _ _ => true | _ => false) = true) (hi : (P.info? ty).map (·.size) = some cs.size) (k : wpList P ops Q rest (a.put o.dst (.agg cs)) w) : wpList P ops Q (o :: rest) a w :=
  Kd.event_run hgd (h.run_row i e ho hx hu hd hi) k
theorem Hq.run_cell (h : Hq base w0 w L) (i : Nat) {g : Nat} {cs : Array Value} {t : TypeId} (e : L[i]? = some (.box g cs t)) (j : Nat) {v : Value} (hv : cs[j]? = some v) {ty : TypeId} {x : Operand} (ho : o.op = .load ty x) (hx : a.eval x = .pointer (some ⟨g, j, none⟩)) {d : TypeDesc}
    (hu : P.underlying ty = some d) (hd : (match d with | .struct _ | .array _ _ => true | _ => false) = false) : (execOp a.eval o).run P w = .ok (.value v) w := by
  unfold execOp
  simp only [ho, hx, Instr.loadAt, Instr.sureAddr, Sem.run_bind, Sem.run_pure, Result.andThen_ok, Hd.run_loadVar_cell (w := w) hu hd ((zq4 (h.box i e) j).trans hv)]
theorem Hq.ld_cell (h : Hq base w0 w L) (i : Nat) {g : Nat} {cs : Array Value} {t : TypeId} (e : L[i]? = some (.box g cs t)) (j : Nat) {v : Value} (hv : cs[j]? = some v) (hgd : o.guard = none) {ty : TypeId} {x : Operand} (ho : o.op = .load ty x) (hx : a.eval x = .pointer (some ⟨g, j, none⟩)) {d : TypeDesc}
    (hu : P.underlying ty = some d) (hd : (match d with | .struct _ | .array _ _ => true | _ => false) = false) (k : wpList P ops Q rest (a.put o.dst v) w) : wpList P ops Q (o :: rest) a w :=
  Kd.event_run hgd (h.run_cell i e j hv ho hx hu hd) k
theorem Hq.bx (h : Hq base w0 w L) (hgd : o.guard = none) (cs : Array Value) (t : TypeId)
    (hrun : (execOp a.eval o).run P w = .ok (.value (.pointer (some ⟨w.heap.size, 0, none⟩))) (w.alloc (.cells cs t (0, 0))))
    (k : ∀ g w1, Az (Hq base w0 w1 (.box g cs t :: L)) → wpList P ops Q rest (a.put o.dst (.pointer (some ⟨g, 0, none⟩))) w1) : wpList P ops Q (o :: rest) a w :=
  Kd.event_run hgd hrun (k _ _ ⟨h.boxed rfl (blk_new w _) (zq2 (Below.refl _ _) _)⟩)
theorem Hq.run_st (h : Hq base w0 w L) (i : Nat) {g : Nat} {cs : Array Value} {t : TypeId} (e : L[i]? = some (.box g cs t)) {ty : TypeId} {x y : Operand} (ho : o.op = .store ty x y) (hx : a.eval x = .pointer (some ⟨g, 0, none⟩)) (cs' : Array Value) (hy : a.eval y = .agg cs')
    (hi : (P.info? ty).map (·.size) = some cs'.size) (hs : cs.size = cs'.size) (h1 : cs'.all (·.oneCell') = true) : (execOp a.eval o).run P w = .ok .skip (w.setRow g cs') := by
  unfold execOp
  simp only [ho, hx, hy, Instr.storeAt, Instr.sureAddr, Sem.run_bind, Sem.run_pure, Result.andThen_ok, run_storeVar_row w g t ty cs cs' (h.box i e) hi hs h1]
theorem Hq.st_row (h : Hq base w0 w L) (i : Nat) {g : Nat} {cs : Array Value} {t : TypeId} (e : L[i]? = some (.box g cs t)) (hgd : o.guard = none) {ty : TypeId} {x y : Operand} (ho : o.op = .store ty x y) (hN : o.dst = none) (hx : a.eval x = .pointer (some ⟨g, 0, none⟩)) (cs' : Array Value) (hy : a.eval y = .agg cs')
    (hi : (P.info? ty).map (·.size) = some cs'.size) (hs : cs.size = cs'.size) (h1 : cs'.all (·.oneCell') = true) (k : ∀ w1, Az (Hq base w0 w1 (L.set i (.box g cs' t))) → wpList P ops Q rest a w1) : wpList P ops Q (o :: rest) a w := by
  refine wpList_plain hgd fun K hK => ?_
  unfold Oper.wp
  rw [h.run_st i e ho hx cs' hy hi hs h1]
  show K (a.put o.dst undef) _
  rw [hN]
  exact hK _ _ (k _ ⟨h.set_row i e cs'⟩)
theorem Hq.st_cell (h : Hq base w0 w L) (i : Nat) {g : Nat} {cs : Array Value} {t : TypeId} (e : L[i]? = some (.box g cs t)) (j : Nat) (v : Value) (hgd : o.guard = none) (hN : o.dst = none) 
    (hrun : (execOp a.eval o).run P w = .ok .skip (w.setCell ⟨g, j, none⟩ v)) (k : ∀ w1, Az (Hq base w0 w1 (L.set i (.box g (cs.setIfInBounds j v) t))) → wpList P ops Q rest a w1) : wpList P ops Q (o :: rest) a w := by
  refine wpList_plain hgd fun K hK => ?_
  unfold Oper.wp
  rw [hrun]
  show K (a.put o.dst undef) _
  rw [hN]
  exact hK _ _ (k _ ⟨h.set_box i e j v⟩)
theorem Hq.conv_sb (h : Hq base w0 w L) (hgd : o.guard = none) {ts tb te : TypeId} {x : Operand} {s : ByteArray} (hts : P.underlying ts = some .string) (htb : P.underlying tb = some (.slice te)) (hte : P.underlying te = some (.int .u8)) (ho : o.op = .convert ts tb x) (hx : a.eval x = .string s)
    (k : ∀ g c w1, Az (Hq base w0 w1 (.set (fun k => k = g) w1 :: L)) → Az (Hd.BytesAt w1 g (bytesOf s)) → wpList P ops Q rest (a.put o.dst (.slice (some ⟨g, 0, none⟩) s.size c)) w1) : wpList P ops Q (o :: rest) a w := by
  refine Kd.event_run hgd (w1 := Lib.bytesWorld w te s) (v := .slice (some ⟨w.heap.size, 0, none⟩) s.size (grownCap w s.size 0 te)) ?_ (k _ _ _ ⟨?_⟩ ⟨Hd.bytesAt_new w te s⟩)
  · unfold execOp
    simp only [ho, hx, Sem.run_bind, Lib.run_convert_string_bytes w ts tb te s hts htb hte, Result.andThen_ok]
    rfl
  · have hsz := Lib.bytesWorld_size w te s
    exact h.more ⟨rfl, rfl, rfl, by omega, fun j hj => Lib.bytesWorld_at_old w te s j hj⟩ (fun k hk => by obtain rfl : k = w.heap.size := hk; exact ⟨Nat.le_refl _, by omega⟩) (fun _ _ => rfl)
end
end Go.Proofs.Ytkgpnloghmbmlaa.Hq
namespace Go.Proofs.Ytkgpnloghmbmlaa.Print
open Go.RowKit Go.Proofs.YtkgpnloghmbmlaaW.PrintWords Go.Proofs.YtkgpnloghmbmlaaW.PrintLast Go.Proofs.YtkgpnloghmbmlaaW.PrintMore
attribute [local go_sem] max2_int min2_int max_two min_two max_three min_three max_four min_four   -- for this text's walks alone
set_option linter.unusedVariables false
set_option linter.unusedSimpArgs false
def errW : Option Int → Value
 | none => .nilIface
 | some c => .iface 0 (.int .i64 c)
theorem errW_none : errW none = .nilIface := rfl
theorem errW_some (c : Int) : errW (some c) = .iface 0 (.int .i64 c) := rfl
theorem info4 : (Try.prog.info? 4).map (fun i => (i.zero, i.size, i.bytes)) = some (some (.bool false), 1, 1) := by kernel_rfl
theorem info5 : (Try.prog.info? 5).map (fun i => (i.zero, i.size, i.bytes)) = some (some (.int .u8 0), 1, 1) := by kernel_rfl
theorem info9 : (Try.prog.info? 9).map (fun i => (i.zero, i.size, i.bytes)) = some (some (.string ⟨#[]⟩), 1, 16) := by kernel_rfl
theorem info54 : (Try.prog.info? 54).map (fun i => (i.zero, i.size, i.bytes)) = some (some (.agg #[(.bool false), (.int .i64 0), (.string ⟨#[]⟩)]), 3, 32) := by kernel_rfl
structure S54 where
 f0 : Bool
 f1 : Int
 f2 : ByteArray
def z54 : S54 := ⟨false, (0 : Int), (⟨#[]⟩ : ByteArray)⟩
def k54 : Kd S54 := Kd.iso (Kd.pair Kd.bool (Kd.pair (Kd.int .i64) Kd.string)) (fun x : S54 => (x.f0, x.f1, x.f2))
theorem k54_open {w : World} {x : S54} {cs : List Value} (h : k54.K w x cs) : cs = [.bool x.f0, .int .i64 x.f1, .string x.f2] := by
 obtain ⟨_, _, rfl, rfl, ⟨_, _, rfl, rfl, rfl⟩⟩ := h
 exact rfl
theorem k54_mkM (w : World) (base : Nat) (ok : Nat → Prop) (x : S54)  : k54.M w base ok x [.bool x.f0, .int .i64 x.f1, .string x.f2] := ⟨[.bool x.f0], [.int .i64 x.f1, .string x.f2], rfl, rfl, ⟨[.int .i64 x.f1], [.string x.f2], rfl, rfl, rfl⟩⟩
def rd_T54 (xs : List S54) (i : Int) : S54 := xs.getD i.toNat z54
theorem at_T54 {w : World} {A : Option Addr} {n : Nat} {xs : List S54} (h : Kd.C k54 w A n xs) (i : Int) (h0 : 0 ≤ i) (h1 : i < n) : ∃ ad , A = some ad ∧ w.cell? (ad.add (i.toNat * 3)) = some (.bool (rd_T54 xs i).f0) ∧ w.cell? ⟨(ad.add (i.toNat * 3)).block, (ad.add (i.toNat * 3)).off + 1, none⟩ = some (.int .i64 (rd_T54 xs i).f1) ∧ w.cell? ⟨(ad.add (i.toNat * 3)).block, (ad.add (i.toNat * 3)).off + 2, none⟩ = some (.string (rd_T54 xs i).f2) := by
 obtain ⟨ad, c, e, _, hK, hc0⟩ := Kd.C_get h z54 i h0 h1
 have hc : ∀ j u, c[j]? = some u → w.cell? (ad.add (i.toNat * 3 + j)) = some u := hc0
 obtain rfl := k54_open hK
 exact ⟨ad, e, hc 0 _ rfl, by rw [← add_field _ _ 1 (by omega)]; exact hc 1 _ rfl, by rw [← add_field _ _ 2 (by omega)]; exact hc 2 _ rfl⟩
structure S28 where
 f0 : Int
 f1 : (List ByteArray)
 f2 : (List ByteArray)
 f3 : (List Bool)
 f4 : (List S54)
structure S65 where
 f0 : Bool
 f1 : Int
 f2 : ByteArray
def k65 : Kd S65 := Kd.iso (Kd.pair Kd.bool (Kd.pair (Kd.int .i64) Kd.string)) (fun x : S65 => (x.f0, x.f1, x.f2))
structure S39 where
 f0 : Int
 f1 : (List ByteArray)
 f2 : (List ByteArray)
 f3 : (List Bool)
 f4 : (List S65)
end Go.Proofs.Ytkgpnloghmbmlaa.Print
namespace Go.Proofs.Ytkgpnloghmbmlaa.Pure
open Go.RowKit Go.Proofs.YtkgpnloghmbmlaaW.PrintWords
theorem Ev.pos {α : Type} {c : Prop} [Decidable c] {f g : Nat → Option α} {r : α} (h : c) (k : Ev f r) : Ev (fun n => if c then f n else g n) r := by
  obtain ⟨K, k⟩ := k
  exact ⟨K, fun n hn => by simp only [if_pos h]; exact k n hn⟩
theorem Ev.neg {α : Type} {c : Prop} [Decidable c] {f g : Nat → Option α} {r : α} (h : ¬ c) (k : Ev g r) : Ev (fun n => if c then f n else g n) r := by
  obtain ⟨K, k⟩ := k
  exact ⟨K, fun n hn => by simp only [if_neg h]; exact k n hn⟩
theorem Ev.take {α β : Type} {g : Option α} {f : Nat → α → Option β} {a : α} {r : β} (h : g = some a) (k : Ev (fun n => f n a) r) : Ev (fun n => g.bind (f n)) r := by
  subst h
  exact k
theorem Ev.same {α : Type} {g : Option α} {r : α} (h : g = some r) : Ev (fun _ => g) r := ⟨0, fun _ _ => h⟩
theorem Ev.ret {α : Type} {a r : α} (h : a = r) : Ev (fun _ => some a) r := ⟨0, fun _ _ => by rw [h]⟩
theorem wrap_ok {x : Int} (h : -9223372036854775808 ≤ x ∧ x ≤ 9223372036854775807) : wrap64 x = x := by
  unfold wrap64
  omega
theorem bits_xor_nat (k : IntKind) (j : Nat) (hj : j ≤ k.bits) (hk : ∀ n : Int, 0 ≤ n → n < 2 ^ j → k.wrap n = n) (a b : Nat) (ha : a < 2 ^ j) (hb : b < 2 ^ j) :
    Go.bits .xor k a b = ((a ^^^ b : Nat) : Int) := by
  have hp : 2 ^ j ≤ 2 ^ k.bits := Nat.pow_le_pow_right (by decide) hj
  have ha' : a % 2 ^ k.bits = a := Nat.mod_eq_of_lt (Nat.lt_of_lt_of_le ha hp)
  have hb' : b % 2 ^ k.bits = b := Nat.mod_eq_of_lt (Nat.lt_of_lt_of_le hb hp)
  simp only [Go.bits, BitVec.ofInt_natCast, BitVec.toNat_xor, BitVec.toNat_ofNat, ha', hb']
  exact hk _ (Int.natCast_nonneg _) (by exact_mod_cast (Nat.xor_lt_two_pow ha hb))
theorem xor64_bd (x y : Int) (hx : 0 ≤ x ∧ x < 4611686018427387904) (hy : 0 ≤ y ∧ y < 4611686018427387904) : 0 ≤ Go.bits .xor .i64 x y ∧ Go.bits .xor .i64 x y < 4611686018427387904 := by
  obtain ⟨a, rfl⟩ := Int.eq_ofNat_of_zero_le hx.1
  obtain ⟨b, rfl⟩ := Int.eq_ofNat_of_zero_le hy.1
  rw [bits_xor_nat .i64 62 (by decide) (fun n h0 h1 => by rw [IntKind.wrap_i64]; omega) a b (by omega) (by omega)]
  have := Nat.xor_lt_two_pow (x := a) (y := b) (n := 62) (by omega) (by omega)
  omega
theorem size_extract (s : ByteArray) (a b : Nat) (hb : b ≤ s.size) : (s.extract a b).size = b - a := by
  simp [ByteArray.size_extract]
  omega
theorem rd_bd (l : List Int) (h : ∀ x ∈ l, 0 ≤ x ∧ x < 256) (i : Int) : 0 ≤ rd l i ∧ rd l i < 256 := by
  unfold rd
  simp only [List.getD]
  cases e : l[i.toNat]? with
  | none => simp
  | some x => exact h x (List.mem_of_getElem? e)
theorem wf_u8 {l : List Int} (h : ∀ x ∈ l, (Lit.int .u8 x).wf = true) : ∀ x ∈ l, 0 ≤ x ∧ x < 256 := by
  intro x hx
  have := h x hx
  have e1 : IntKind.u8.min = 0 := by decide
  have e2 : IntKind.u8.max = 255 := by decide
  simp [Lit.wf, e1, e2] at this
  omega
end Go.Proofs.Ytkgpnloghmbmlaa.Pure
namespace Go.Proofs.Ytkgpnloghmbmlaa.Take
open Go.RowKit Go.Proofs.YtkgpnloghmbmlaaW.PrintWords
structure Opens {α : Type} (P : Program) (t : TypeId) (d : Kd α) (Wf : α → Prop) : Prop where
  sz : P.cellsOf t = d.sz
  opens : ∀ (H : Type) (enc : TypeId × Value → H) (w : World) (base : Nat) (spare : Nat → Bool) (held : Bool) (fuel : Nat) (cs : List Value) (x : DataW H × List MemPlace), DataW.trod enc P w base spare held fuel t cs = some x → ∃ y : α, d.K w y cs ∧ Wf y
theorem list_of {α : Type} {p : Nat → α → Prop} (n : Nat) (h : ∀ i, i < n → ∃ y, p i y) : ∃ l : List α, l.length = n ∧ ∀ i y, l[i]? = some y → p i y := by
  induction n with
  | zero => exact ⟨[], rfl, fun i y hy => by simp at hy⟩
  | succ n ih =>
    obtain ⟨l, hl, hp⟩ := ih (fun i hi => h i (by omega))
    obtain ⟨z, hz⟩ := h n (by omega)
    refine ⟨l ++ [z], by simp [hl], fun i y hy => ?_⟩
    by_cases hi : i < l.length
    · rw [List.getElem?_append_left hi] at hy
      exact hp i y hy
    · have hin : i = n := by
        have h1 := (List.getElem?_eq_some_iff.1 hy).1
        simp at h1
        omega
      subst hin
      rw [List.getElem?_append_right (by omega)] at hy
      have : z = y := by simpa [hl] using hy
      rw [← this]
      exact hz
theorem addr_add (a : Addr) (i j : Nat) : (a.add i).add j = a.add (i + j) := by
  unfold Addr.add
  by_cases hi : i = 0 <;> by_cases hj : j = 0 <;> simp [hi, hj, Nat.add_assoc]
section
variable {P : Program} {t e : TypeId}
theorem Opens.int {k : IntKind} (ht : P.underlying t = some (.int k)) (hs : P.cellsOf t = 1) : Opens P t (Kd.int k) (fun x => (Lit.int k x).wf = true) := ⟨hs, by
  intro H enc w base spare held fuel cs x h
  obtain ⟨n, rfl, _, hw⟩ := DataW.trod_int ht h
  exact ⟨n, rfl, hw⟩⟩
theorem Opens.bool (ht : P.underlying t = some .bool) (hs : P.cellsOf t = 1) : Opens P t Kd.bool (fun _ => True) := ⟨hs, by
  intro H enc w base spare held fuel cs x h
  obtain ⟨b, rfl, _⟩ := DataW.trod_bool ht h
  exact ⟨b, rfl, trivial⟩⟩
theorem Opens.string (ht : P.underlying t = some .string) (hs : P.cellsOf t = 1) : Opens P t Kd.string (fun s => s.size ≤ maxLen) := ⟨hs, by
  intro H enc w base spare held fuel cs x h
  obtain ⟨s, rfl, _, hw⟩ := DataW.trod_string ht h
  exact ⟨s, rfl, hw⟩⟩
theorem Opens.slice {α : Type} {d : Kd α} {Wf : α → Prop} (ht : P.underlying t = some (.slice e)) (hs : P.cellsOf t = 1) (he : Opens P e d Wf) :
    Opens P t (Kd.slice e d) (fun l => l.length ≤ maxLen ∧ ∀ x ∈ l, Wf x) := ⟨hs, by
  intro H enc w base spare held fuel cs x h
  rcases DataW.trod_slice ht h with ⟨rfl, _⟩ | ⟨a, len, cap, elems, rest, n, _, rfl, _, _, hl, hm, hlen, hel, _⟩
  · exact ⟨[], ⟨none, 0, rfl, Nat.le_refl _, Kd.C_nil d w⟩, Nat.zero_le _, fun x hx => by simp at hx⟩
  · obtain ⟨l, hll, hp⟩ := list_of (p := fun i y => Wf y ∧ ∃ c, c.length = d.sz ∧ d.K w y c ∧ ∀ j u, c[j]? = some u → w.cell? (a.add (i * d.sz + j)) = some u) len (fun i hi => by
      have h1 := hel i hi
      rw [List.getElem?_eq_getElem (by omega)] at h1
      obtain ⟨cs', h2, h3⟩ := Option.bind_eq_some_iff.1 h1
      obtain ⟨_, h4, h5⟩ := World.cells?_some h2
      obtain ⟨y, hy, hw⟩ := he.opens H enc w base spare held n cs' _ h3
      refine ⟨y, hw, cs', h4.trans he.sz, hy, fun j u hu => ?_⟩
      have hj : j < P.cellsOf e := by
        have := (List.getElem?_eq_some_iff.1 hu).1
        omega
      have h6 := h5 j hj
      rw [addr_add, he.sz] at h6
      rw [h6, hu])
    refine ⟨l, ⟨some a, cap, by rw [hll], by omega, ?_⟩, by omega, fun x hx => ?_⟩
    · refine ⟨rfl, by have : maxLen = 9223372036854775807 := by decide
                      omega, fun _ => ⟨a, rfl, fun j p hj => (hp j p hj).2⟩⟩
    · obtain ⟨i, hi⟩ := List.getElem?_of_mem hx
      exact (hp i x hi).1⟩
structure Tail {α : Type} (P : Program) (fs : Array Field) (i o : Nat) (d : Kd α) (Wf : α → Prop) : Prop where
  opens : ∀ (H : Type) (enc : TypeId × Value → H) (w : World) (base : Nat) (spare : Nat → Bool) (held : Bool) (n : Nat) (cs : List Value) (xs : List (DataW H × List MemPlace)), xs.length = fs.size → cs.length = o + d.sz →
    (∀ (j : Nat) (f : Field), fs[j]? = some f → DataW.trod enc P w base spare held n f.type ((cs.drop f.offset).take (P.cellsOf f.type)) = xs[j]?) → ∃ y : α, d.K w y (cs.drop o) ∧ Wf y
theorem Tail.cons {α β : Type} {fs : Array Field} {i o : Nat} {d : Kd α} {d' : Kd β} {Wf : α → Prop} {Wf' : β → Prop} (f : Field) (hf : fs[i]? = some f) (ho : f.offset = o) (h : Opens P f.type d Wf) (k : Tail P fs (i + 1) (o + d.sz) d' Wf') :
    Tail P fs i o (Kd.pair d d') (fun p => Wf p.1 ∧ Wf' p.2) := ⟨by
  intro H enc w base spare held n cs xs hx hl he
  have h1 := he i f hf
  have hi : i < xs.length := by
    have := (Array.getElem?_eq_some_iff.1 hf).1
    omega
  rw [ho, h.sz, List.getElem?_eq_getElem hi] at h1
  obtain ⟨y, hy, hw⟩ := h.opens H enc w base spare held n _ _ h1
  have hl' : cs.length = o + (d.sz + d'.sz) := hl
  obtain ⟨z, hz, hw'⟩ := k.opens H enc w base spare held n cs xs hx (by omega) he
  exact ⟨(y, z), ⟨_, _, by rw [← List.drop_drop]; exact (List.take_append_drop d.sz (cs.drop o)).symm, hy, hz⟩, hw, hw'⟩⟩
theorem Opens.struct {α : Type} {d : Kd α} {Wf : α → Prop} {fs : Array Field} (ht : P.underlying t = some (.struct fs)) (hs : P.cellsOf t = d.sz) (k : Tail P fs 0 0 d Wf) : Opens P t d Wf := ⟨hs, by
  intro H enc w base spare held fuel cs x h
  obtain ⟨xs, n, _, _, hl, hx, he⟩ := DataW.trod_struct ht h
  obtain ⟨y, hy, hw⟩ := k.opens H enc w base spare held n cs xs hx (by omega) he
  exact ⟨y, by simpa using hy, hw⟩⟩
theorem Opens.iso {α β : Type} {d : Kd α} {Wf : α → Prop} (f : β → α) (mk : α → β) (hf : ∀ a, f (mk a) = a) (h : Opens P t d Wf) : Opens P t (Kd.iso d f) (fun y => Wf (f y)) := ⟨h.sz, by
  intro H enc w base spare held fuel cs x hx
  obtain ⟨y, hy, hw⟩ := h.opens H enc w base spare held fuel cs x hx
  exact ⟨mk y, by show d.K w (f (mk y)) cs; rw [hf]; exact hy, by rw [hf]; exact hw⟩⟩
theorem Opens.arg {α : Type} {d : Kd α} {Wf : List α → Prop} {H : Type} {enc : TypeId × Value → H} {w : World} {base : Nat} {spare : Nat → Bool} {held : Bool} {v : Value} {x : DataW H} {p : List MemPlace} (h : Opens P t (Kd.slice e d) Wf)
    (hv : v.cells.toList = [v]) (ht : DataW.Trod enc P w base spare held t v x p) : ∃ (A : Option Addr) (c : Nat) (l : List α), v = .slice A l.length c ∧ d.C w A l.length l ∧ l.length ≤ c ∧ Wf l := by
  obtain ⟨fuel, hf⟩ := ht
  rw [hv] at hf
  obtain ⟨l, ⟨A, c, hc, hl, hC⟩, hw⟩ := h.opens H enc w base spare held fuel _ _ hf
  exact ⟨A, c, l, by simpa using hc, hC, hl, hw⟩
end
end Go.Proofs.Ytkgpnloghmbmlaa.Take
namespace Go.Proofs.Ytkgpnloghmbmlaa.Take
open Go.RowKit Go.Proofs.Ytkgpnloghmbmlaa.Print Go.Proofs.YtkgpnloghmbmlaaW.PrintWords
def W3 (x : Int) : Prop := (Lit.int .i64 x).wf = true
theorem o3 : Opens Try.prog 3 (Kd.int .i64) W3 := Opens.int (by kernel_rfl) (by kernel_rfl)
def W4 (_ : Bool) : Prop := True
theorem o4 : Opens Try.prog 4 Kd.bool W4 := Opens.bool (by kernel_rfl) (by kernel_rfl)
def W5 (x : Int) : Prop := (Lit.int .u8 x).wf = true
theorem o5 : Opens Try.prog 5 (Kd.int .u8) W5 := Opens.int (by kernel_rfl) (by kernel_rfl)
def W22 (x : (List Int)) : Prop := x.length ≤ maxLen ∧ ∀ y ∈ x, W5 y
theorem o22 : Opens Try.prog 22 (Kd.slice 5 (Kd.int .u8)) W22 := Opens.slice Try.underlying22 (by kernel_rfl) o5
end Go.Proofs.Ytkgpnloghmbmlaa.Take
namespace Go.Proofs.Ytkgpnloghmbmlaa.Print
open Go.RowKit Go.Proofs.YtkgpnloghmbmlaaW.PrintWords Go.Proofs.YtkgpnloghmbmlaaW.PrintLast Go.Proofs.YtkgpnloghmbmlaaW.PrintMore
attribute [local go_sem] max2_int min2_int max_two min_two max_three min_three max_four min_four   -- for this text's walks alone
set_option linter.unusedVariables false
set_option linter.unusedSimpArgs false
end Go.Proofs.Ytkgpnloghmbmlaa.Print
namespace Go.Proofs.Ytkgpnloghmbmlaa.Print
open Go.RowKit Go.Proofs.YtkgpnloghmbmlaaW.PrintWords Go.Proofs.YtkgpnloghmbmlaaW.PrintLast Go.Proofs.YtkgpnloghmbmlaaW.PrintMore
attribute [local go_sem] max2_int min2_int max_two min_two max_three min_three max_four min_four   -- for this text's walks alone
set_option linter.unusedVariables false
set_option linter.unusedSimpArgs false
end Go.Proofs.Ytkgpnloghmbmlaa.Print
namespace Go.Proofs.Ytkgpnloghmbmlaa.Print
open Go.RowKit Go.Proofs.YtkgpnloghmbmlaaW.PrintWords Go.Proofs.YtkgpnloghmbmlaaW.PrintLast Go.Proofs.YtkgpnloghmbmlaaW.PrintMore
attribute [local go_sem] max2_int min2_int max_two min_two max_three min_three max_four min_four   -- for this text's walks alone
set_option linter.unusedVariables false
set_option linter.unusedSimpArgs false
end Go.Proofs.Ytkgpnloghmbmlaa.Print
namespace Go.Proofs.Ytkgpnloghmbmlaa.Print
open Go.RowKit Go.Proofs.YtkgpnloghmbmlaaW.PrintWords Go.Proofs.YtkgpnloghmbmlaaW.PrintLast Go.Proofs.YtkgpnloghmbmlaaW.PrintMore
attribute [local go_sem] max2_int min2_int max_two min_two max_three min_three max_four min_four   -- for this text's walks alone
set_option linter.unusedVariables false
set_option linter.unusedSimpArgs false
end Go.Proofs.Ytkgpnloghmbmlaa.Print
namespace Go.Proofs.Ytkgpnloghmbmlaa.Print
open Go.RowKit Go.Proofs.YtkgpnloghmbmlaaW.PrintWords Go.Proofs.YtkgpnloghmbmlaaW.PrintLast Go.Proofs.YtkgpnloghmbmlaaW.PrintMore
attribute [local go_sem] max2_int min2_int max_two min_two max_three min_three max_four min_four   -- for this text's walks alone
set_option linter.unusedVariables false
set_option linter.unusedSimpArgs false
end Go.Proofs.Ytkgpnloghmbmlaa.Print
namespace Go.Proofs.Ytkgpnloghmbmlaa.Print
open Go.RowKit Go.Proofs.YtkgpnloghmbmlaaW.PrintWords Go.Proofs.YtkgpnloghmbmlaaW.PrintLast Go.Proofs.YtkgpnloghmbmlaaW.PrintMore
attribute [local go_sem] max2_int min2_int max_two min_two max_three min_three max_four min_four   -- for this text's walks alone
set_option linter.unusedVariables false
set_option linter.unusedSimpArgs false
end Go.Proofs.Ytkgpnloghmbmlaa.Print
namespace Go.Proofs.Ytkgpnloghmbmlaa.Print
open Go.RowKit Go.Proofs.YtkgpnloghmbmlaaW.PrintWords Go.Proofs.YtkgpnloghmbmlaaW.PrintLast Go.Proofs.YtkgpnloghmbmlaaW.PrintMore
attribute [local go_sem] max2_int min2_int max_two min_two max_three min_three max_four min_four   -- for this text's walks alone
set_option linter.unusedVariables false
set_option linter.unusedSimpArgs false
def impl_isColumn.f (a0 : ByteArray) : Option (Bool) := some ((a0.size : Int) == 3)
set_option maxHeartbeats 8000000 in
set_option maxRecDepth 100000 in
theorem impl_isColumn.calls (a0 : ByteArray) (r : Bool) (w : World) (h : impl_isColumn.f a0 = some r) :
  Calls Try.prog 94 #[.string a0] w fun e w' => e = .returned (.bool r) ∧ Drawn0 w w' := by
 have H : (some ((a0.size : Int) == 3)) = some r := h
 clear h
 obtain rfl := Option.some.inj H
 go_enter Try.func94, Try.ntmps94
 go_wp2
 go_ret
 exact ⟨by first | rfl | (simp; done) | (simp [*]; done), by repeat (first | exact Drawn0.refl _ | apply Drawn0.step)⟩
end Go.Proofs.Ytkgpnloghmbmlaa.Print
namespace Go.Proofs.Ytkgpnloghmbmlaa.Pure
open Go.RowKit Go.Proofs.Ytkgpnloghmbmlaa.Print Go.Proofs.YtkgpnloghmbmlaaW.PrintWords
theorem Ev.next {α : Type} {g : Nat → Option α} {r : α} (k : Ev (fun n => g (n + 1)) r) : Ev g r := Ev.step (fun _ => rfl) k
theorem rdOf_n {α : Type} (z : α) (l : List α) (i : Nat) : rdOf z l (i : Int) = l.getD i z := by simp [rdOf]
theorem getD_mem {α : Type} {z : α} {l : List α} {i : Nat} (h : i < l.length) : l.getD i z ∈ l := List.mem_of_getElem? (by simp [List.getD, h] : l[i]? = some (l.getD i z))
structure Fits (l1 l2 : List ByteArray) (l3 : List Bool) (n4 : Nat) : Prop where
  h1 : l1.length ≤ 1048576
  h2 : l2.length ≤ 1048576
  h3 : l3.length ≤ 1048576
  h4 : n4 ≤ 1048576
end Go.Proofs.Ytkgpnloghmbmlaa.Pure
namespace Go.Proofs.Ytkgpnloghmbmlaa.Print
open Go.RowKit Go.Proofs.YtkgpnloghmbmlaaW.PrintWords Go.Proofs.YtkgpnloghmbmlaaW.PrintLast Go.Proofs.YtkgpnloghmbmlaaW.PrintMore
attribute [local go_sem] max2_int min2_int max_two min_two max_three min_three max_four min_four   -- for this text's walks alone
set_option linter.unusedVariables false
set_option linter.unusedSimpArgs false
end Go.Proofs.Ytkgpnloghmbmlaa.Print
namespace Go.Proofs.Ytkgpnloghmbmlaa.Print
open Go.RowKit Go.Proofs.YtkgpnloghmbmlaaW.PrintWords Go.Proofs.YtkgpnloghmbmlaaW.PrintLast Go.Proofs.YtkgpnloghmbmlaaW.PrintMore
attribute [local go_sem] max2_int min2_int max_two min_two max_three min_three max_four min_four   -- for this text's walks alone
set_option linter.unusedVariables false
set_option linter.unusedSimpArgs false
end Go.Proofs.Ytkgpnloghmbmlaa.Print
namespace Go.Proofs.Ytkgpnloghmbmlaa.Print
open Go.RowKit Go.Proofs.YtkgpnloghmbmlaaW.PrintWords Go.Proofs.YtkgpnloghmbmlaaW.PrintLast Go.Proofs.YtkgpnloghmbmlaaW.PrintMore
attribute [local go_sem] max2_int min2_int max_two min_two max_three min_three max_four min_four   -- for this text's walks alone
set_option linter.unusedVariables false
set_option linter.unusedSimpArgs false
end Go.Proofs.Ytkgpnloghmbmlaa.Print
namespace Go.Proofs.Ytkgpnloghmbmlaa.Print
open Go.RowKit Go.Proofs.YtkgpnloghmbmlaaW.PrintWords Go.Proofs.YtkgpnloghmbmlaaW.PrintLast Go.Proofs.YtkgpnloghmbmlaaW.PrintMore
attribute [local go_sem] max2_int min2_int max_two min_two max_three min_three max_four min_four   -- for this text's walks alone
set_option linter.unusedVariables false
set_option linter.unusedSimpArgs false
def spec_l6In.f (a0 : Int) (a1 : Int) (a2 : Int) : Option (Bool) := if a0 ≥ a1 then (some (decide (a0 ≤ a2))) else (some false)
set_option maxHeartbeats 8000000 in
set_option maxRecDepth 100000 in
theorem spec_l6In.calls (a0 : Int) (a1 : Int) (a2 : Int) (r : Bool) (w : World) (h : spec_l6In.f a0 a1 a2 = some r) :
  Calls Try.prog 51 #[.int .i64 a0, .int .i64 a1, .int .i64 a2] w fun e w' => e = .returned (.bool r) ∧ Drawn0 w w' := by
 have H : (if a0 ≥ a1 then (some (decide (a0 ≤ a2))) else (some false)) = some r := h
 clear h
 by_cases c4 : a0 ≥ a1
 ·rw [if_pos c4] at H
  have c4b0 : decide (a1 ≤ a0) = true := decide_eq_true c4
  clear c4
  obtain rfl := Option.some.inj H
  go_enter Try.func51, Try.ntmps51
  go_wp2
  go_ret
  exact ⟨by first | rfl | (simp; done) | (simp [*]; done), by repeat (first | exact Drawn0.refl _ | apply Drawn0.step)⟩
 ·rw [if_neg c4] at H
  have c4b0 : decide (a1 ≤ a0) = false := decide_eq_false c4
  clear c4
  obtain rfl := Option.some.inj H
  go_enter Try.func51, Try.ntmps51
  go_wp2
  go_ret
  exact ⟨by first | rfl | (simp; done) | (simp [*]; done), by repeat (first | exact Drawn0.refl _ | apply Drawn0.step)⟩
def spec_l3Put.f (a0_0 : Bool) (a0_1 : Int) (a0_2 : ByteArray) : Option (Bool) := if a0_0 = true then ((spec_l6In.f a0_1 0 1).bind fun t126 => (if t126 = true then (some (decide ((a0_2.size : Int) ≤ 700))) else (some false))) else ((spec_l6In.f a0_1 0 11).bind fun t127 => (if t127 = true then (some ((a0_2.size : Int) == 3)) else (some false)))
set_option maxHeartbeats 8000000 in
set_option maxRecDepth 100000 in
theorem spec_l3Put.calls (a0_0 : Bool) (a0_1 : Int) (a0_2 : ByteArray) (r : Bool) (w : World) (h : spec_l3Put.f a0_0 a0_1 a0_2 = some r) :
  Calls Try.prog 66 #[.agg #[.bool a0_0, .int .i64 a0_1, .string a0_2]] w fun e w' => e = .returned (.bool r) ∧ Below w.heap.size w w' := by
 have hu54 := Try.underlying54
 have HB := Az.mk (Below.refl w.heap.size w)
 have H : (if a0_0 = true then ((spec_l6In.f a0_1 0 1).bind fun t126 => (if t126 = true then (some (decide ((a0_2.size : Int) ≤ 700))) else (some false))) else ((spec_l6In.f a0_1 0 11).bind fun t127 => (if t127 = true then (some ((a0_2.size : Int) == 3)) else (some false)))) = some r := h
 clear h
 by_cases c2 : a0_0 = true
 ·subst c2
  have H1 : ((spec_l6In.f a0_1 0 1).bind fun t126 => (if t126 = true then (some (decide ((a0_2.size : Int) ≤ 700))) else (some false))) = some r := by rw [if_pos rfl] at H; exact H
  clear H
  have H := H1
  clear H1
  replace H := Option.bind_eq_some_iff.mp H
  obtain ⟨t126, A30, H⟩ := H
  replace H : (if t126 = true then (some (decide ((a0_2.size : Int) ≤ 700))) else (some false)) = some r := H
  have A3 := Az.mk A30
  clear A30
  by_cases c4 : t126 = true
  ·subst c4
   have H1 : (some (decide ((a0_2.size : Int) ≤ 700))) = some r := by rw [if_pos rfl] at H; exact H
   clear H
   have H := H1
   clear H1
   obtain rfl := Option.some.inj H
   go_enter Try.func66, Try.ntmps66
   go_wp2_with (first | ((with_reducible refine zqg (N := 1) rfl ?_); (try (refine gate_guard (by rfl) ?_; dsimp only)); refine zqb ?hg (N := 1) ?hd (cs := #[.bool true, .int .i64 a0_1, .string a0_2]) (t := 54) ?hr ?_; (case hd => rfl); (case hg => rfl); (case hr => first | (go_simp; done) | (go_simp; rfl)); intro gb125 hg w5 hbox hb; have n0_ := Az.mk (below_step (by repeat (first | (with_reducible first | exact HB.out | apply zq2 | apply zq1 | apply zqd) | exact HB.out)) hb); have n1_ := Az.mk (hbox); have n2_ := Az.mk ((by rw [hg]; exact (below_size (by repeat (first | (with_reducible first | exact HB.out | apply zq2 | apply zq1 | apply zqd) | exact HB.out))) : w.heap.size ≤ gb125)); have n3_ := Az.mk ((by rw [hg]; exact (below_size (by repeat (first | (with_reducible first | exact HB.out | apply zq2 | apply zq1 | apply zqd) | exact HB.out))) : w.heap.size ≤ gb125)); clear HB; have HB := n0_; have BK125 := n1_; have GW125 := n2_; have GE125 := n3_; clear n0_ n1_ n2_ n3_; clear hb hbox hg; have hcz6_0 : w5.cell? ⟨gb125, 0, none⟩ = some (.bool true) := (zq4 BK125.out 0).trans rfl; have hcz6_1 : w5.cell? ⟨gb125, 1, none⟩ = some (.int .i64 a0_1) := (zq4 BK125.out 1).trans rfl; have hcz6_2 : w5.cell? ⟨gb125, 2, none⟩ = some (.string a0_2) := (zq4 BK125.out 2).trans rfl; have hfz6_0 := zq5 BK125.out 0; have hfz6_1 := zq5 BK125.out 1; have hfz6_2 := zq5 BK125.out 2) | ((with_reducible refine gate_callee (f := 51) rfl ?_); refine zq9 (some 7) rfl rfl Try.func51 (by kernel_rfl) rfl #[.int .i64 a0_1, .int .i64 0, .int .i64 1] rfl (by (try simp only [List.map_toArray, List.map_cons, List.map_nil]); first | done | rfl | (simp only [List.length_drop, List.length_take]; rfl)) ?_; (with_reducible refine (spec_l6In.calls a0_1 0 1 true _ A3.out).mono ?_); rintro e w' ⟨rfl, ⟨nd, rfl⟩⟩; refine ⟨_, rfl, ?_⟩))
   go_ret
   exact ⟨by first | rfl | (simp [errW_none, errW_some] <;> rfl) | (simp [*, errW_none, errW_some] <;> rfl), by repeat (first | (with_reducible first | exact HB.out | apply zq2 | apply zq1 | apply zqd | refine zq3 ?_ GE125.out) | exact HB.out)⟩
  ·replace c4 := Bool.eq_false_iff.mpr c4
   subst c4
   have H1 : (some false) = some r := by rw [if_neg (show ¬ (false = true) by decide)] at H; exact H
   clear H
   have H := H1
   clear H1
   obtain rfl := Option.some.inj H
   go_enter Try.func66, Try.ntmps66
   go_wp2_with (first | ((with_reducible refine zqg (N := 1) rfl ?_); (try (refine gate_guard (by rfl) ?_; dsimp only)); refine zqb ?hg (N := 1) ?hd (cs := #[.bool true, .int .i64 a0_1, .string a0_2]) (t := 54) ?hr ?_; (case hd => rfl); (case hg => rfl); (case hr => first | (go_simp; done) | (go_simp; rfl)); intro gb125 hg w7 hbox hb; have n0_ := Az.mk (below_step (by repeat (first | (with_reducible first | exact HB.out | apply zq2 | apply zq1 | apply zqd) | exact HB.out)) hb); have n1_ := Az.mk (hbox); have n2_ := Az.mk ((by rw [hg]; exact (below_size (by repeat (first | (with_reducible first | exact HB.out | apply zq2 | apply zq1 | apply zqd) | exact HB.out))) : w.heap.size ≤ gb125)); have n3_ := Az.mk ((by rw [hg]; exact (below_size (by repeat (first | (with_reducible first | exact HB.out | apply zq2 | apply zq1 | apply zqd) | exact HB.out))) : w.heap.size ≤ gb125)); clear HB; have HB := n0_; have BK125 := n1_; have GW125 := n2_; have GE125 := n3_; clear n0_ n1_ n2_ n3_; clear hb hbox hg; have hcz8_0 : w7.cell? ⟨gb125, 0, none⟩ = some (.bool true) := (zq4 BK125.out 0).trans rfl; have hcz8_1 : w7.cell? ⟨gb125, 1, none⟩ = some (.int .i64 a0_1) := (zq4 BK125.out 1).trans rfl; have hcz8_2 : w7.cell? ⟨gb125, 2, none⟩ = some (.string a0_2) := (zq4 BK125.out 2).trans rfl; have hfz8_0 := zq5 BK125.out 0; have hfz8_1 := zq5 BK125.out 1; have hfz8_2 := zq5 BK125.out 2) | ((with_reducible refine gate_callee (f := 51) rfl ?_); refine zq9 (some 7) rfl rfl Try.func51 (by kernel_rfl) rfl #[.int .i64 a0_1, .int .i64 0, .int .i64 1] rfl (by (try simp only [List.map_toArray, List.map_cons, List.map_nil]); first | done | rfl | (simp only [List.length_drop, List.length_take]; rfl)) ?_; (with_reducible refine (spec_l6In.calls a0_1 0 1 false _ A3.out).mono ?_); rintro e w' ⟨rfl, ⟨nd, rfl⟩⟩; refine ⟨_, rfl, ?_⟩))
   go_ret
   exact ⟨by first | rfl | (simp [errW_none, errW_some] <;> rfl) | (simp [*, errW_none, errW_some] <;> rfl), by repeat (first | (with_reducible first | exact HB.out | apply zq2 | apply zq1 | apply zqd | refine zq3 ?_ GE125.out) | exact HB.out)⟩
 ·replace c2 := Bool.eq_false_iff.mpr c2
  subst c2
  have H1 : ((spec_l6In.f a0_1 0 11).bind fun t127 => (if t127 = true then (some ((a0_2.size : Int) == 3)) else (some false))) = some r := by rw [if_neg (show ¬ (false = true) by decide)] at H; exact H
  clear H
  have H := H1
  clear H1
  replace H := Option.bind_eq_some_iff.mp H
  obtain ⟨t127, A90, H⟩ := H
  replace H : (if t127 = true then (some ((a0_2.size : Int) == 3)) else (some false)) = some r := H
  have A9 := Az.mk A90
  clear A90
  by_cases c10 : t127 = true
  ·subst c10
   have H1 : (some ((a0_2.size : Int) == 3)) = some r := by rw [if_pos rfl] at H; exact H
   clear H
   have H := H1
   clear H1
   obtain rfl := Option.some.inj H
   go_enter Try.func66, Try.ntmps66
   go_wp2_with (first | ((with_reducible refine zqg (N := 1) rfl ?_); (try (refine gate_guard (by rfl) ?_; dsimp only)); refine zqb ?hg (N := 1) ?hd (cs := #[.bool false, .int .i64 a0_1, .string a0_2]) (t := 54) ?hr ?_; (case hd => rfl); (case hg => rfl); (case hr => first | (go_simp; done) | (go_simp; rfl)); intro gb125 hg w11 hbox hb; have n0_ := Az.mk (below_step (by repeat (first | (with_reducible first | exact HB.out | apply zq2 | apply zq1 | apply zqd) | exact HB.out)) hb); have n1_ := Az.mk (hbox); have n2_ := Az.mk ((by rw [hg]; exact (below_size (by repeat (first | (with_reducible first | exact HB.out | apply zq2 | apply zq1 | apply zqd) | exact HB.out))) : w.heap.size ≤ gb125)); have n3_ := Az.mk ((by rw [hg]; exact (below_size (by repeat (first | (with_reducible first | exact HB.out | apply zq2 | apply zq1 | apply zqd) | exact HB.out))) : w.heap.size ≤ gb125)); clear HB; have HB := n0_; have BK125 := n1_; have GW125 := n2_; have GE125 := n3_; clear n0_ n1_ n2_ n3_; clear hb hbox hg; have hcz12_0 : w11.cell? ⟨gb125, 0, none⟩ = some (.bool false) := (zq4 BK125.out 0).trans rfl; have hcz12_1 : w11.cell? ⟨gb125, 1, none⟩ = some (.int .i64 a0_1) := (zq4 BK125.out 1).trans rfl; have hcz12_2 : w11.cell? ⟨gb125, 2, none⟩ = some (.string a0_2) := (zq4 BK125.out 2).trans rfl; have hfz12_0 := zq5 BK125.out 0; have hfz12_1 := zq5 BK125.out 1; have hfz12_2 := zq5 BK125.out 2) | ((with_reducible refine gate_callee (f := 51) rfl ?_); refine zq9 (some 16) rfl rfl Try.func51 (by kernel_rfl) rfl #[.int .i64 a0_1, .int .i64 0, .int .i64 11] rfl (by (try simp only [List.map_toArray, List.map_cons, List.map_nil]); first | done | rfl | (simp only [List.length_drop, List.length_take]; rfl)) ?_; (with_reducible refine (spec_l6In.calls a0_1 0 11 true _ A9.out).mono ?_); rintro e w' ⟨rfl, ⟨nd, rfl⟩⟩; refine ⟨_, rfl, ?_⟩))
   go_ret
   exact ⟨by first | rfl | (simp [errW_none, errW_some] <;> rfl) | (simp [*, errW_none, errW_some] <;> rfl), by repeat (first | (with_reducible first | exact HB.out | apply zq2 | apply zq1 | apply zqd | refine zq3 ?_ GE125.out) | exact HB.out)⟩
  ·replace c10 := Bool.eq_false_iff.mpr c10
   subst c10
   have H1 : (some false) = some r := by rw [if_neg (show ¬ (false = true) by decide)] at H; exact H
   clear H
   have H := H1
   clear H1
   obtain rfl := Option.some.inj H
   go_enter Try.func66, Try.ntmps66
   go_wp2_with (first | ((with_reducible refine zqg (N := 1) rfl ?_); (try (refine gate_guard (by rfl) ?_; dsimp only)); refine zqb ?hg (N := 1) ?hd (cs := #[.bool false, .int .i64 a0_1, .string a0_2]) (t := 54) ?hr ?_; (case hd => rfl); (case hg => rfl); (case hr => first | (go_simp; done) | (go_simp; rfl)); intro gb125 hg w13 hbox hb; have n0_ := Az.mk (below_step (by repeat (first | (with_reducible first | exact HB.out | apply zq2 | apply zq1 | apply zqd) | exact HB.out)) hb); have n1_ := Az.mk (hbox); have n2_ := Az.mk ((by rw [hg]; exact (below_size (by repeat (first | (with_reducible first | exact HB.out | apply zq2 | apply zq1 | apply zqd) | exact HB.out))) : w.heap.size ≤ gb125)); have n3_ := Az.mk ((by rw [hg]; exact (below_size (by repeat (first | (with_reducible first | exact HB.out | apply zq2 | apply zq1 | apply zqd) | exact HB.out))) : w.heap.size ≤ gb125)); clear HB; have HB := n0_; have BK125 := n1_; have GW125 := n2_; have GE125 := n3_; clear n0_ n1_ n2_ n3_; clear hb hbox hg; have hcz14_0 : w13.cell? ⟨gb125, 0, none⟩ = some (.bool false) := (zq4 BK125.out 0).trans rfl; have hcz14_1 : w13.cell? ⟨gb125, 1, none⟩ = some (.int .i64 a0_1) := (zq4 BK125.out 1).trans rfl; have hcz14_2 : w13.cell? ⟨gb125, 2, none⟩ = some (.string a0_2) := (zq4 BK125.out 2).trans rfl; have hfz14_0 := zq5 BK125.out 0; have hfz14_1 := zq5 BK125.out 1; have hfz14_2 := zq5 BK125.out 2) | ((with_reducible refine gate_callee (f := 51) rfl ?_); refine zq9 (some 16) rfl rfl Try.func51 (by kernel_rfl) rfl #[.int .i64 a0_1, .int .i64 0, .int .i64 11] rfl (by (try simp only [List.map_toArray, List.map_cons, List.map_nil]); first | done | rfl | (simp only [List.length_drop, List.length_take]; rfl)) ?_; (with_reducible refine (spec_l6In.calls a0_1 0 11 false _ A9.out).mono ?_); rintro e w' ⟨rfl, ⟨nd, rfl⟩⟩; refine ⟨_, rfl, ?_⟩))
   go_ret
   exact ⟨by first | rfl | (simp [errW_none, errW_some] <;> rfl) | (simp [*, errW_none, errW_some] <;> rfl), by repeat (first | (with_reducible first | exact HB.out | apply zq2 | apply zq1 | apply zqd | refine zq3 ?_ GE125.out) | exact HB.out)⟩
end Go.Proofs.Ytkgpnloghmbmlaa.Print
namespace Go.Proofs.Ytkgpnloghmbmlaa.Print
open Go.RowKit Go.Proofs.YtkgpnloghmbmlaaW.PrintWords Go.Proofs.YtkgpnloghmbmlaaW.PrintLast Go.Proofs.YtkgpnloghmbmlaaW.PrintMore
attribute [local go_sem] max2_int min2_int max_two min_two max_three min_three max_four min_four   -- for this text's walks alone
set_option linter.unusedVariables false
set_option linter.unusedSimpArgs false
def spec_DiskNew.f (a0 : Int) : Option (Int × List ByteArray × List ByteArray × List Bool × (List (S54))) := (spec_l6In.f a0 0 2).bind fun t320 => (if t320 = true then (if 12 ≤ 17592186044416 then (if 2 ≤ 17592186044416 then (if 12 ≤ 281474976710656 then (some (a0, (List.replicate 12 (⟨#[]⟩ : ByteArray)), (List.replicate 2 (⟨#[]⟩ : ByteArray)), (List.replicate 12 false), (([] : List (S54))))) else (none)) else (none)) else (none)) else (some (0, ([] : List ByteArray), ([] : List ByteArray), ([] : List Bool), ([] : List (S54)))))
set_option maxHeartbeats 8000000 in
set_option maxRecDepth 100000 in
theorem spec_DiskNew.calls (a0 : Int) (r1 : Int) (r2 : List ByteArray) (r3 : List ByteArray) (r4 : List Bool) (r5 : List (S54)) (w : World) (h : spec_DiskNew.f a0 = some (r1, r2, r3, r4, r5)) :
  Calls Try.prog 19 #[.int .i64 a0] w fun e w' => ∃ v1_ v2_ v3_ v4_ : Value, e = .returned (.agg #[.int .i64 r1, v1_, v2_, v3_, v4_]) ∧ Kd.R Kd.string 9 w' w.heap.size (fun k_ => some k_ ≠ (v2_ : Value).ownBlock) v1_ r2 ∧ Kd.R Kd.string 9 w' w.heap.size (fun k_ => some k_ ≠ (v1_ : Value).ownBlock) v2_ r3 ∧ Kd.R Kd.bool 4 w' w.heap.size (fun _ => True) v3_ r4 ∧ Kd.R k54 54 w' w.heap.size (fun _ => True) v4_ r5 ∧ Below w.heap.size w w' := by
 have hu28 := Try.underlying28
 have HB := Az.mk (Below.refl w.heap.size w)
 have H : ((spec_l6In.f a0 0 2).bind fun t320 => (if t320 = true then (if 12 ≤ 17592186044416 then (if 2 ≤ 17592186044416 then (if 12 ≤ 281474976710656 then (some (a0, (List.replicate 12 (⟨#[]⟩ : ByteArray)), (List.replicate 2 (⟨#[]⟩ : ByteArray)), (List.replicate 12 false), (([] : List (S54))))) else (none)) else (none)) else (none)) else (some (0, ([] : List ByteArray), ([] : List ByteArray), ([] : List Bool), ([] : List (S54)))))) = some (r1, r2, r3, r4, r5) := h
 clear h
 replace H := Option.bind_eq_some_iff.mp H
 obtain ⟨t320, A20, H⟩ := H
 replace H : (if t320 = true then (if 12 ≤ 17592186044416 then (if 2 ≤ 17592186044416 then (if 12 ≤ 281474976710656 then (some (a0, (List.replicate 12 (⟨#[]⟩ : ByteArray)), (List.replicate 2 (⟨#[]⟩ : ByteArray)), (List.replicate 12 false), (([] : List (S54))))) else (none)) else (none)) else (none)) else (some (0, ([] : List ByteArray), ([] : List ByteArray), ([] : List Bool), ([] : List (S54))))) = some (r1, r2, r3, r4, r5) := H
 have A2 := Az.mk A20
 clear A20
 by_cases c3 : t320 = true
 ·subst c3
  have H1 : (if 12 ≤ 17592186044416 then (if 2 ≤ 17592186044416 then (if 12 ≤ 281474976710656 then (some (a0, (List.replicate 12 (⟨#[]⟩ : ByteArray)), (List.replicate 2 (⟨#[]⟩ : ByteArray)), (List.replicate 12 false), (([] : List (S54))))) else (none)) else (none)) else (none)) = some (r1, r2, r3, r4, r5) := by rw [if_pos rfl] at H; exact H
  clear H
  have H := H1
  clear H1
  by_cases c4 : 12 ≤ 17592186044416
  ·rw [if_pos c4] at H
   have c4b0 := eq_true c4
   have c4b1 : decide (12 ≤ 17592186044416) = true := decide_eq_true c4
   clear c4
   obtain ⟨y321, hy321⟩ : ∃ y_ : List ByteArray, y_ = (List.replicate 12 (⟨#[]⟩ : ByteArray)) := ⟨_, rfl⟩
   replace H : (if 2 ≤ 17592186044416 then (if 12 ≤ 281474976710656 then (some (a0, y321, (List.replicate 2 (⟨#[]⟩ : ByteArray)), (List.replicate 12 false), (([] : List (S54))))) else (none)) else (none)) = some (r1, r2, r3, r4, r5) := by first | (rw [hy321]; with_reducible exact H) | (have H2_ := (Option.bind_some _ _).symm.trans H; rw [hy321]; with_reducible exact H2_) | (have H2_ := (Option.bind_some _ _).symm.trans H; with_reducible exact H2_) | with_reducible exact H | (rw [hy321]; exact H) | exact H
   have Ny321 := Az.mk hy321
   clear hy321
   by_cases c5 : 2 ≤ 17592186044416
   ·rw [if_pos c5] at H
    have c5b0 := eq_true c5
    have c5b1 : decide (2 ≤ 17592186044416) = true := decide_eq_true c5
    clear c5
    obtain ⟨y324, hy324⟩ : ∃ y_ : List ByteArray, y_ = (List.replicate 2 (⟨#[]⟩ : ByteArray)) := ⟨_, rfl⟩
    replace H : (if 12 ≤ 281474976710656 then (some (a0, y321, y324, (List.replicate 12 false), (([] : List (S54))))) else (none)) = some (r1, r2, r3, r4, r5) := by first | (rw [hy324]; with_reducible exact H) | (have H2_ := (Option.bind_some _ _).symm.trans H; rw [hy324]; with_reducible exact H2_) | (have H2_ := (Option.bind_some _ _).symm.trans H; with_reducible exact H2_) | with_reducible exact H | (rw [hy324]; exact H) | exact H
    have Ny324 := Az.mk hy324
    clear hy324
    by_cases c6 : 12 ≤ 281474976710656
    ·rw [if_pos c6] at H
     have c6b0 := eq_true c6
     have c6b1 : decide (12 ≤ 281474976710656) = true := decide_eq_true c6
     clear c6
     obtain ⟨y327, hy327⟩ : ∃ y_ : List Bool, y_ = (List.replicate 12 false) := ⟨_, rfl⟩
     replace H : (some (a0, y321, y324, y327, (([] : List (S54))))) = some (r1, r2, r3, r4, r5) := by first | (rw [hy327]; with_reducible exact H) | (have H2_ := (Option.bind_some _ _).symm.trans H; rw [hy327]; with_reducible exact H2_) | (have H2_ := (Option.bind_some _ _).symm.trans H; with_reducible exact H2_) | with_reducible exact H | (rw [hy327]; exact H) | exact H
     have Ny327 := Az.mk hy327
     clear hy327
     obtain ⟨y330, hy330⟩ : ∃ y_ : List (S54), y_ = (([] : List (S54))) := ⟨_, rfl⟩
     replace H : (some (a0, y321, y324, y327, y330)) = some (r1, r2, r3, r4, r5) := by first | (rw [hy330]; with_reducible exact H) | (have H2_ := (Option.bind_some _ _).symm.trans H; rw [hy330]; with_reducible exact H2_) | (have H2_ := (Option.bind_some _ _).symm.trans H; with_reducible exact H2_) | with_reducible exact H | (rw [hy330]; exact H) | exact H
     have Ny330 := Az.mk hy330
     clear hy330
     simp only [Option.some.injEq, Prod.mk.injEq] at H
     obtain ⟨rfl, rfl, rfl, rfl, rfl⟩ := H
     go_enter Try.func19, Try.ntmps19
     try go_wp2_with (first | ((with_reducible refine zqg (N := 2) rfl ?_); refine zqb ?hg (N := 2) ?hd (cs := #[.int .i64 0, .slice none 0 0, .slice none 0 0, .slice none 0 0, .slice none 0 0]) (t := 28) ?hr ?_; (case hd => rfl); (case hg => rfl); (case hr => first | (go_simp; done) | (go_simp; rfl)); intro gb319 hg w7 hbox hb; have n0_ := Az.mk (below_step (by repeat (first | (with_reducible first | exact HB.out | apply zq2 | apply zq1 | apply zqd) | exact HB.out)) hb); have n1_ := Az.mk (hbox); have n2_ := Az.mk ((by rw [hg]; exact (below_size (by repeat (first | (with_reducible first | exact HB.out | apply zq2 | apply zq1 | apply zqd) | exact HB.out))) : w.heap.size ≤ gb319)); have n3_ := Az.mk ((by rw [hg]; exact (below_size (by repeat (first | (with_reducible first | exact HB.out | apply zq2 | apply zq1 | apply zqd) | exact HB.out))) : w.heap.size ≤ gb319)); clear HB; have HB := n0_; have BK319 := n1_; have GW319 := n2_; have GE319 := n3_; clear n0_ n1_ n2_ n3_; clear hb hbox hg) | ((with_reducible refine gate_callee (f := 51) rfl ?_); refine zq9 (some 4) rfl rfl Try.func51 (by kernel_rfl) rfl #[.int .i64 a0, .int .i64 0, .int .i64 2] rfl (by (try simp only [List.map_toArray, List.map_cons, List.map_nil]); first | done | rfl | (simp only [List.length_drop, List.length_take]; rfl)) ?_; (with_reducible refine (spec_l6In.calls a0 0 2 true _ A2.out).mono ?_); rintro e w' ⟨rfl, ⟨nd, rfl⟩⟩; refine ⟨_, rfl, ?_⟩; (try (rw [drewN_self w7]; generalize hq_ : World.drewN w7 _ = w7; have n0_ : Az (w7.heap[gb319]? = some (.cells #[.int .i64 0, .slice none 0 0, .slice none 0 0, .slice none 0 0, .slice none 0 0] 28 (0, 0))) := ⟨by rw [← hq_]; exact (by (with_reducible repeat (first | refine zq6 ?_ _ | refine zq8 ?_ | refine zq7 ?_ _)); exact BK319.out)⟩; have n1_ : Az (Below w.heap.size w w7) := ⟨by rw [← hq_]; exact (by repeat (first | (with_reducible first | exact HB.out | apply zq2 | apply zq1 | apply zqd | refine zq3 ?_ GE319.out) | exact HB.out))⟩; clear BK319 HB hq_; have BK319 := n0_; have HB := n1_; clear n0_ n1_))))
     have n0_ := Az.mk (zq8 BK319.out)
     have n1_ := Az.mk (zqd HB.out)
     clear BK319
     clear HB
     have BK319 := n0_
     have HB := n1_
     clear n0_ n1_
     refine start_ (n := 7) (S := fun w' => True) (ds := []) #[false, false, false, false, false, false, false] (by kernel_rfl) rfl rfl trivial (fun hHeld => ?_)
     generalize w7.drew = w8 at BK319 HB hHeld ⊢
     refine zqp (i := 0) (N := some 7) (v := ?_) (a' := ?_) #[true, false, false, false, false, false, false] rfl rfl (by kernel_rfl) (fun _ _ _ h => h) (Or.inl ⟨by rfl, ?_⟩) ?_ ?_
     rotate_left
     ·intro w'
      go_simp
      with_reducible rfl
     rotate_left
     ·simp only [Act.put, List.setIfInBounds_toArray, List.set_cons_zero, List.set_cons_succ, i64_w, i32_w]
      rfl
     refine join_ (σ := Value × Value × Value × Value) 2 #[true, true, true, true, true, false, false] (fun s_ => [(8, s_.1), (9, s_.2.1), (10, s_.2.2.1), (11, s_.2.2.2)]) (fun s_ w' => (Kd.R Kd.string 9 w' w.heap.size (fun k_ => some k_ ≠ (s_.2.1 : Value).ownBlock) s_.1 y321) ∧ (Kd.R Kd.string 9 w' w.heap.size (fun k_ => some k_ ≠ (s_.1 : Value).ownBlock) s_.2.1 y324) ∧ (Kd.R Kd.bool 4 w' w.heap.size (fun _ => True) s_.2.2.1 y327) ∧ (Kd.R k54 54 w' w.heap.size (fun _ => True) s_.2.2.2 y330) ∧ (w'.heap[gb319]? = some (.cells #[.int .i64 0, .slice none 0 0, .slice none 0 0, .slice none 0 0, .slice none 0 0] 28 (0, 0))) ∧ (Below w.heap.size w w')) ?_ ?_
     rotate_left
     ·intro hJ1_2_3_4
      refine join_ (σ := Value × Value × Value) 3 #[true, true, true, true, false, false, false] (fun s_ => [(8, s_.1), (9, s_.2.1), (10, s_.2.2)]) (fun s_ w' => (Kd.R Kd.string 9 w' w.heap.size (fun k_ => some k_ ≠ (s_.2.1 : Value).ownBlock) s_.1 y321) ∧ (Kd.R Kd.string 9 w' w.heap.size (fun k_ => some k_ ≠ (s_.1 : Value).ownBlock) s_.2.1 y324) ∧ (Kd.R Kd.bool 4 w' w.heap.size (fun _ => True) s_.2.2 y327) ∧ (w'.heap[gb319]? = some (.cells #[.int .i64 0, .slice none 0 0, .slice none 0 0, .slice none 0 0, .slice none 0 0] 28 (0, 0))) ∧ (Below w.heap.size w w')) ?_ ?_
      rotate_left
      ·intro hJ1_2_3
       refine join_ (σ := Value × Value × Value) 3 #[true, true, true, false, true, false, false] (fun s_ => [(8, s_.1), (9, s_.2.1), (11, s_.2.2)]) (fun s_ w' => (Kd.R Kd.string 9 w' w.heap.size (fun k_ => some k_ ≠ (s_.2.1 : Value).ownBlock) s_.1 y321) ∧ (Kd.R Kd.string 9 w' w.heap.size (fun k_ => some k_ ≠ (s_.1 : Value).ownBlock) s_.2.1 y324) ∧ (Kd.R k54 54 w' w.heap.size (fun _ => True) s_.2.2 y330) ∧ (w'.heap[gb319]? = some (.cells #[.int .i64 0, .slice none 0 0, .slice none 0 0, .slice none 0 0, .slice none 0 0] 28 (0, 0))) ∧ (Below w.heap.size w w')) ?_ ?_
       rotate_left
       ·intro hJ1_2_4
        refine join_ (σ := Value × Value × Value) 3 #[true, true, false, true, true, false, false] (fun s_ => [(8, s_.1), (10, s_.2.1), (11, s_.2.2)]) (fun s_ w' => (Kd.R Kd.string 9 w' w.heap.size (fun _ => True) s_.1 y321) ∧ (Kd.R Kd.bool 4 w' w.heap.size (fun _ => True) s_.2.1 y327) ∧ (Kd.R k54 54 w' w.heap.size (fun _ => True) s_.2.2 y330) ∧ (w'.heap[gb319]? = some (.cells #[.int .i64 0, .slice none 0 0, .slice none 0 0, .slice none 0 0, .slice none 0 0] 28 (0, 0))) ∧ (Below w.heap.size w w')) ?_ ?_
        rotate_left
        ·intro hJ1_3_4
         refine join_ (σ := Value × Value × Value) 3 #[true, false, true, true, true, false, false] (fun s_ => [(9, s_.1), (10, s_.2.1), (11, s_.2.2)]) (fun s_ w' => (Kd.R Kd.string 9 w' w.heap.size (fun _ => True) s_.1 y324) ∧ (Kd.R Kd.bool 4 w' w.heap.size (fun _ => True) s_.2.1 y327) ∧ (Kd.R k54 54 w' w.heap.size (fun _ => True) s_.2.2 y330) ∧ (w'.heap[gb319]? = some (.cells #[.int .i64 0, .slice none 0 0, .slice none 0 0, .slice none 0 0, .slice none 0 0] 28 (0, 0))) ∧ (Below w.heap.size w w')) ?_ ?_
         rotate_left
         ·intro hJ2_3_4
          refine join_ (σ := Value × Value) 4 #[true, true, true, false, false, false, false] (fun s_ => [(8, s_.1), (9, s_.2)]) (fun s_ w' => (Kd.R Kd.string 9 w' w.heap.size (fun k_ => some k_ ≠ (s_.2 : Value).ownBlock) s_.1 y321) ∧ (Kd.R Kd.string 9 w' w.heap.size (fun k_ => some k_ ≠ (s_.1 : Value).ownBlock) s_.2 y324) ∧ (w'.heap[gb319]? = some (.cells #[.int .i64 0, .slice none 0 0, .slice none 0 0, .slice none 0 0, .slice none 0 0] 28 (0, 0))) ∧ (Below w.heap.size w w')) ?_ ?_
          rotate_left
          ·intro hJ1_2
           refine join_ (σ := Value × Value) 4 #[true, true, false, true, false, false, false] (fun s_ => [(8, s_.1), (10, s_.2)]) (fun s_ w' => (Kd.R Kd.string 9 w' w.heap.size (fun _ => True) s_.1 y321) ∧ (Kd.R Kd.bool 4 w' w.heap.size (fun _ => True) s_.2 y327) ∧ (w'.heap[gb319]? = some (.cells #[.int .i64 0, .slice none 0 0, .slice none 0 0, .slice none 0 0, .slice none 0 0] 28 (0, 0))) ∧ (Below w.heap.size w w')) ?_ ?_
           rotate_left
           ·intro hJ1_3
            refine join_ (σ := Value × Value) 4 #[true, true, false, false, true, false, false] (fun s_ => [(8, s_.1), (11, s_.2)]) (fun s_ w' => (Kd.R Kd.string 9 w' w.heap.size (fun _ => True) s_.1 y321) ∧ (Kd.R k54 54 w' w.heap.size (fun _ => True) s_.2 y330) ∧ (w'.heap[gb319]? = some (.cells #[.int .i64 0, .slice none 0 0, .slice none 0 0, .slice none 0 0, .slice none 0 0] 28 (0, 0))) ∧ (Below w.heap.size w w')) ?_ ?_
            rotate_left
            ·intro hJ1_4
             refine join_ (σ := Value × Value) 4 #[true, false, true, true, false, false, false] (fun s_ => [(9, s_.1), (10, s_.2)]) (fun s_ w' => (Kd.R Kd.string 9 w' w.heap.size (fun _ => True) s_.1 y324) ∧ (Kd.R Kd.bool 4 w' w.heap.size (fun _ => True) s_.2 y327) ∧ (w'.heap[gb319]? = some (.cells #[.int .i64 0, .slice none 0 0, .slice none 0 0, .slice none 0 0, .slice none 0 0] 28 (0, 0))) ∧ (Below w.heap.size w w')) ?_ ?_
             rotate_left
             ·intro hJ2_3
              refine join_ (σ := Value × Value) 4 #[true, false, true, false, true, false, false] (fun s_ => [(9, s_.1), (11, s_.2)]) (fun s_ w' => (Kd.R Kd.string 9 w' w.heap.size (fun _ => True) s_.1 y324) ∧ (Kd.R k54 54 w' w.heap.size (fun _ => True) s_.2 y330) ∧ (w'.heap[gb319]? = some (.cells #[.int .i64 0, .slice none 0 0, .slice none 0 0, .slice none 0 0, .slice none 0 0] 28 (0, 0))) ∧ (Below w.heap.size w w')) ?_ ?_
              rotate_left
              ·intro hJ2_4
               refine join_ (σ := Value × Value) 4 #[true, false, false, true, true, false, false] (fun s_ => [(10, s_.1), (11, s_.2)]) (fun s_ w' => (Kd.R Kd.bool 4 w' w.heap.size (fun _ => True) s_.1 y327) ∧ (Kd.R k54 54 w' w.heap.size (fun _ => True) s_.2 y330) ∧ (w'.heap[gb319]? = some (.cells #[.int .i64 0, .slice none 0 0, .slice none 0 0, .slice none 0 0, .slice none 0 0] 28 (0, 0))) ∧ (Below w.heap.size w w')) ?_ ?_
               rotate_left
               ·intro hJ3_4
                refine join_ (σ := Value) 5 #[true, true, false, false, false, false, false] (fun s_ => [(8, s_)]) (fun s_ w' => (Kd.R Kd.string 9 w' w.heap.size (fun _ => True) s_ y321) ∧ (w'.heap[gb319]? = some (.cells #[.int .i64 0, .slice none 0 0, .slice none 0 0, .slice none 0 0, .slice none 0 0] 28 (0, 0))) ∧ (Below w.heap.size w w')) ?_ ?_
                rotate_left
                ·intro hJ1
                 refine join_ (σ := Value) 5 #[true, false, true, false, false, false, false] (fun s_ => [(9, s_)]) (fun s_ w' => (Kd.R Kd.string 9 w' w.heap.size (fun _ => True) s_ y324) ∧ (w'.heap[gb319]? = some (.cells #[.int .i64 0, .slice none 0 0, .slice none 0 0, .slice none 0 0, .slice none 0 0] 28 (0, 0))) ∧ (Below w.heap.size w w')) ?_ ?_
                 rotate_left
                 ·intro hJ2
                  refine join_ (σ := Value) 5 #[true, false, false, true, false, false, false] (fun s_ => [(10, s_)]) (fun s_ w' => (Kd.R Kd.bool 4 w' w.heap.size (fun _ => True) s_ y327) ∧ (w'.heap[gb319]? = some (.cells #[.int .i64 0, .slice none 0 0, .slice none 0 0, .slice none 0 0, .slice none 0 0] 28 (0, 0))) ∧ (Below w.heap.size w w')) ?_ ?_
                  rotate_left
                  ·intro hJ3
                   refine join_ (σ := Value) 5 #[true, false, false, false, true, false, false] (fun s_ => [(11, s_)]) (fun s_ w' => (Kd.R k54 54 w' w.heap.size (fun _ => True) s_ y330) ∧ (w'.heap[gb319]? = some (.cells #[.int .i64 0, .slice none 0 0, .slice none 0 0, .slice none 0 0, .slice none 0 0] 28 (0, 0))) ∧ (Below w.heap.size w w')) ?_ ?_
                   rotate_left
                   ·intro hJ4
                    refine four_ (i := 1) (j := 2) (k := 3) (m := 4) (Ni := some 8) (Nj := some 9) (Nk := some 10) (Nm := some 11) #[true, true, false, false, false, false, false] #[true, false, true, false, false, false, false] #[true, false, false, true, false, false, false] #[true, false, false, false, true, false, false] rfl rfl rfl rfl rfl rfl rfl rfl (by kernel_rfl) (by decide) (by decide) (by decide) (by decide) (fun K hK => ?_) (fun K hK => ?_) (fun K hK => ?_) (fun K hK => ?_)
                    ·skip
                     refine Kd.R_make_step Kd.string _ 9 (by rfl) (N := 8) rfl 24 _ _ rfl 12 rfl rfl Try.underlying24 (.string ⟨#[]⟩) 16 info9 rfl (by decide) (by omega) (⟨#[]⟩ : ByteArray) (ok := fun _ => True) (okp := fun _ => True) rfl (fun _ hk => hk) trivial (by omega) (by omega) (Below.refl _ _) (Nat.le_refl _) ?_
                     intro v322 w9 ho10 hb hg_ hnew_
                     clear hg_ hnew_
                     (first | rw [← Ny321.out] at ho10 | (simp only [Int.reduceToNat] at ho10; rw [← Ny321.out] at ho10))
                     have n0_ := Az.mk (Kd.R_lower ho10 (below_size (by repeat (first | (with_reducible first | exact HB.out | apply zq2 | apply zq1 | apply zqd | refine zq3 ?_ GE319.out) | exact HB.out))))
                     have n1_ := Az.mk (blk_below (g := gb319) (o := .cells #[.int .i64 0, .slice none 0 0, .slice none 0 0, .slice none 0 0, .slice none 0 0] 28 (0, 0)) (by (with_reducible repeat (first | refine zq6 ?_ _ | refine zq8 ?_ | refine zq7 ?_ _)); exact BK319.out) hb)
                     have n2_ := Az.mk (below_step (by repeat (first | (with_reducible first | exact HB.out | apply zq2 | apply zq1 | apply zqd | refine zq3 ?_ GE319.out) | exact HB.out)) hb)
                     clear BK319
                     clear HB
                     have HO323 := n0_
                     have BK319 := n1_
                     have HB := n2_
                     clear n0_ n1_ n2_
                     clear hb ho10
                     refine hK.out _ _ trivial (fun hHeld => ?_)
                     clear hK K
                     refine norm_ (a' := ?_) ?_ ?_
                     rotate_left
                     ·show Act.put _ (some 8) _ = _
                      simp only [Act.put, List.setIfInBounds_toArray, List.set_cons_zero, List.set_cons_succ, i64_w, i32_w]
                      rfl
                     exact norm_ (by first | (simp only [putAll, Act.put, List.setIfInBounds_toArray, List.set_cons_zero, List.set_cons_succ]; done) | (simp only [putAll, Act.put, List.setIfInBounds_toArray, List.set_cons_zero, List.set_cons_succ]; rfl)) (hJ1 (v322) _ ⟨(by (with_reducible repeat (first | apply Kd.R_alloc | apply Kd.R_drewN | apply Kd.R_drew)); exact HO323.out), (by (with_reducible repeat (first | refine zq6 ?_ _ | refine zq8 ?_ | refine zq7 ?_ _)); exact BK319.out), (by repeat (first | (with_reducible first | exact HB.out | apply zq2 | apply zq1 | apply zqd | refine zq3 ?_ GE319.out) | exact HB.out))⟩)
                    ·skip
                     refine Kd.R_make_step Kd.string _ 9 (by rfl) (N := 9) rfl 24 _ _ rfl 2 rfl rfl Try.underlying24 (.string ⟨#[]⟩) 16 info9 rfl (by decide) (by omega) (⟨#[]⟩ : ByteArray) (ok := fun _ => True) (okp := fun _ => True) rfl (fun _ hk => hk) trivial (by omega) (by omega) (Below.refl _ _) (Nat.le_refl _) ?_
                     intro v325 w9 ho10 hb hg_ hnew_
                     clear hg_ hnew_
                     (first | rw [← Ny324.out] at ho10 | (simp only [Int.reduceToNat] at ho10; rw [← Ny324.out] at ho10))
                     have n0_ := Az.mk (Kd.R_lower ho10 (below_size (by repeat (first | (with_reducible first | exact HB.out | apply zq2 | apply zq1 | apply zqd | refine zq3 ?_ GE319.out) | exact HB.out))))
                     have n1_ := Az.mk (blk_below (g := gb319) (o := .cells #[.int .i64 0, .slice none 0 0, .slice none 0 0, .slice none 0 0, .slice none 0 0] 28 (0, 0)) (by (with_reducible repeat (first | refine zq6 ?_ _ | refine zq8 ?_ | refine zq7 ?_ _)); exact BK319.out) hb)
                     have n2_ := Az.mk (below_step (by repeat (first | (with_reducible first | exact HB.out | apply zq2 | apply zq1 | apply zqd | refine zq3 ?_ GE319.out) | exact HB.out)) hb)
                     clear BK319
                     clear HB
                     have HO326 := n0_
                     have BK319 := n1_
                     have HB := n2_
                     clear n0_ n1_ n2_
                     clear hb ho10
                     refine hK.out _ _ trivial (fun hHeld => ?_)
                     clear hK K
                     refine norm_ (a' := ?_) ?_ ?_
                     rotate_left
                     ·show Act.put _ (some 9) _ = _
                      simp only [Act.put, List.setIfInBounds_toArray, List.set_cons_zero, List.set_cons_succ, i64_w, i32_w]
                      rfl
                     exact norm_ (by first | (simp only [putAll, Act.put, List.setIfInBounds_toArray, List.set_cons_zero, List.set_cons_succ]; done) | (simp only [putAll, Act.put, List.setIfInBounds_toArray, List.set_cons_zero, List.set_cons_succ]; rfl)) (hJ2 (v325) _ ⟨(by (with_reducible repeat (first | apply Kd.R_alloc | apply Kd.R_drewN | apply Kd.R_drew)); exact HO326.out), (by (with_reducible repeat (first | refine zq6 ?_ _ | refine zq8 ?_ | refine zq7 ?_ _)); exact BK319.out), (by repeat (first | (with_reducible first | exact HB.out | apply zq2 | apply zq1 | apply zqd | refine zq3 ?_ GE319.out) | exact HB.out))⟩)
                    ·skip
                     refine Kd.R_make_step Kd.bool _ 4 (by rfl) (N := 10) rfl 25 _ _ rfl 12 rfl rfl Try.underlying25 (.bool false) 1 info4 rfl (by decide) (by omega) false (ok := fun _ => True) (okp := fun _ => True) rfl (fun _ hk => hk) trivial (by omega) (by omega) (Below.refl _ _) (Nat.le_refl _) ?_
                     intro v328 w9 ho10 hb hg_ hnew_
                     clear hg_ hnew_
                     (first | rw [← Ny327.out] at ho10 | (simp only [Int.reduceToNat] at ho10; rw [← Ny327.out] at ho10))
                     have n0_ := Az.mk (Kd.R_lower ho10 (below_size (by repeat (first | (with_reducible first | exact HB.out | apply zq2 | apply zq1 | apply zqd | refine zq3 ?_ GE319.out) | exact HB.out))))
                     have n1_ := Az.mk (blk_below (g := gb319) (o := .cells #[.int .i64 0, .slice none 0 0, .slice none 0 0, .slice none 0 0, .slice none 0 0] 28 (0, 0)) (by (with_reducible repeat (first | refine zq6 ?_ _ | refine zq8 ?_ | refine zq7 ?_ _)); exact BK319.out) hb)
                     have n2_ := Az.mk (below_step (by repeat (first | (with_reducible first | exact HB.out | apply zq2 | apply zq1 | apply zqd | refine zq3 ?_ GE319.out) | exact HB.out)) hb)
                     clear BK319
                     clear HB
                     have HO329 := n0_
                     have BK319 := n1_
                     have HB := n2_
                     clear n0_ n1_ n2_
                     clear hb ho10
                     refine hK.out _ _ trivial (fun hHeld => ?_)
                     clear hK K
                     refine norm_ (a' := ?_) ?_ ?_
                     rotate_left
                     ·show Act.put _ (some 10) _ = _
                      simp only [Act.put, List.setIfInBounds_toArray, List.set_cons_zero, List.set_cons_succ, i64_w, i32_w]
                      rfl
                     exact norm_ (by first | (simp only [putAll, Act.put, List.setIfInBounds_toArray, List.set_cons_zero, List.set_cons_succ]; done) | (simp only [putAll, Act.put, List.setIfInBounds_toArray, List.set_cons_zero, List.set_cons_succ]; rfl)) (hJ3 (v328) _ ⟨(by (with_reducible repeat (first | apply Kd.R_alloc | apply Kd.R_drewN | apply Kd.R_drew)); exact HO329.out), (by (with_reducible repeat (first | refine zq6 ?_ _ | refine zq8 ?_ | refine zq7 ?_ _)); exact BK319.out), (by repeat (first | (with_reducible first | exact HB.out | apply zq2 | apply zq1 | apply zqd | refine zq3 ?_ GE319.out) | exact HB.out))⟩)
                    ·skip
                     refine Kd.R_lit_step k54 _ 54 ?hg (N := 11) ?hd (xs := ([] : List (S54))) (inner := []) (ok := fun _ => True) (okp := fun _ => True) ?hr ?hp (fun _ hk => hk) trivial (Below.refl _ _) (Nat.le_refl _) (by simp) ?_; (case hd => rfl); (case hg => rfl); (case hr => first | (go_simp; done) | (go_simp; rfl)); (case hp => exact (Reps.none _ _))
                     intro v331 w9 ho10 hb hg_ hnew_
                     clear hg_ hnew_
                     (first | rw [← Ny330.out] at ho10 | (simp only [Int.reduceToNat] at ho10; rw [← Ny330.out] at ho10))
                     have n0_ := Az.mk (Kd.R_lower ho10 (below_size (by repeat (first | (with_reducible first | exact HB.out | apply zq2 | apply zq1 | apply zqd | refine zq3 ?_ GE319.out) | exact HB.out))))
                     have n1_ := Az.mk (blk_below (g := gb319) (o := .cells #[.int .i64 0, .slice none 0 0, .slice none 0 0, .slice none 0 0, .slice none 0 0] 28 (0, 0)) (by (with_reducible repeat (first | refine zq6 ?_ _ | refine zq8 ?_ | refine zq7 ?_ _)); exact BK319.out) hb)
                     have n2_ := Az.mk (below_step (by repeat (first | (with_reducible first | exact HB.out | apply zq2 | apply zq1 | apply zqd | refine zq3 ?_ GE319.out) | exact HB.out)) hb)
                     clear BK319
                     clear HB
                     have HO332 := n0_
                     have BK319 := n1_
                     have HB := n2_
                     clear n0_ n1_ n2_
                     clear hb ho10
                     refine hK.out _ _ trivial (fun hHeld => ?_)
                     clear hK K
                     refine norm_ (a' := ?_) ?_ ?_
                     rotate_left
                     ·show Act.put _ (some 11) _ = _
                      simp only [Act.put, List.setIfInBounds_toArray, List.set_cons_zero, List.set_cons_succ, i64_w, i32_w]
                      rfl
                     exact norm_ (by first | (simp only [putAll, Act.put, List.setIfInBounds_toArray, List.set_cons_zero, List.set_cons_succ]; done) | (simp only [putAll, Act.put, List.setIfInBounds_toArray, List.set_cons_zero, List.set_cons_succ]; rfl)) (hJ4 (v331) _ ⟨(by (with_reducible repeat (first | apply Kd.R_alloc | apply Kd.R_drewN | apply Kd.R_drew)); exact HO332.out), (by (with_reducible repeat (first | refine zq6 ?_ _ | refine zq8 ?_ | refine zq7 ?_ _)); exact BK319.out), (by repeat (first | (with_reducible first | exact HB.out | apply zq2 | apply zq1 | apply zqd | refine zq3 ?_ GE319.out) | exact HB.out))⟩)
                   ·skip
                    rintro v331 w11 ⟨h0_, h1_, h2_⟩
                    have n0_ : Az (Kd.R k54 54 w11 w.heap.size (fun _ => True) v331 y330) := ⟨h0_⟩
                    have n1_ : Az (w11.heap[gb319]? = some (.cells #[.int .i64 0, .slice none 0 0, .slice none 0 0, .slice none 0 0, .slice none 0 0] 28 (0, 0))) := ⟨h1_⟩
                    have n2_ : Az (Below w.heap.size w w11) := ⟨h2_⟩
                    clear BK319
                    clear HB
                    clear h0_ h1_ h2_
                    have HO332 := n0_
                    have BK319 := n1_
                    have HB := n2_
                    clear n0_ n1_ n2_
                    have hHeld := trivial
                    refine norm_ (a' := ?_) ?_ ?_
                    rotate_left
                    ·simp only [putAll, Act.put, List.setIfInBounds_toArray, List.set_cons_zero, List.set_cons_succ]
                     rfl
                    refine three_ (i := 1) (j := 2) (k := 3) (Ni := some 8) (Nj := some 9) (Nk := some 10) #[true, true, false, false, true, false, false] #[true, false, true, false, true, false, false] #[true, false, false, true, true, false, false] rfl rfl rfl rfl rfl rfl (by kernel_rfl) (by decide) (by decide) (by decide) (fun K hK => ?_) (fun K hK => ?_) (fun K hK => ?_)
                    ·skip
                     refine Kd.R_make_step Kd.string _ 9 (by rfl) (N := 8) rfl 24 _ _ rfl 12 rfl rfl Try.underlying24 (.string ⟨#[]⟩) 16 info9 rfl (by decide) (by omega) (⟨#[]⟩ : ByteArray) (ok := fun _ => True) (okp := fun _ => True) rfl (fun _ hk => hk) trivial (by omega) (by omega) (Below.refl _ _) (Nat.le_refl _) ?_
                     intro v322 w12 ho13 hb hg_ hnew_
                     clear hg_ hnew_
                     (first | rw [← Ny321.out] at ho13 | (simp only [Int.reduceToNat] at ho13; rw [← Ny321.out] at ho13))
                     have n0_ := Az.mk (Kd.R_below (by (with_reducible repeat (first | apply Kd.R_alloc | apply Kd.R_drewN | apply Kd.R_drew)); exact HO332.out) hb)
                     have n1_ := Az.mk (Kd.R_lower ho13 (below_size (by repeat (first | (with_reducible first | exact HB.out | apply zq2 | apply zq1 | apply zqd | refine zq3 ?_ GE319.out) | exact HB.out))))
                     have n2_ := Az.mk (blk_below (g := gb319) (o := .cells #[.int .i64 0, .slice none 0 0, .slice none 0 0, .slice none 0 0, .slice none 0 0] 28 (0, 0)) (by (with_reducible repeat (first | refine zq6 ?_ _ | refine zq8 ?_ | refine zq7 ?_ _)); exact BK319.out) hb)
                     have n3_ := Az.mk (below_step (by repeat (first | (with_reducible first | exact HB.out | apply zq2 | apply zq1 | apply zqd | refine zq3 ?_ GE319.out) | exact HB.out)) hb)
                     clear HO332
                     clear BK319
                     clear HB
                     have HO332 := n0_
                     have HO323 := n1_
                     have BK319 := n2_
                     have HB := n3_
                     clear n0_ n1_ n2_ n3_
                     clear hb ho13
                     refine hK.out _ _ trivial (fun hHeld => ?_)
                     clear hK K
                     refine norm_ (a' := ?_) ?_ ?_
                     rotate_left
                     ·show Act.put _ (some 8) _ = _
                      simp only [Act.put, List.setIfInBounds_toArray, List.set_cons_zero, List.set_cons_succ, i64_w, i32_w]
                      rfl
                     exact norm_ (by first | (simp only [putAll, Act.put, List.setIfInBounds_toArray, List.set_cons_zero, List.set_cons_succ]; done) | (simp only [putAll, Act.put, List.setIfInBounds_toArray, List.set_cons_zero, List.set_cons_succ]; rfl)) (hJ1_4 (v322, v331) _ ⟨(by (with_reducible repeat (first | apply Kd.R_alloc | apply Kd.R_drewN | apply Kd.R_drew)); exact HO323.out), (by (with_reducible repeat (first | apply Kd.R_alloc | apply Kd.R_drewN | apply Kd.R_drew)); exact HO332.out), (by (with_reducible repeat (first | refine zq6 ?_ _ | refine zq8 ?_ | refine zq7 ?_ _)); exact BK319.out), (by repeat (first | (with_reducible first | exact HB.out | apply zq2 | apply zq1 | apply zqd | refine zq3 ?_ GE319.out) | exact HB.out))⟩)
                    ·skip
                     refine Kd.R_make_step Kd.string _ 9 (by rfl) (N := 9) rfl 24 _ _ rfl 2 rfl rfl Try.underlying24 (.string ⟨#[]⟩) 16 info9 rfl (by decide) (by omega) (⟨#[]⟩ : ByteArray) (ok := fun _ => True) (okp := fun _ => True) rfl (fun _ hk => hk) trivial (by omega) (by omega) (Below.refl _ _) (Nat.le_refl _) ?_
                     intro v325 w12 ho13 hb hg_ hnew_
                     clear hg_ hnew_
                     (first | rw [← Ny324.out] at ho13 | (simp only [Int.reduceToNat] at ho13; rw [← Ny324.out] at ho13))
                     have n0_ := Az.mk (Kd.R_below (by (with_reducible repeat (first | apply Kd.R_alloc | apply Kd.R_drewN | apply Kd.R_drew)); exact HO332.out) hb)
                     have n1_ := Az.mk (Kd.R_lower ho13 (below_size (by repeat (first | (with_reducible first | exact HB.out | apply zq2 | apply zq1 | apply zqd | refine zq3 ?_ GE319.out) | exact HB.out))))
                     have n2_ := Az.mk (blk_below (g := gb319) (o := .cells #[.int .i64 0, .slice none 0 0, .slice none 0 0, .slice none 0 0, .slice none 0 0] 28 (0, 0)) (by (with_reducible repeat (first | refine zq6 ?_ _ | refine zq8 ?_ | refine zq7 ?_ _)); exact BK319.out) hb)
                     have n3_ := Az.mk (below_step (by repeat (first | (with_reducible first | exact HB.out | apply zq2 | apply zq1 | apply zqd | refine zq3 ?_ GE319.out) | exact HB.out)) hb)
                     clear HO332
                     clear BK319
                     clear HB
                     have HO332 := n0_
                     have HO326 := n1_
                     have BK319 := n2_
                     have HB := n3_
                     clear n0_ n1_ n2_ n3_
                     clear hb ho13
                     refine hK.out _ _ trivial (fun hHeld => ?_)
                     clear hK K
                     refine norm_ (a' := ?_) ?_ ?_
                     rotate_left
                     ·show Act.put _ (some 9) _ = _
                      simp only [Act.put, List.setIfInBounds_toArray, List.set_cons_zero, List.set_cons_succ, i64_w, i32_w]
                      rfl
                     exact norm_ (by first | (simp only [putAll, Act.put, List.setIfInBounds_toArray, List.set_cons_zero, List.set_cons_succ]; done) | (simp only [putAll, Act.put, List.setIfInBounds_toArray, List.set_cons_zero, List.set_cons_succ]; rfl)) (hJ2_4 (v325, v331) _ ⟨(by (with_reducible repeat (first | apply Kd.R_alloc | apply Kd.R_drewN | apply Kd.R_drew)); exact HO326.out), (by (with_reducible repeat (first | apply Kd.R_alloc | apply Kd.R_drewN | apply Kd.R_drew)); exact HO332.out), (by (with_reducible repeat (first | refine zq6 ?_ _ | refine zq8 ?_ | refine zq7 ?_ _)); exact BK319.out), (by repeat (first | (with_reducible first | exact HB.out | apply zq2 | apply zq1 | apply zqd | refine zq3 ?_ GE319.out) | exact HB.out))⟩)
                    ·skip
                     refine Kd.R_make_step Kd.bool _ 4 (by rfl) (N := 10) rfl 25 _ _ rfl 12 rfl rfl Try.underlying25 (.bool false) 1 info4 rfl (by decide) (by omega) false (ok := fun _ => True) (okp := fun _ => True) rfl (fun _ hk => hk) trivial (by omega) (by omega) (Below.refl _ _) (Nat.le_refl _) ?_
                     intro v328 w12 ho13 hb hg_ hnew_
                     clear hg_ hnew_
                     (first | rw [← Ny327.out] at ho13 | (simp only [Int.reduceToNat] at ho13; rw [← Ny327.out] at ho13))
                     have n0_ := Az.mk (Kd.R_below (by (with_reducible repeat (first | apply Kd.R_alloc | apply Kd.R_drewN | apply Kd.R_drew)); exact HO332.out) hb)
                     have n1_ := Az.mk (Kd.R_lower ho13 (below_size (by repeat (first | (with_reducible first | exact HB.out | apply zq2 | apply zq1 | apply zqd | refine zq3 ?_ GE319.out) | exact HB.out))))
                     have n2_ := Az.mk (blk_below (g := gb319) (o := .cells #[.int .i64 0, .slice none 0 0, .slice none 0 0, .slice none 0 0, .slice none 0 0] 28 (0, 0)) (by (with_reducible repeat (first | refine zq6 ?_ _ | refine zq8 ?_ | refine zq7 ?_ _)); exact BK319.out) hb)
                     have n3_ := Az.mk (below_step (by repeat (first | (with_reducible first | exact HB.out | apply zq2 | apply zq1 | apply zqd | refine zq3 ?_ GE319.out) | exact HB.out)) hb)
                     clear HO332
                     clear BK319
                     clear HB
                     have HO332 := n0_
                     have HO329 := n1_
                     have BK319 := n2_
                     have HB := n3_
                     clear n0_ n1_ n2_ n3_
                     clear hb ho13
                     refine hK.out _ _ trivial (fun hHeld => ?_)
                     clear hK K
                     refine norm_ (a' := ?_) ?_ ?_
                     rotate_left
                     ·show Act.put _ (some 10) _ = _
                      simp only [Act.put, List.setIfInBounds_toArray, List.set_cons_zero, List.set_cons_succ, i64_w, i32_w]
                      rfl
                     exact norm_ (by first | (simp only [putAll, Act.put, List.setIfInBounds_toArray, List.set_cons_zero, List.set_cons_succ]; done) | (simp only [putAll, Act.put, List.setIfInBounds_toArray, List.set_cons_zero, List.set_cons_succ]; rfl)) (hJ3_4 (v328, v331) _ ⟨(by (with_reducible repeat (first | apply Kd.R_alloc | apply Kd.R_drewN | apply Kd.R_drew)); exact HO329.out), (by (with_reducible repeat (first | apply Kd.R_alloc | apply Kd.R_drewN | apply Kd.R_drew)); exact HO332.out), (by (with_reducible repeat (first | refine zq6 ?_ _ | refine zq8 ?_ | refine zq7 ?_ _)); exact BK319.out), (by repeat (first | (with_reducible first | exact HB.out | apply zq2 | apply zq1 | apply zqd | refine zq3 ?_ GE319.out) | exact HB.out))⟩)
                  ·skip
                   rintro v328 w11 ⟨h0_, h1_, h2_⟩
                   have n0_ : Az (Kd.R Kd.bool 4 w11 w.heap.size (fun _ => True) v328 y327) := ⟨h0_⟩
                   have n1_ : Az (w11.heap[gb319]? = some (.cells #[.int .i64 0, .slice none 0 0, .slice none 0 0, .slice none 0 0, .slice none 0 0] 28 (0, 0))) := ⟨h1_⟩
                   have n2_ : Az (Below w.heap.size w w11) := ⟨h2_⟩
                   clear BK319
                   clear HB
                   clear h0_ h1_ h2_
                   have HO329 := n0_
                   have BK319 := n1_
                   have HB := n2_
                   clear n0_ n1_ n2_
                   have hHeld := trivial
                   refine norm_ (a' := ?_) ?_ ?_
                   rotate_left
                   ·simp only [putAll, Act.put, List.setIfInBounds_toArray, List.set_cons_zero, List.set_cons_succ]
                    rfl
                   refine three_ (i := 1) (j := 2) (k := 4) (Ni := some 8) (Nj := some 9) (Nk := some 11) #[true, true, false, true, false, false, false] #[true, false, true, true, false, false, false] #[true, false, false, true, true, false, false] rfl rfl rfl rfl rfl rfl (by kernel_rfl) (by decide) (by decide) (by decide) (fun K hK => ?_) (fun K hK => ?_) (fun K hK => ?_)
                   ·skip
                    refine Kd.R_make_step Kd.string _ 9 (by rfl) (N := 8) rfl 24 _ _ rfl 12 rfl rfl Try.underlying24 (.string ⟨#[]⟩) 16 info9 rfl (by decide) (by omega) (⟨#[]⟩ : ByteArray) (ok := fun _ => True) (okp := fun _ => True) rfl (fun _ hk => hk) trivial (by omega) (by omega) (Below.refl _ _) (Nat.le_refl _) ?_
                    intro v322 w12 ho13 hb hg_ hnew_
                    clear hg_ hnew_
                    (first | rw [← Ny321.out] at ho13 | (simp only [Int.reduceToNat] at ho13; rw [← Ny321.out] at ho13))
                    have n0_ := Az.mk (Kd.R_below (by (with_reducible repeat (first | apply Kd.R_alloc | apply Kd.R_drewN | apply Kd.R_drew)); exact HO329.out) hb)
                    have n1_ := Az.mk (Kd.R_lower ho13 (below_size (by repeat (first | (with_reducible first | exact HB.out | apply zq2 | apply zq1 | apply zqd | refine zq3 ?_ GE319.out) | exact HB.out))))
                    have n2_ := Az.mk (blk_below (g := gb319) (o := .cells #[.int .i64 0, .slice none 0 0, .slice none 0 0, .slice none 0 0, .slice none 0 0] 28 (0, 0)) (by (with_reducible repeat (first | refine zq6 ?_ _ | refine zq8 ?_ | refine zq7 ?_ _)); exact BK319.out) hb)
                    have n3_ := Az.mk (below_step (by repeat (first | (with_reducible first | exact HB.out | apply zq2 | apply zq1 | apply zqd | refine zq3 ?_ GE319.out) | exact HB.out)) hb)
                    clear HO329
                    clear BK319
                    clear HB
                    have HO329 := n0_
                    have HO323 := n1_
                    have BK319 := n2_
                    have HB := n3_
                    clear n0_ n1_ n2_ n3_
                    clear hb ho13
                    refine hK.out _ _ trivial (fun hHeld => ?_)
                    clear hK K
                    refine norm_ (a' := ?_) ?_ ?_
                    rotate_left
                    ·show Act.put _ (some 8) _ = _
                     simp only [Act.put, List.setIfInBounds_toArray, List.set_cons_zero, List.set_cons_succ, i64_w, i32_w]
                     rfl
                    exact norm_ (by first | (simp only [putAll, Act.put, List.setIfInBounds_toArray, List.set_cons_zero, List.set_cons_succ]; done) | (simp only [putAll, Act.put, List.setIfInBounds_toArray, List.set_cons_zero, List.set_cons_succ]; rfl)) (hJ1_3 (v322, v328) _ ⟨(by (with_reducible repeat (first | apply Kd.R_alloc | apply Kd.R_drewN | apply Kd.R_drew)); exact HO323.out), (by (with_reducible repeat (first | apply Kd.R_alloc | apply Kd.R_drewN | apply Kd.R_drew)); exact HO329.out), (by (with_reducible repeat (first | refine zq6 ?_ _ | refine zq8 ?_ | refine zq7 ?_ _)); exact BK319.out), (by repeat (first | (with_reducible first | exact HB.out | apply zq2 | apply zq1 | apply zqd | refine zq3 ?_ GE319.out) | exact HB.out))⟩)
                   ·skip
                    refine Kd.R_make_step Kd.string _ 9 (by rfl) (N := 9) rfl 24 _ _ rfl 2 rfl rfl Try.underlying24 (.string ⟨#[]⟩) 16 info9 rfl (by decide) (by omega) (⟨#[]⟩ : ByteArray) (ok := fun _ => True) (okp := fun _ => True) rfl (fun _ hk => hk) trivial (by omega) (by omega) (Below.refl _ _) (Nat.le_refl _) ?_
                    intro v325 w12 ho13 hb hg_ hnew_
                    clear hg_ hnew_
                    (first | rw [← Ny324.out] at ho13 | (simp only [Int.reduceToNat] at ho13; rw [← Ny324.out] at ho13))
                    have n0_ := Az.mk (Kd.R_below (by (with_reducible repeat (first | apply Kd.R_alloc | apply Kd.R_drewN | apply Kd.R_drew)); exact HO329.out) hb)
                    have n1_ := Az.mk (Kd.R_lower ho13 (below_size (by repeat (first | (with_reducible first | exact HB.out | apply zq2 | apply zq1 | apply zqd | refine zq3 ?_ GE319.out) | exact HB.out))))
                    have n2_ := Az.mk (blk_below (g := gb319) (o := .cells #[.int .i64 0, .slice none 0 0, .slice none 0 0, .slice none 0 0, .slice none 0 0] 28 (0, 0)) (by (with_reducible repeat (first | refine zq6 ?_ _ | refine zq8 ?_ | refine zq7 ?_ _)); exact BK319.out) hb)
                    have n3_ := Az.mk (below_step (by repeat (first | (with_reducible first | exact HB.out | apply zq2 | apply zq1 | apply zqd | refine zq3 ?_ GE319.out) | exact HB.out)) hb)
                    clear HO329
                    clear BK319
                    clear HB
                    have HO329 := n0_
                    have HO326 := n1_
                    have BK319 := n2_
                    have HB := n3_
                    clear n0_ n1_ n2_ n3_
                    clear hb ho13
                    refine hK.out _ _ trivial (fun hHeld => ?_)
                    clear hK K
                    refine norm_ (a' := ?_) ?_ ?_
                    rotate_left
                    ·show Act.put _ (some 9) _ = _
                     simp only [Act.put, List.setIfInBounds_toArray, List.set_cons_zero, List.set_cons_succ, i64_w, i32_w]
                     rfl
                    exact norm_ (by first | (simp only [putAll, Act.put, List.setIfInBounds_toArray, List.set_cons_zero, List.set_cons_succ]; done) | (simp only [putAll, Act.put, List.setIfInBounds_toArray, List.set_cons_zero, List.set_cons_succ]; rfl)) (hJ2_3 (v325, v328) _ ⟨(by (with_reducible repeat (first | apply Kd.R_alloc | apply Kd.R_drewN | apply Kd.R_drew)); exact HO326.out), (by (with_reducible repeat (first | apply Kd.R_alloc | apply Kd.R_drewN | apply Kd.R_drew)); exact HO329.out), (by (with_reducible repeat (first | refine zq6 ?_ _ | refine zq8 ?_ | refine zq7 ?_ _)); exact BK319.out), (by repeat (first | (with_reducible first | exact HB.out | apply zq2 | apply zq1 | apply zqd | refine zq3 ?_ GE319.out) | exact HB.out))⟩)
                   ·skip
                    refine Kd.R_lit_step k54 _ 54 ?hg (N := 11) ?hd (xs := ([] : List (S54))) (inner := []) (ok := fun _ => True) (okp := fun _ => True) ?hr ?hp (fun _ hk => hk) trivial (Below.refl _ _) (Nat.le_refl _) (by simp) ?_; (case hd => rfl); (case hg => rfl); (case hr => first | (go_simp; done) | (go_simp; rfl)); (case hp => exact (Reps.none _ _))
                    intro v331 w12 ho13 hb hg_ hnew_
                    clear hg_ hnew_
                    (first | rw [← Ny330.out] at ho13 | (simp only [Int.reduceToNat] at ho13; rw [← Ny330.out] at ho13))
                    have n0_ := Az.mk (Kd.R_below (by (with_reducible repeat (first | apply Kd.R_alloc | apply Kd.R_drewN | apply Kd.R_drew)); exact HO329.out) hb)
                    have n1_ := Az.mk (Kd.R_lower ho13 (below_size (by repeat (first | (with_reducible first | exact HB.out | apply zq2 | apply zq1 | apply zqd | refine zq3 ?_ GE319.out) | exact HB.out))))
                    have n2_ := Az.mk (blk_below (g := gb319) (o := .cells #[.int .i64 0, .slice none 0 0, .slice none 0 0, .slice none 0 0, .slice none 0 0] 28 (0, 0)) (by (with_reducible repeat (first | refine zq6 ?_ _ | refine zq8 ?_ | refine zq7 ?_ _)); exact BK319.out) hb)
                    have n3_ := Az.mk (below_step (by repeat (first | (with_reducible first | exact HB.out | apply zq2 | apply zq1 | apply zqd | refine zq3 ?_ GE319.out) | exact HB.out)) hb)
                    clear HO329
                    clear BK319
                    clear HB
                    have HO329 := n0_
                    have HO332 := n1_
                    have BK319 := n2_
                    have HB := n3_
                    clear n0_ n1_ n2_ n3_
                    clear hb ho13
                    refine hK.out _ _ trivial (fun hHeld => ?_)
                    clear hK K
                    refine norm_ (a' := ?_) ?_ ?_
                    rotate_left
                    ·show Act.put _ (some 11) _ = _
                     simp only [Act.put, List.setIfInBounds_toArray, List.set_cons_zero, List.set_cons_succ, i64_w, i32_w]
                     rfl
                    exact norm_ (by first | (simp only [putAll, Act.put, List.setIfInBounds_toArray, List.set_cons_zero, List.set_cons_succ]; done) | (simp only [putAll, Act.put, List.setIfInBounds_toArray, List.set_cons_zero, List.set_cons_succ]; rfl)) (hJ3_4 (v328, v331) _ ⟨(by (with_reducible repeat (first | apply Kd.R_alloc | apply Kd.R_drewN | apply Kd.R_drew)); exact HO329.out), (by (with_reducible repeat (first | apply Kd.R_alloc | apply Kd.R_drewN | apply Kd.R_drew)); exact HO332.out), (by (with_reducible repeat (first | refine zq6 ?_ _ | refine zq8 ?_ | refine zq7 ?_ _)); exact BK319.out), (by repeat (first | (with_reducible first | exact HB.out | apply zq2 | apply zq1 | apply zqd | refine zq3 ?_ GE319.out) | exact HB.out))⟩)
                 ·skip
                  rintro v325 w11 ⟨h0_, h1_, h2_⟩
                  have n0_ : Az (Kd.R Kd.string 9 w11 w.heap.size (fun _ => True) v325 y324) := ⟨h0_⟩
                  have n1_ : Az (w11.heap[gb319]? = some (.cells #[.int .i64 0, .slice none 0 0, .slice none 0 0, .slice none 0 0, .slice none 0 0] 28 (0, 0))) := ⟨h1_⟩
                  have n2_ : Az (Below w.heap.size w w11) := ⟨h2_⟩
                  clear BK319
                  clear HB
                  clear h0_ h1_ h2_
                  have HO326 := n0_
                  have BK319 := n1_
                  have HB := n2_
                  clear n0_ n1_ n2_
                  have hHeld := trivial
                  refine norm_ (a' := ?_) ?_ ?_
                  rotate_left
                  ·simp only [putAll, Act.put, List.setIfInBounds_toArray, List.set_cons_zero, List.set_cons_succ]
                   rfl
                  refine three_ (i := 1) (j := 3) (k := 4) (Ni := some 8) (Nj := some 10) (Nk := some 11) #[true, true, true, false, false, false, false] #[true, false, true, true, false, false, false] #[true, false, true, false, true, false, false] rfl rfl rfl rfl rfl rfl (by kernel_rfl) (by decide) (by decide) (by decide) (fun K hK => ?_) (fun K hK => ?_) (fun K hK => ?_)
                  ·skip
                   refine Kd.R_make_step Kd.string _ 9 (by rfl) (N := 8) rfl 24 _ _ rfl 12 rfl rfl Try.underlying24 (.string ⟨#[]⟩) 16 info9 rfl (by decide) (by omega) (⟨#[]⟩ : ByteArray) (ok := fun _ => True) (okp := fun _ => True) rfl (fun _ hk => hk) trivial (by omega) (by omega) (Below.refl _ _) (Nat.le_refl _) ?_
                   intro v322 w12 ho13 hb hg_ hnew_
                   clear hg_ hnew_
                   (first | rw [← Ny321.out] at ho13 | (simp only [Int.reduceToNat] at ho13; rw [← Ny321.out] at ho13))
                   have n0_ := Az.mk (Kd.R_elder' (by (with_reducible repeat (first | apply Kd.R_alloc | apply Kd.R_drewN | apply Kd.R_drew)); exact HO326.out) (Kd.R_base ho13) hb)
                   have n1_ := Az.mk (Kd.R_lower (Kd.R_new' ho13 (Kd.R_lt (by (with_reducible repeat (first | apply Kd.R_alloc | apply Kd.R_drewN | apply Kd.R_drew)); exact HO326.out))) (below_size (by repeat (first | (with_reducible first | exact HB.out | apply zq2 | apply zq1 | apply zqd | refine zq3 ?_ GE319.out) | exact HB.out))))
                   have n2_ := Az.mk (blk_below (g := gb319) (o := .cells #[.int .i64 0, .slice none 0 0, .slice none 0 0, .slice none 0 0, .slice none 0 0] 28 (0, 0)) (by (with_reducible repeat (first | refine zq6 ?_ _ | refine zq8 ?_ | refine zq7 ?_ _)); exact BK319.out) hb)
                   have n3_ := Az.mk (below_step (by repeat (first | (with_reducible first | exact HB.out | apply zq2 | apply zq1 | apply zqd | refine zq3 ?_ GE319.out) | exact HB.out)) hb)
                   clear HO326
                   clear BK319
                   clear HB
                   have HO326 := n0_
                   have HO323 := n1_
                   have BK319 := n2_
                   have HB := n3_
                   clear n0_ n1_ n2_ n3_
                   clear hb ho13
                   refine hK.out _ _ trivial (fun hHeld => ?_)
                   clear hK K
                   refine norm_ (a' := ?_) ?_ ?_
                   rotate_left
                   ·show Act.put _ (some 8) _ = _
                    simp only [Act.put, List.setIfInBounds_toArray, List.set_cons_zero, List.set_cons_succ, i64_w, i32_w]
                    rfl
                   exact norm_ (by first | (simp only [putAll, Act.put, List.setIfInBounds_toArray, List.set_cons_zero, List.set_cons_succ]; done) | (simp only [putAll, Act.put, List.setIfInBounds_toArray, List.set_cons_zero, List.set_cons_succ]; rfl)) (hJ1_2 (v322, v325) _ ⟨(by (with_reducible repeat (first | apply Kd.R_alloc | apply Kd.R_drewN | apply Kd.R_drew)); exact Kd.R_mono HO323.out (fun _ hk => hk.2)), (by (with_reducible repeat (first | apply Kd.R_alloc | apply Kd.R_drewN | apply Kd.R_drew)); exact Kd.R_mono HO326.out (fun _ hk => hk.2)), (by (with_reducible repeat (first | refine zq6 ?_ _ | refine zq8 ?_ | refine zq7 ?_ _)); exact BK319.out), (by repeat (first | (with_reducible first | exact HB.out | apply zq2 | apply zq1 | apply zqd | refine zq3 ?_ GE319.out) | exact HB.out))⟩)
                  ·skip
                   refine Kd.R_make_step Kd.bool _ 4 (by rfl) (N := 10) rfl 25 _ _ rfl 12 rfl rfl Try.underlying25 (.bool false) 1 info4 rfl (by decide) (by omega) false (ok := fun _ => True) (okp := fun _ => True) rfl (fun _ hk => hk) trivial (by omega) (by omega) (Below.refl _ _) (Nat.le_refl _) ?_
                   intro v328 w12 ho13 hb hg_ hnew_
                   clear hg_ hnew_
                   (first | rw [← Ny327.out] at ho13 | (simp only [Int.reduceToNat] at ho13; rw [← Ny327.out] at ho13))
                   have n0_ := Az.mk (Kd.R_below (by (with_reducible repeat (first | apply Kd.R_alloc | apply Kd.R_drewN | apply Kd.R_drew)); exact HO326.out) hb)
                   have n1_ := Az.mk (Kd.R_lower ho13 (below_size (by repeat (first | (with_reducible first | exact HB.out | apply zq2 | apply zq1 | apply zqd | refine zq3 ?_ GE319.out) | exact HB.out))))
                   have n2_ := Az.mk (blk_below (g := gb319) (o := .cells #[.int .i64 0, .slice none 0 0, .slice none 0 0, .slice none 0 0, .slice none 0 0] 28 (0, 0)) (by (with_reducible repeat (first | refine zq6 ?_ _ | refine zq8 ?_ | refine zq7 ?_ _)); exact BK319.out) hb)
                   have n3_ := Az.mk (below_step (by repeat (first | (with_reducible first | exact HB.out | apply zq2 | apply zq1 | apply zqd | refine zq3 ?_ GE319.out) | exact HB.out)) hb)
                   clear HO326
                   clear BK319
                   clear HB
                   have HO326 := n0_
                   have HO329 := n1_
                   have BK319 := n2_
                   have HB := n3_
                   clear n0_ n1_ n2_ n3_
                   clear hb ho13
                   refine hK.out _ _ trivial (fun hHeld => ?_)
                   clear hK K
                   refine norm_ (a' := ?_) ?_ ?_
                   rotate_left
                   ·show Act.put _ (some 10) _ = _
                    simp only [Act.put, List.setIfInBounds_toArray, List.set_cons_zero, List.set_cons_succ, i64_w, i32_w]
                    rfl
                   exact norm_ (by first | (simp only [putAll, Act.put, List.setIfInBounds_toArray, List.set_cons_zero, List.set_cons_succ]; done) | (simp only [putAll, Act.put, List.setIfInBounds_toArray, List.set_cons_zero, List.set_cons_succ]; rfl)) (hJ2_3 (v325, v328) _ ⟨(by (with_reducible repeat (first | apply Kd.R_alloc | apply Kd.R_drewN | apply Kd.R_drew)); exact HO326.out), (by (with_reducible repeat (first | apply Kd.R_alloc | apply Kd.R_drewN | apply Kd.R_drew)); exact HO329.out), (by (with_reducible repeat (first | refine zq6 ?_ _ | refine zq8 ?_ | refine zq7 ?_ _)); exact BK319.out), (by repeat (first | (with_reducible first | exact HB.out | apply zq2 | apply zq1 | apply zqd | refine zq3 ?_ GE319.out) | exact HB.out))⟩)
                  ·skip
                   refine Kd.R_lit_step k54 _ 54 ?hg (N := 11) ?hd (xs := ([] : List (S54))) (inner := []) (ok := fun _ => True) (okp := fun _ => True) ?hr ?hp (fun _ hk => hk) trivial (Below.refl _ _) (Nat.le_refl _) (by simp) ?_; (case hd => rfl); (case hg => rfl); (case hr => first | (go_simp; done) | (go_simp; rfl)); (case hp => exact (Reps.none _ _))
                   intro v331 w12 ho13 hb hg_ hnew_
                   clear hg_ hnew_
                   (first | rw [← Ny330.out] at ho13 | (simp only [Int.reduceToNat] at ho13; rw [← Ny330.out] at ho13))
                   have n0_ := Az.mk (Kd.R_below (by (with_reducible repeat (first | apply Kd.R_alloc | apply Kd.R_drewN | apply Kd.R_drew)); exact HO326.out) hb)
                   have n1_ := Az.mk (Kd.R_lower ho13 (below_size (by repeat (first | (with_reducible first | exact HB.out | apply zq2 | apply zq1 | apply zqd | refine zq3 ?_ GE319.out) | exact HB.out))))
                   have n2_ := Az.mk (blk_below (g := gb319) (o := .cells #[.int .i64 0, .slice none 0 0, .slice none 0 0, .slice none 0 0, .slice none 0 0] 28 (0, 0)) (by (with_reducible repeat (first | refine zq6 ?_ _ | refine zq8 ?_ | refine zq7 ?_ _)); exact BK319.out) hb)
                   have n3_ := Az.mk (below_step (by repeat (first | (with_reducible first | exact HB.out | apply zq2 | apply zq1 | apply zqd | refine zq3 ?_ GE319.out) | exact HB.out)) hb)
                   clear HO326
                   clear BK319
                   clear HB
                   have HO326 := n0_
                   have HO332 := n1_
                   have BK319 := n2_
                   have HB := n3_
                   clear n0_ n1_ n2_ n3_
                   clear hb ho13
                   refine hK.out _ _ trivial (fun hHeld => ?_)
                   clear hK K
                   refine norm_ (a' := ?_) ?_ ?_
                   rotate_left
                   ·show Act.put _ (some 11) _ = _
                    simp only [Act.put, List.setIfInBounds_toArray, List.set_cons_zero, List.set_cons_succ, i64_w, i32_w]
                    rfl
                   exact norm_ (by first | (simp only [putAll, Act.put, List.setIfInBounds_toArray, List.set_cons_zero, List.set_cons_succ]; done) | (simp only [putAll, Act.put, List.setIfInBounds_toArray, List.set_cons_zero, List.set_cons_succ]; rfl)) (hJ2_4 (v325, v331) _ ⟨(by (with_reducible repeat (first | apply Kd.R_alloc | apply Kd.R_drewN | apply Kd.R_drew)); exact HO326.out), (by (with_reducible repeat (first | apply Kd.R_alloc | apply Kd.R_drewN | apply Kd.R_drew)); exact HO332.out), (by (with_reducible repeat (first | refine zq6 ?_ _ | refine zq8 ?_ | refine zq7 ?_ _)); exact BK319.out), (by repeat (first | (with_reducible first | exact HB.out | apply zq2 | apply zq1 | apply zqd | refine zq3 ?_ GE319.out) | exact HB.out))⟩)
                ·skip
                 rintro v322 w11 ⟨h0_, h1_, h2_⟩
                 have n0_ : Az (Kd.R Kd.string 9 w11 w.heap.size (fun _ => True) v322 y321) := ⟨h0_⟩
                 have n1_ : Az (w11.heap[gb319]? = some (.cells #[.int .i64 0, .slice none 0 0, .slice none 0 0, .slice none 0 0, .slice none 0 0] 28 (0, 0))) := ⟨h1_⟩
                 have n2_ : Az (Below w.heap.size w w11) := ⟨h2_⟩
                 clear BK319
                 clear HB
                 clear h0_ h1_ h2_
                 have HO323 := n0_
                 have BK319 := n1_
                 have HB := n2_
                 clear n0_ n1_ n2_
                 have hHeld := trivial
                 refine norm_ (a' := ?_) ?_ ?_
                 rotate_left
                 ·simp only [putAll, Act.put, List.setIfInBounds_toArray, List.set_cons_zero, List.set_cons_succ]
                  rfl
                 refine three_ (i := 2) (j := 3) (k := 4) (Ni := some 9) (Nj := some 10) (Nk := some 11) #[true, true, true, false, false, false, false] #[true, true, false, true, false, false, false] #[true, true, false, false, true, false, false] rfl rfl rfl rfl rfl rfl (by kernel_rfl) (by decide) (by decide) (by decide) (fun K hK => ?_) (fun K hK => ?_) (fun K hK => ?_)
                 ·skip
                  refine Kd.R_make_step Kd.string _ 9 (by rfl) (N := 9) rfl 24 _ _ rfl 2 rfl rfl Try.underlying24 (.string ⟨#[]⟩) 16 info9 rfl (by decide) (by omega) (⟨#[]⟩ : ByteArray) (ok := fun _ => True) (okp := fun _ => True) rfl (fun _ hk => hk) trivial (by omega) (by omega) (Below.refl _ _) (Nat.le_refl _) ?_
                  intro v325 w12 ho13 hb hg_ hnew_
                  clear hg_ hnew_
                  (first | rw [← Ny324.out] at ho13 | (simp only [Int.reduceToNat] at ho13; rw [← Ny324.out] at ho13))
                  have n0_ := Az.mk (Kd.R_elder' (by (with_reducible repeat (first | apply Kd.R_alloc | apply Kd.R_drewN | apply Kd.R_drew)); exact HO323.out) (Kd.R_base ho13) hb)
                  have n1_ := Az.mk (Kd.R_lower (Kd.R_new' ho13 (Kd.R_lt (by (with_reducible repeat (first | apply Kd.R_alloc | apply Kd.R_drewN | apply Kd.R_drew)); exact HO323.out))) (below_size (by repeat (first | (with_reducible first | exact HB.out | apply zq2 | apply zq1 | apply zqd | refine zq3 ?_ GE319.out) | exact HB.out))))
                  have n2_ := Az.mk (blk_below (g := gb319) (o := .cells #[.int .i64 0, .slice none 0 0, .slice none 0 0, .slice none 0 0, .slice none 0 0] 28 (0, 0)) (by (with_reducible repeat (first | refine zq6 ?_ _ | refine zq8 ?_ | refine zq7 ?_ _)); exact BK319.out) hb)
                  have n3_ := Az.mk (below_step (by repeat (first | (with_reducible first | exact HB.out | apply zq2 | apply zq1 | apply zqd | refine zq3 ?_ GE319.out) | exact HB.out)) hb)
                  clear HO323
                  clear BK319
                  clear HB
                  have HO323 := n0_
                  have HO326 := n1_
                  have BK319 := n2_
                  have HB := n3_
                  clear n0_ n1_ n2_ n3_
                  clear hb ho13
                  refine hK.out _ _ trivial (fun hHeld => ?_)
                  clear hK K
                  refine norm_ (a' := ?_) ?_ ?_
                  rotate_left
                  ·show Act.put _ (some 9) _ = _
                   simp only [Act.put, List.setIfInBounds_toArray, List.set_cons_zero, List.set_cons_succ, i64_w, i32_w]
                   rfl
                  exact norm_ (by first | (simp only [putAll, Act.put, List.setIfInBounds_toArray, List.set_cons_zero, List.set_cons_succ]; done) | (simp only [putAll, Act.put, List.setIfInBounds_toArray, List.set_cons_zero, List.set_cons_succ]; rfl)) (hJ1_2 (v322, v325) _ ⟨(by (with_reducible repeat (first | apply Kd.R_alloc | apply Kd.R_drewN | apply Kd.R_drew)); exact Kd.R_mono HO323.out (fun _ hk => hk.2)), (by (with_reducible repeat (first | apply Kd.R_alloc | apply Kd.R_drewN | apply Kd.R_drew)); exact Kd.R_mono HO326.out (fun _ hk => hk.2)), (by (with_reducible repeat (first | refine zq6 ?_ _ | refine zq8 ?_ | refine zq7 ?_ _)); exact BK319.out), (by repeat (first | (with_reducible first | exact HB.out | apply zq2 | apply zq1 | apply zqd | refine zq3 ?_ GE319.out) | exact HB.out))⟩)
                 ·skip
                  refine Kd.R_make_step Kd.bool _ 4 (by rfl) (N := 10) rfl 25 _ _ rfl 12 rfl rfl Try.underlying25 (.bool false) 1 info4 rfl (by decide) (by omega) false (ok := fun _ => True) (okp := fun _ => True) rfl (fun _ hk => hk) trivial (by omega) (by omega) (Below.refl _ _) (Nat.le_refl _) ?_
                  intro v328 w12 ho13 hb hg_ hnew_
                  clear hg_ hnew_
                  (first | rw [← Ny327.out] at ho13 | (simp only [Int.reduceToNat] at ho13; rw [← Ny327.out] at ho13))
                  have n0_ := Az.mk (Kd.R_below (by (with_reducible repeat (first | apply Kd.R_alloc | apply Kd.R_drewN | apply Kd.R_drew)); exact HO323.out) hb)
                  have n1_ := Az.mk (Kd.R_lower ho13 (below_size (by repeat (first | (with_reducible first | exact HB.out | apply zq2 | apply zq1 | apply zqd | refine zq3 ?_ GE319.out) | exact HB.out))))
                  have n2_ := Az.mk (blk_below (g := gb319) (o := .cells #[.int .i64 0, .slice none 0 0, .slice none 0 0, .slice none 0 0, .slice none 0 0] 28 (0, 0)) (by (with_reducible repeat (first | refine zq6 ?_ _ | refine zq8 ?_ | refine zq7 ?_ _)); exact BK319.out) hb)
                  have n3_ := Az.mk (below_step (by repeat (first | (with_reducible first | exact HB.out | apply zq2 | apply zq1 | apply zqd | refine zq3 ?_ GE319.out) | exact HB.out)) hb)
                  clear HO323
                  clear BK319
                  clear HB
                  have HO323 := n0_
                  have HO329 := n1_
                  have BK319 := n2_
                  have HB := n3_
                  clear n0_ n1_ n2_ n3_
                  clear hb ho13
                  refine hK.out _ _ trivial (fun hHeld => ?_)
                  clear hK K
                  refine norm_ (a' := ?_) ?_ ?_
                  rotate_left
                  ·show Act.put _ (some 10) _ = _
                   simp only [Act.put, List.setIfInBounds_toArray, List.set_cons_zero, List.set_cons_succ, i64_w, i32_w]
                   rfl
                  exact norm_ (by first | (simp only [putAll, Act.put, List.setIfInBounds_toArray, List.set_cons_zero, List.set_cons_succ]; done) | (simp only [putAll, Act.put, List.setIfInBounds_toArray, List.set_cons_zero, List.set_cons_succ]; rfl)) (hJ1_3 (v322, v328) _ ⟨(by (with_reducible repeat (first | apply Kd.R_alloc | apply Kd.R_drewN | apply Kd.R_drew)); exact HO323.out), (by (with_reducible repeat (first | apply Kd.R_alloc | apply Kd.R_drewN | apply Kd.R_drew)); exact HO329.out), (by (with_reducible repeat (first | refine zq6 ?_ _ | refine zq8 ?_ | refine zq7 ?_ _)); exact BK319.out), (by repeat (first | (with_reducible first | exact HB.out | apply zq2 | apply zq1 | apply zqd | refine zq3 ?_ GE319.out) | exact HB.out))⟩)
                 ·skip
                  refine Kd.R_lit_step k54 _ 54 ?hg (N := 11) ?hd (xs := ([] : List (S54))) (inner := []) (ok := fun _ => True) (okp := fun _ => True) ?hr ?hp (fun _ hk => hk) trivial (Below.refl _ _) (Nat.le_refl _) (by simp) ?_; (case hd => rfl); (case hg => rfl); (case hr => first | (go_simp; done) | (go_simp; rfl)); (case hp => exact (Reps.none _ _))
                  intro v331 w12 ho13 hb hg_ hnew_
                  clear hg_ hnew_
                  (first | rw [← Ny330.out] at ho13 | (simp only [Int.reduceToNat] at ho13; rw [← Ny330.out] at ho13))
                  have n0_ := Az.mk (Kd.R_below (by (with_reducible repeat (first | apply Kd.R_alloc | apply Kd.R_drewN | apply Kd.R_drew)); exact HO323.out) hb)
                  have n1_ := Az.mk (Kd.R_lower ho13 (below_size (by repeat (first | (with_reducible first | exact HB.out | apply zq2 | apply zq1 | apply zqd | refine zq3 ?_ GE319.out) | exact HB.out))))
                  have n2_ := Az.mk (blk_below (g := gb319) (o := .cells #[.int .i64 0, .slice none 0 0, .slice none 0 0, .slice none 0 0, .slice none 0 0] 28 (0, 0)) (by (with_reducible repeat (first | refine zq6 ?_ _ | refine zq8 ?_ | refine zq7 ?_ _)); exact BK319.out) hb)
                  have n3_ := Az.mk (below_step (by repeat (first | (with_reducible first | exact HB.out | apply zq2 | apply zq1 | apply zqd | refine zq3 ?_ GE319.out) | exact HB.out)) hb)
                  clear HO323
                  clear BK319
                  clear HB
                  have HO323 := n0_
                  have HO332 := n1_
                  have BK319 := n2_
                  have HB := n3_
                  clear n0_ n1_ n2_ n3_
                  clear hb ho13
                  refine hK.out _ _ trivial (fun hHeld => ?_)
                  clear hK K
                  refine norm_ (a' := ?_) ?_ ?_
                  rotate_left
                  ·show Act.put _ (some 11) _ = _
                   simp only [Act.put, List.setIfInBounds_toArray, List.set_cons_zero, List.set_cons_succ, i64_w, i32_w]
                   rfl
                  exact norm_ (by first | (simp only [putAll, Act.put, List.setIfInBounds_toArray, List.set_cons_zero, List.set_cons_succ]; done) | (simp only [putAll, Act.put, List.setIfInBounds_toArray, List.set_cons_zero, List.set_cons_succ]; rfl)) (hJ1_4 (v322, v331) _ ⟨(by (with_reducible repeat (first | apply Kd.R_alloc | apply Kd.R_drewN | apply Kd.R_drew)); exact HO323.out), (by (with_reducible repeat (first | apply Kd.R_alloc | apply Kd.R_drewN | apply Kd.R_drew)); exact HO332.out), (by (with_reducible repeat (first | refine zq6 ?_ _ | refine zq8 ?_ | refine zq7 ?_ _)); exact BK319.out), (by repeat (first | (with_reducible first | exact HB.out | apply zq2 | apply zq1 | apply zqd | refine zq3 ?_ GE319.out) | exact HB.out))⟩)
               ·skip
                rintro ⟨v328, v331⟩ w13 ⟨h0_, h1_, h2_, h3_⟩
                have n0_ : Az (Kd.R Kd.bool 4 w13 w.heap.size (fun _ => True) v328 y327) := ⟨h0_⟩
                have n1_ : Az (Kd.R k54 54 w13 w.heap.size (fun _ => True) v331 y330) := ⟨h1_⟩
                have n2_ : Az (w13.heap[gb319]? = some (.cells #[.int .i64 0, .slice none 0 0, .slice none 0 0, .slice none 0 0, .slice none 0 0] 28 (0, 0))) := ⟨h2_⟩
                have n3_ : Az (Below w.heap.size w w13) := ⟨h3_⟩
                clear BK319
                clear HB
                clear h0_ h1_ h2_ h3_
                have HO329 := n0_
                have HO332 := n1_
                have BK319 := n2_
                have HB := n3_
                clear n0_ n1_ n2_ n3_
                have hHeld := trivial
                refine norm_ (a' := ?_) ?_ ?_
                rotate_left
                ·simp only [putAll, Act.put, List.setIfInBounds_toArray, List.set_cons_zero, List.set_cons_succ]
                 rfl
                refine two_ (i := 1) (j := 2) (Ni := some 8) (Nj := some 9) #[true, true, false, true, true, false, false] #[true, false, true, true, true, false, false] rfl rfl rfl rfl (by kernel_rfl) (by decide) (by decide) (fun K hK => ?_) (fun K hK => ?_)
                ·skip
                 refine Kd.R_make_step Kd.string _ 9 (by rfl) (N := 8) rfl 24 _ _ rfl 12 rfl rfl Try.underlying24 (.string ⟨#[]⟩) 16 info9 rfl (by decide) (by omega) (⟨#[]⟩ : ByteArray) (ok := fun _ => True) (okp := fun _ => True) rfl (fun _ hk => hk) trivial (by omega) (by omega) (Below.refl _ _) (Nat.le_refl _) ?_
                 intro v322 w14 ho15 hb hg_ hnew_
                 clear hg_ hnew_
                 (first | rw [← Ny321.out] at ho15 | (simp only [Int.reduceToNat] at ho15; rw [← Ny321.out] at ho15))
                 have n0_ := Az.mk (Kd.R_below (by (with_reducible repeat (first | apply Kd.R_alloc | apply Kd.R_drewN | apply Kd.R_drew)); exact HO329.out) hb)
                 have n1_ := Az.mk (Kd.R_below (by (with_reducible repeat (first | apply Kd.R_alloc | apply Kd.R_drewN | apply Kd.R_drew)); exact HO332.out) hb)
                 have n2_ := Az.mk (Kd.R_lower ho15 (below_size (by repeat (first | (with_reducible first | exact HB.out | apply zq2 | apply zq1 | apply zqd | refine zq3 ?_ GE319.out) | exact HB.out))))
                 have n3_ := Az.mk (blk_below (g := gb319) (o := .cells #[.int .i64 0, .slice none 0 0, .slice none 0 0, .slice none 0 0, .slice none 0 0] 28 (0, 0)) (by (with_reducible repeat (first | refine zq6 ?_ _ | refine zq8 ?_ | refine zq7 ?_ _)); exact BK319.out) hb)
                 have n4_ := Az.mk (below_step (by repeat (first | (with_reducible first | exact HB.out | apply zq2 | apply zq1 | apply zqd | refine zq3 ?_ GE319.out) | exact HB.out)) hb)
                 clear HO329
                 clear HO332
                 clear BK319
                 clear HB
                 have HO329 := n0_
                 have HO332 := n1_
                 have HO323 := n2_
                 have BK319 := n3_
                 have HB := n4_
                 clear n0_ n1_ n2_ n3_ n4_
                 clear hb ho15
                 refine hK.out _ _ trivial (fun hHeld => ?_)
                 clear hK K
                 refine norm_ (a' := ?_) ?_ ?_
                 rotate_left
                 ·show Act.put _ (some 8) _ = _
                  simp only [Act.put, List.setIfInBounds_toArray, List.set_cons_zero, List.set_cons_succ, i64_w, i32_w]
                  rfl
                 exact norm_ (by first | (simp only [putAll, Act.put, List.setIfInBounds_toArray, List.set_cons_zero, List.set_cons_succ]; done) | (simp only [putAll, Act.put, List.setIfInBounds_toArray, List.set_cons_zero, List.set_cons_succ]; rfl)) (hJ1_3_4 (v322, v328, v331) _ ⟨(by (with_reducible repeat (first | apply Kd.R_alloc | apply Kd.R_drewN | apply Kd.R_drew)); exact HO323.out), (by (with_reducible repeat (first | apply Kd.R_alloc | apply Kd.R_drewN | apply Kd.R_drew)); exact HO329.out), (by (with_reducible repeat (first | apply Kd.R_alloc | apply Kd.R_drewN | apply Kd.R_drew)); exact HO332.out), (by (with_reducible repeat (first | refine zq6 ?_ _ | refine zq8 ?_ | refine zq7 ?_ _)); exact BK319.out), (by repeat (first | (with_reducible first | exact HB.out | apply zq2 | apply zq1 | apply zqd | refine zq3 ?_ GE319.out) | exact HB.out))⟩)
                ·skip
                 refine Kd.R_make_step Kd.string _ 9 (by rfl) (N := 9) rfl 24 _ _ rfl 2 rfl rfl Try.underlying24 (.string ⟨#[]⟩) 16 info9 rfl (by decide) (by omega) (⟨#[]⟩ : ByteArray) (ok := fun _ => True) (okp := fun _ => True) rfl (fun _ hk => hk) trivial (by omega) (by omega) (Below.refl _ _) (Nat.le_refl _) ?_
                 intro v325 w14 ho15 hb hg_ hnew_
                 clear hg_ hnew_
                 (first | rw [← Ny324.out] at ho15 | (simp only [Int.reduceToNat] at ho15; rw [← Ny324.out] at ho15))
                 have n0_ := Az.mk (Kd.R_below (by (with_reducible repeat (first | apply Kd.R_alloc | apply Kd.R_drewN | apply Kd.R_drew)); exact HO329.out) hb)
                 have n1_ := Az.mk (Kd.R_below (by (with_reducible repeat (first | apply Kd.R_alloc | apply Kd.R_drewN | apply Kd.R_drew)); exact HO332.out) hb)
                 have n2_ := Az.mk (Kd.R_lower ho15 (below_size (by repeat (first | (with_reducible first | exact HB.out | apply zq2 | apply zq1 | apply zqd | refine zq3 ?_ GE319.out) | exact HB.out))))
                 have n3_ := Az.mk (blk_below (g := gb319) (o := .cells #[.int .i64 0, .slice none 0 0, .slice none 0 0, .slice none 0 0, .slice none 0 0] 28 (0, 0)) (by (with_reducible repeat (first | refine zq6 ?_ _ | refine zq8 ?_ | refine zq7 ?_ _)); exact BK319.out) hb)
                 have n4_ := Az.mk (below_step (by repeat (first | (with_reducible first | exact HB.out | apply zq2 | apply zq1 | apply zqd | refine zq3 ?_ GE319.out) | exact HB.out)) hb)
                 clear HO329
                 clear HO332
                 clear BK319
                 clear HB
                 have HO329 := n0_
                 have HO332 := n1_
                 have HO326 := n2_
                 have BK319 := n3_
                 have HB := n4_
                 clear n0_ n1_ n2_ n3_ n4_
                 clear hb ho15
                 refine hK.out _ _ trivial (fun hHeld => ?_)
                 clear hK K
                 refine norm_ (a' := ?_) ?_ ?_
                 rotate_left
                 ·show Act.put _ (some 9) _ = _
                  simp only [Act.put, List.setIfInBounds_toArray, List.set_cons_zero, List.set_cons_succ, i64_w, i32_w]
                  rfl
                 exact norm_ (by first | (simp only [putAll, Act.put, List.setIfInBounds_toArray, List.set_cons_zero, List.set_cons_succ]; done) | (simp only [putAll, Act.put, List.setIfInBounds_toArray, List.set_cons_zero, List.set_cons_succ]; rfl)) (hJ2_3_4 (v325, v328, v331) _ ⟨(by (with_reducible repeat (first | apply Kd.R_alloc | apply Kd.R_drewN | apply Kd.R_drew)); exact HO326.out), (by (with_reducible repeat (first | apply Kd.R_alloc | apply Kd.R_drewN | apply Kd.R_drew)); exact HO329.out), (by (with_reducible repeat (first | apply Kd.R_alloc | apply Kd.R_drewN | apply Kd.R_drew)); exact HO332.out), (by (with_reducible repeat (first | refine zq6 ?_ _ | refine zq8 ?_ | refine zq7 ?_ _)); exact BK319.out), (by repeat (first | (with_reducible first | exact HB.out | apply zq2 | apply zq1 | apply zqd | refine zq3 ?_ GE319.out) | exact HB.out))⟩)
              ·skip
               rintro ⟨v325, v331⟩ w13 ⟨h0_, h1_, h2_, h3_⟩
               have n0_ : Az (Kd.R Kd.string 9 w13 w.heap.size (fun _ => True) v325 y324) := ⟨h0_⟩
               have n1_ : Az (Kd.R k54 54 w13 w.heap.size (fun _ => True) v331 y330) := ⟨h1_⟩
               have n2_ : Az (w13.heap[gb319]? = some (.cells #[.int .i64 0, .slice none 0 0, .slice none 0 0, .slice none 0 0, .slice none 0 0] 28 (0, 0))) := ⟨h2_⟩
               have n3_ : Az (Below w.heap.size w w13) := ⟨h3_⟩
               clear BK319
               clear HB
               clear h0_ h1_ h2_ h3_
               have HO326 := n0_
               have HO332 := n1_
               have BK319 := n2_
               have HB := n3_
               clear n0_ n1_ n2_ n3_
               have hHeld := trivial
               refine norm_ (a' := ?_) ?_ ?_
               rotate_left
               ·simp only [putAll, Act.put, List.setIfInBounds_toArray, List.set_cons_zero, List.set_cons_succ]
                rfl
               refine two_ (i := 1) (j := 3) (Ni := some 8) (Nj := some 10) #[true, true, true, false, true, false, false] #[true, false, true, true, true, false, false] rfl rfl rfl rfl (by kernel_rfl) (by decide) (by decide) (fun K hK => ?_) (fun K hK => ?_)
               ·skip
                refine Kd.R_make_step Kd.string _ 9 (by rfl) (N := 8) rfl 24 _ _ rfl 12 rfl rfl Try.underlying24 (.string ⟨#[]⟩) 16 info9 rfl (by decide) (by omega) (⟨#[]⟩ : ByteArray) (ok := fun _ => True) (okp := fun _ => True) rfl (fun _ hk => hk) trivial (by omega) (by omega) (Below.refl _ _) (Nat.le_refl _) ?_
                intro v322 w14 ho15 hb hg_ hnew_
                clear hg_ hnew_
                (first | rw [← Ny321.out] at ho15 | (simp only [Int.reduceToNat] at ho15; rw [← Ny321.out] at ho15))
                have n0_ := Az.mk (Kd.R_elder' (by (with_reducible repeat (first | apply Kd.R_alloc | apply Kd.R_drewN | apply Kd.R_drew)); exact HO326.out) (Kd.R_base ho15) hb)
                have n1_ := Az.mk (Kd.R_below (by (with_reducible repeat (first | apply Kd.R_alloc | apply Kd.R_drewN | apply Kd.R_drew)); exact HO332.out) hb)
                have n2_ := Az.mk (Kd.R_lower (Kd.R_new' ho15 (Kd.R_lt (by (with_reducible repeat (first | apply Kd.R_alloc | apply Kd.R_drewN | apply Kd.R_drew)); exact HO326.out))) (below_size (by repeat (first | (with_reducible first | exact HB.out | apply zq2 | apply zq1 | apply zqd | refine zq3 ?_ GE319.out) | exact HB.out))))
                have n3_ := Az.mk (blk_below (g := gb319) (o := .cells #[.int .i64 0, .slice none 0 0, .slice none 0 0, .slice none 0 0, .slice none 0 0] 28 (0, 0)) (by (with_reducible repeat (first | refine zq6 ?_ _ | refine zq8 ?_ | refine zq7 ?_ _)); exact BK319.out) hb)
                have n4_ := Az.mk (below_step (by repeat (first | (with_reducible first | exact HB.out | apply zq2 | apply zq1 | apply zqd | refine zq3 ?_ GE319.out) | exact HB.out)) hb)
                clear HO326
                clear HO332
                clear BK319
                clear HB
                have HO326 := n0_
                have HO332 := n1_
                have HO323 := n2_
                have BK319 := n3_
                have HB := n4_
                clear n0_ n1_ n2_ n3_ n4_
                clear hb ho15
                refine hK.out _ _ trivial (fun hHeld => ?_)
                clear hK K
                refine norm_ (a' := ?_) ?_ ?_
                rotate_left
                ·show Act.put _ (some 8) _ = _
                 simp only [Act.put, List.setIfInBounds_toArray, List.set_cons_zero, List.set_cons_succ, i64_w, i32_w]
                 rfl
                exact norm_ (by first | (simp only [putAll, Act.put, List.setIfInBounds_toArray, List.set_cons_zero, List.set_cons_succ]; done) | (simp only [putAll, Act.put, List.setIfInBounds_toArray, List.set_cons_zero, List.set_cons_succ]; rfl)) (hJ1_2_4 (v322, v325, v331) _ ⟨(by (with_reducible repeat (first | apply Kd.R_alloc | apply Kd.R_drewN | apply Kd.R_drew)); exact Kd.R_mono HO323.out (fun _ hk => hk.2)), (by (with_reducible repeat (first | apply Kd.R_alloc | apply Kd.R_drewN | apply Kd.R_drew)); exact Kd.R_mono HO326.out (fun _ hk => hk.2)), (by (with_reducible repeat (first | apply Kd.R_alloc | apply Kd.R_drewN | apply Kd.R_drew)); exact HO332.out), (by (with_reducible repeat (first | refine zq6 ?_ _ | refine zq8 ?_ | refine zq7 ?_ _)); exact BK319.out), (by repeat (first | (with_reducible first | exact HB.out | apply zq2 | apply zq1 | apply zqd | refine zq3 ?_ GE319.out) | exact HB.out))⟩)
               ·skip
                refine Kd.R_make_step Kd.bool _ 4 (by rfl) (N := 10) rfl 25 _ _ rfl 12 rfl rfl Try.underlying25 (.bool false) 1 info4 rfl (by decide) (by omega) false (ok := fun _ => True) (okp := fun _ => True) rfl (fun _ hk => hk) trivial (by omega) (by omega) (Below.refl _ _) (Nat.le_refl _) ?_
                intro v328 w14 ho15 hb hg_ hnew_
                clear hg_ hnew_
                (first | rw [← Ny327.out] at ho15 | (simp only [Int.reduceToNat] at ho15; rw [← Ny327.out] at ho15))
                have n0_ := Az.mk (Kd.R_below (by (with_reducible repeat (first | apply Kd.R_alloc | apply Kd.R_drewN | apply Kd.R_drew)); exact HO326.out) hb)
                have n1_ := Az.mk (Kd.R_below (by (with_reducible repeat (first | apply Kd.R_alloc | apply Kd.R_drewN | apply Kd.R_drew)); exact HO332.out) hb)
                have n2_ := Az.mk (Kd.R_lower ho15 (below_size (by repeat (first | (with_reducible first | exact HB.out | apply zq2 | apply zq1 | apply zqd | refine zq3 ?_ GE319.out) | exact HB.out))))
                have n3_ := Az.mk (blk_below (g := gb319) (o := .cells #[.int .i64 0, .slice none 0 0, .slice none 0 0, .slice none 0 0, .slice none 0 0] 28 (0, 0)) (by (with_reducible repeat (first | refine zq6 ?_ _ | refine zq8 ?_ | refine zq7 ?_ _)); exact BK319.out) hb)
                have n4_ := Az.mk (below_step (by repeat (first | (with_reducible first | exact HB.out | apply zq2 | apply zq1 | apply zqd | refine zq3 ?_ GE319.out) | exact HB.out)) hb)
                clear HO326
                clear HO332
                clear BK319
                clear HB
                have HO326 := n0_
                have HO332 := n1_
                have HO329 := n2_
                have BK319 := n3_
                have HB := n4_
                clear n0_ n1_ n2_ n3_ n4_
                clear hb ho15
                refine hK.out _ _ trivial (fun hHeld => ?_)
                clear hK K
                refine norm_ (a' := ?_) ?_ ?_
                rotate_left
                ·show Act.put _ (some 10) _ = _
                 simp only [Act.put, List.setIfInBounds_toArray, List.set_cons_zero, List.set_cons_succ, i64_w, i32_w]
                 rfl
                exact norm_ (by first | (simp only [putAll, Act.put, List.setIfInBounds_toArray, List.set_cons_zero, List.set_cons_succ]; done) | (simp only [putAll, Act.put, List.setIfInBounds_toArray, List.set_cons_zero, List.set_cons_succ]; rfl)) (hJ2_3_4 (v325, v328, v331) _ ⟨(by (with_reducible repeat (first | apply Kd.R_alloc | apply Kd.R_drewN | apply Kd.R_drew)); exact HO326.out), (by (with_reducible repeat (first | apply Kd.R_alloc | apply Kd.R_drewN | apply Kd.R_drew)); exact HO329.out), (by (with_reducible repeat (first | apply Kd.R_alloc | apply Kd.R_drewN | apply Kd.R_drew)); exact HO332.out), (by (with_reducible repeat (first | refine zq6 ?_ _ | refine zq8 ?_ | refine zq7 ?_ _)); exact BK319.out), (by repeat (first | (with_reducible first | exact HB.out | apply zq2 | apply zq1 | apply zqd | refine zq3 ?_ GE319.out) | exact HB.out))⟩)
             ·skip
              rintro ⟨v325, v328⟩ w13 ⟨h0_, h1_, h2_, h3_⟩
              have n0_ : Az (Kd.R Kd.string 9 w13 w.heap.size (fun _ => True) v325 y324) := ⟨h0_⟩
              have n1_ : Az (Kd.R Kd.bool 4 w13 w.heap.size (fun _ => True) v328 y327) := ⟨h1_⟩
              have n2_ : Az (w13.heap[gb319]? = some (.cells #[.int .i64 0, .slice none 0 0, .slice none 0 0, .slice none 0 0, .slice none 0 0] 28 (0, 0))) := ⟨h2_⟩
              have n3_ : Az (Below w.heap.size w w13) := ⟨h3_⟩
              clear BK319
              clear HB
              clear h0_ h1_ h2_ h3_
              have HO326 := n0_
              have HO329 := n1_
              have BK319 := n2_
              have HB := n3_
              clear n0_ n1_ n2_ n3_
              have hHeld := trivial
              refine norm_ (a' := ?_) ?_ ?_
              rotate_left
              ·simp only [putAll, Act.put, List.setIfInBounds_toArray, List.set_cons_zero, List.set_cons_succ]
               rfl
              refine two_ (i := 1) (j := 4) (Ni := some 8) (Nj := some 11) #[true, true, true, true, false, false, false] #[true, false, true, true, true, false, false] rfl rfl rfl rfl (by kernel_rfl) (by decide) (by decide) (fun K hK => ?_) (fun K hK => ?_)
              ·skip
               refine Kd.R_make_step Kd.string _ 9 (by rfl) (N := 8) rfl 24 _ _ rfl 12 rfl rfl Try.underlying24 (.string ⟨#[]⟩) 16 info9 rfl (by decide) (by omega) (⟨#[]⟩ : ByteArray) (ok := fun _ => True) (okp := fun _ => True) rfl (fun _ hk => hk) trivial (by omega) (by omega) (Below.refl _ _) (Nat.le_refl _) ?_
               intro v322 w14 ho15 hb hg_ hnew_
               clear hg_ hnew_
               (first | rw [← Ny321.out] at ho15 | (simp only [Int.reduceToNat] at ho15; rw [← Ny321.out] at ho15))
               have n0_ := Az.mk (Kd.R_elder' (by (with_reducible repeat (first | apply Kd.R_alloc | apply Kd.R_drewN | apply Kd.R_drew)); exact HO326.out) (Kd.R_base ho15) hb)
               have n1_ := Az.mk (Kd.R_below (by (with_reducible repeat (first | apply Kd.R_alloc | apply Kd.R_drewN | apply Kd.R_drew)); exact HO329.out) hb)
               have n2_ := Az.mk (Kd.R_lower (Kd.R_new' ho15 (Kd.R_lt (by (with_reducible repeat (first | apply Kd.R_alloc | apply Kd.R_drewN | apply Kd.R_drew)); exact HO326.out))) (below_size (by repeat (first | (with_reducible first | exact HB.out | apply zq2 | apply zq1 | apply zqd | refine zq3 ?_ GE319.out) | exact HB.out))))
               have n3_ := Az.mk (blk_below (g := gb319) (o := .cells #[.int .i64 0, .slice none 0 0, .slice none 0 0, .slice none 0 0, .slice none 0 0] 28 (0, 0)) (by (with_reducible repeat (first | refine zq6 ?_ _ | refine zq8 ?_ | refine zq7 ?_ _)); exact BK319.out) hb)
               have n4_ := Az.mk (below_step (by repeat (first | (with_reducible first | exact HB.out | apply zq2 | apply zq1 | apply zqd | refine zq3 ?_ GE319.out) | exact HB.out)) hb)
               clear HO326
               clear HO329
               clear BK319
               clear HB
               have HO326 := n0_
               have HO329 := n1_
               have HO323 := n2_
               have BK319 := n3_
               have HB := n4_
               clear n0_ n1_ n2_ n3_ n4_
               clear hb ho15
               refine hK.out _ _ trivial (fun hHeld => ?_)
               clear hK K
               refine norm_ (a' := ?_) ?_ ?_
               rotate_left
               ·show Act.put _ (some 8) _ = _
                simp only [Act.put, List.setIfInBounds_toArray, List.set_cons_zero, List.set_cons_succ, i64_w, i32_w]
                rfl
               exact norm_ (by first | (simp only [putAll, Act.put, List.setIfInBounds_toArray, List.set_cons_zero, List.set_cons_succ]; done) | (simp only [putAll, Act.put, List.setIfInBounds_toArray, List.set_cons_zero, List.set_cons_succ]; rfl)) (hJ1_2_3 (v322, v325, v328) _ ⟨(by (with_reducible repeat (first | apply Kd.R_alloc | apply Kd.R_drewN | apply Kd.R_drew)); exact Kd.R_mono HO323.out (fun _ hk => hk.2)), (by (with_reducible repeat (first | apply Kd.R_alloc | apply Kd.R_drewN | apply Kd.R_drew)); exact Kd.R_mono HO326.out (fun _ hk => hk.2)), (by (with_reducible repeat (first | apply Kd.R_alloc | apply Kd.R_drewN | apply Kd.R_drew)); exact HO329.out), (by (with_reducible repeat (first | refine zq6 ?_ _ | refine zq8 ?_ | refine zq7 ?_ _)); exact BK319.out), (by repeat (first | (with_reducible first | exact HB.out | apply zq2 | apply zq1 | apply zqd | refine zq3 ?_ GE319.out) | exact HB.out))⟩)
              ·skip
               refine Kd.R_lit_step k54 _ 54 ?hg (N := 11) ?hd (xs := ([] : List (S54))) (inner := []) (ok := fun _ => True) (okp := fun _ => True) ?hr ?hp (fun _ hk => hk) trivial (Below.refl _ _) (Nat.le_refl _) (by simp) ?_; (case hd => rfl); (case hg => rfl); (case hr => first | (go_simp; done) | (go_simp; rfl)); (case hp => exact (Reps.none _ _))
               intro v331 w14 ho15 hb hg_ hnew_
               clear hg_ hnew_
               (first | rw [← Ny330.out] at ho15 | (simp only [Int.reduceToNat] at ho15; rw [← Ny330.out] at ho15))
               have n0_ := Az.mk (Kd.R_below (by (with_reducible repeat (first | apply Kd.R_alloc | apply Kd.R_drewN | apply Kd.R_drew)); exact HO326.out) hb)
               have n1_ := Az.mk (Kd.R_below (by (with_reducible repeat (first | apply Kd.R_alloc | apply Kd.R_drewN | apply Kd.R_drew)); exact HO329.out) hb)
               have n2_ := Az.mk (Kd.R_lower ho15 (below_size (by repeat (first | (with_reducible first | exact HB.out | apply zq2 | apply zq1 | apply zqd | refine zq3 ?_ GE319.out) | exact HB.out))))
               have n3_ := Az.mk (blk_below (g := gb319) (o := .cells #[.int .i64 0, .slice none 0 0, .slice none 0 0, .slice none 0 0, .slice none 0 0] 28 (0, 0)) (by (with_reducible repeat (first | refine zq6 ?_ _ | refine zq8 ?_ | refine zq7 ?_ _)); exact BK319.out) hb)
               have n4_ := Az.mk (below_step (by repeat (first | (with_reducible first | exact HB.out | apply zq2 | apply zq1 | apply zqd | refine zq3 ?_ GE319.out) | exact HB.out)) hb)
               clear HO326
               clear HO329
               clear BK319
               clear HB
               have HO326 := n0_
               have HO329 := n1_
               have HO332 := n2_
               have BK319 := n3_
               have HB := n4_
               clear n0_ n1_ n2_ n3_ n4_
               clear hb ho15
               refine hK.out _ _ trivial (fun hHeld => ?_)
               clear hK K
               refine norm_ (a' := ?_) ?_ ?_
               rotate_left
               ·show Act.put _ (some 11) _ = _
                simp only [Act.put, List.setIfInBounds_toArray, List.set_cons_zero, List.set_cons_succ, i64_w, i32_w]
                rfl
               exact norm_ (by first | (simp only [putAll, Act.put, List.setIfInBounds_toArray, List.set_cons_zero, List.set_cons_succ]; done) | (simp only [putAll, Act.put, List.setIfInBounds_toArray, List.set_cons_zero, List.set_cons_succ]; rfl)) (hJ2_3_4 (v325, v328, v331) _ ⟨(by (with_reducible repeat (first | apply Kd.R_alloc | apply Kd.R_drewN | apply Kd.R_drew)); exact HO326.out), (by (with_reducible repeat (first | apply Kd.R_alloc | apply Kd.R_drewN | apply Kd.R_drew)); exact HO329.out), (by (with_reducible repeat (first | apply Kd.R_alloc | apply Kd.R_drewN | apply Kd.R_drew)); exact HO332.out), (by (with_reducible repeat (first | refine zq6 ?_ _ | refine zq8 ?_ | refine zq7 ?_ _)); exact BK319.out), (by repeat (first | (with_reducible first | exact HB.out | apply zq2 | apply zq1 | apply zqd | refine zq3 ?_ GE319.out) | exact HB.out))⟩)
            ·skip
             rintro ⟨v322, v331⟩ w13 ⟨h0_, h1_, h2_, h3_⟩
             have n0_ : Az (Kd.R Kd.string 9 w13 w.heap.size (fun _ => True) v322 y321) := ⟨h0_⟩
             have n1_ : Az (Kd.R k54 54 w13 w.heap.size (fun _ => True) v331 y330) := ⟨h1_⟩
             have n2_ : Az (w13.heap[gb319]? = some (.cells #[.int .i64 0, .slice none 0 0, .slice none 0 0, .slice none 0 0, .slice none 0 0] 28 (0, 0))) := ⟨h2_⟩
             have n3_ : Az (Below w.heap.size w w13) := ⟨h3_⟩
             clear BK319
             clear HB
             clear h0_ h1_ h2_ h3_
             have HO323 := n0_
             have HO332 := n1_
             have BK319 := n2_
             have HB := n3_
             clear n0_ n1_ n2_ n3_
             have hHeld := trivial
             refine norm_ (a' := ?_) ?_ ?_
             rotate_left
             ·simp only [putAll, Act.put, List.setIfInBounds_toArray, List.set_cons_zero, List.set_cons_succ]
              rfl
             refine two_ (i := 2) (j := 3) (Ni := some 9) (Nj := some 10) #[true, true, true, false, true, false, false] #[true, true, false, true, true, false, false] rfl rfl rfl rfl (by kernel_rfl) (by decide) (by decide) (fun K hK => ?_) (fun K hK => ?_)
             ·skip
              refine Kd.R_make_step Kd.string _ 9 (by rfl) (N := 9) rfl 24 _ _ rfl 2 rfl rfl Try.underlying24 (.string ⟨#[]⟩) 16 info9 rfl (by decide) (by omega) (⟨#[]⟩ : ByteArray) (ok := fun _ => True) (okp := fun _ => True) rfl (fun _ hk => hk) trivial (by omega) (by omega) (Below.refl _ _) (Nat.le_refl _) ?_
              intro v325 w14 ho15 hb hg_ hnew_
              clear hg_ hnew_
              (first | rw [← Ny324.out] at ho15 | (simp only [Int.reduceToNat] at ho15; rw [← Ny324.out] at ho15))
              have n0_ := Az.mk (Kd.R_elder' (by (with_reducible repeat (first | apply Kd.R_alloc | apply Kd.R_drewN | apply Kd.R_drew)); exact HO323.out) (Kd.R_base ho15) hb)
              have n1_ := Az.mk (Kd.R_below (by (with_reducible repeat (first | apply Kd.R_alloc | apply Kd.R_drewN | apply Kd.R_drew)); exact HO332.out) hb)
              have n2_ := Az.mk (Kd.R_lower (Kd.R_new' ho15 (Kd.R_lt (by (with_reducible repeat (first | apply Kd.R_alloc | apply Kd.R_drewN | apply Kd.R_drew)); exact HO323.out))) (below_size (by repeat (first | (with_reducible first | exact HB.out | apply zq2 | apply zq1 | apply zqd | refine zq3 ?_ GE319.out) | exact HB.out))))
              have n3_ := Az.mk (blk_below (g := gb319) (o := .cells #[.int .i64 0, .slice none 0 0, .slice none 0 0, .slice none 0 0, .slice none 0 0] 28 (0, 0)) (by (with_reducible repeat (first | refine zq6 ?_ _ | refine zq8 ?_ | refine zq7 ?_ _)); exact BK319.out) hb)
              have n4_ := Az.mk (below_step (by repeat (first | (with_reducible first | exact HB.out | apply zq2 | apply zq1 | apply zqd | refine zq3 ?_ GE319.out) | exact HB.out)) hb)
              clear HO323
              clear HO332
              clear BK319
              clear HB
              have HO323 := n0_
              have HO332 := n1_
              have HO326 := n2_
              have BK319 := n3_
              have HB := n4_
              clear n0_ n1_ n2_ n3_ n4_
              clear hb ho15
              refine hK.out _ _ trivial (fun hHeld => ?_)
              clear hK K
              refine norm_ (a' := ?_) ?_ ?_
              rotate_left
              ·show Act.put _ (some 9) _ = _
               simp only [Act.put, List.setIfInBounds_toArray, List.set_cons_zero, List.set_cons_succ, i64_w, i32_w]
               rfl
              exact norm_ (by first | (simp only [putAll, Act.put, List.setIfInBounds_toArray, List.set_cons_zero, List.set_cons_succ]; done) | (simp only [putAll, Act.put, List.setIfInBounds_toArray, List.set_cons_zero, List.set_cons_succ]; rfl)) (hJ1_2_4 (v322, v325, v331) _ ⟨(by (with_reducible repeat (first | apply Kd.R_alloc | apply Kd.R_drewN | apply Kd.R_drew)); exact Kd.R_mono HO323.out (fun _ hk => hk.2)), (by (with_reducible repeat (first | apply Kd.R_alloc | apply Kd.R_drewN | apply Kd.R_drew)); exact Kd.R_mono HO326.out (fun _ hk => hk.2)), (by (with_reducible repeat (first | apply Kd.R_alloc | apply Kd.R_drewN | apply Kd.R_drew)); exact HO332.out), (by (with_reducible repeat (first | refine zq6 ?_ _ | refine zq8 ?_ | refine zq7 ?_ _)); exact BK319.out), (by repeat (first | (with_reducible first | exact HB.out | apply zq2 | apply zq1 | apply zqd | refine zq3 ?_ GE319.out) | exact HB.out))⟩)
             ·skip
              refine Kd.R_make_step Kd.bool _ 4 (by rfl) (N := 10) rfl 25 _ _ rfl 12 rfl rfl Try.underlying25 (.bool false) 1 info4 rfl (by decide) (by omega) false (ok := fun _ => True) (okp := fun _ => True) rfl (fun _ hk => hk) trivial (by omega) (by omega) (Below.refl _ _) (Nat.le_refl _) ?_
              intro v328 w14 ho15 hb hg_ hnew_
              clear hg_ hnew_
              (first | rw [← Ny327.out] at ho15 | (simp only [Int.reduceToNat] at ho15; rw [← Ny327.out] at ho15))
              have n0_ := Az.mk (Kd.R_below (by (with_reducible repeat (first | apply Kd.R_alloc | apply Kd.R_drewN | apply Kd.R_drew)); exact HO323.out) hb)
              have n1_ := Az.mk (Kd.R_below (by (with_reducible repeat (first | apply Kd.R_alloc | apply Kd.R_drewN | apply Kd.R_drew)); exact HO332.out) hb)
              have n2_ := Az.mk (Kd.R_lower ho15 (below_size (by repeat (first | (with_reducible first | exact HB.out | apply zq2 | apply zq1 | apply zqd | refine zq3 ?_ GE319.out) | exact HB.out))))
              have n3_ := Az.mk (blk_below (g := gb319) (o := .cells #[.int .i64 0, .slice none 0 0, .slice none 0 0, .slice none 0 0, .slice none 0 0] 28 (0, 0)) (by (with_reducible repeat (first | refine zq6 ?_ _ | refine zq8 ?_ | refine zq7 ?_ _)); exact BK319.out) hb)
              have n4_ := Az.mk (below_step (by repeat (first | (with_reducible first | exact HB.out | apply zq2 | apply zq1 | apply zqd | refine zq3 ?_ GE319.out) | exact HB.out)) hb)
              clear HO323
              clear HO332
              clear BK319
              clear HB
              have HO323 := n0_
              have HO332 := n1_
              have HO329 := n2_
              have BK319 := n3_
              have HB := n4_
              clear n0_ n1_ n2_ n3_ n4_
              clear hb ho15
              refine hK.out _ _ trivial (fun hHeld => ?_)
              clear hK K
              refine norm_ (a' := ?_) ?_ ?_
              rotate_left
              ·show Act.put _ (some 10) _ = _
               simp only [Act.put, List.setIfInBounds_toArray, List.set_cons_zero, List.set_cons_succ, i64_w, i32_w]
               rfl
              exact norm_ (by first | (simp only [putAll, Act.put, List.setIfInBounds_toArray, List.set_cons_zero, List.set_cons_succ]; done) | (simp only [putAll, Act.put, List.setIfInBounds_toArray, List.set_cons_zero, List.set_cons_succ]; rfl)) (hJ1_3_4 (v322, v328, v331) _ ⟨(by (with_reducible repeat (first | apply Kd.R_alloc | apply Kd.R_drewN | apply Kd.R_drew)); exact HO323.out), (by (with_reducible repeat (first | apply Kd.R_alloc | apply Kd.R_drewN | apply Kd.R_drew)); exact HO329.out), (by (with_reducible repeat (first | apply Kd.R_alloc | apply Kd.R_drewN | apply Kd.R_drew)); exact HO332.out), (by (with_reducible repeat (first | refine zq6 ?_ _ | refine zq8 ?_ | refine zq7 ?_ _)); exact BK319.out), (by repeat (first | (with_reducible first | exact HB.out | apply zq2 | apply zq1 | apply zqd | refine zq3 ?_ GE319.out) | exact HB.out))⟩)
           ·skip
            rintro ⟨v322, v328⟩ w13 ⟨h0_, h1_, h2_, h3_⟩
            have n0_ : Az (Kd.R Kd.string 9 w13 w.heap.size (fun _ => True) v322 y321) := ⟨h0_⟩
            have n1_ : Az (Kd.R Kd.bool 4 w13 w.heap.size (fun _ => True) v328 y327) := ⟨h1_⟩
            have n2_ : Az (w13.heap[gb319]? = some (.cells #[.int .i64 0, .slice none 0 0, .slice none 0 0, .slice none 0 0, .slice none 0 0] 28 (0, 0))) := ⟨h2_⟩
            have n3_ : Az (Below w.heap.size w w13) := ⟨h3_⟩
            clear BK319
            clear HB
            clear h0_ h1_ h2_ h3_
            have HO323 := n0_
            have HO329 := n1_
            have BK319 := n2_
            have HB := n3_
            clear n0_ n1_ n2_ n3_
            have hHeld := trivial
            refine norm_ (a' := ?_) ?_ ?_
            rotate_left
            ·simp only [putAll, Act.put, List.setIfInBounds_toArray, List.set_cons_zero, List.set_cons_succ]
             rfl
            refine two_ (i := 2) (j := 4) (Ni := some 9) (Nj := some 11) #[true, true, true, true, false, false, false] #[true, true, false, true, true, false, false] rfl rfl rfl rfl (by kernel_rfl) (by decide) (by decide) (fun K hK => ?_) (fun K hK => ?_)
            ·skip
             refine Kd.R_make_step Kd.string _ 9 (by rfl) (N := 9) rfl 24 _ _ rfl 2 rfl rfl Try.underlying24 (.string ⟨#[]⟩) 16 info9 rfl (by decide) (by omega) (⟨#[]⟩ : ByteArray) (ok := fun _ => True) (okp := fun _ => True) rfl (fun _ hk => hk) trivial (by omega) (by omega) (Below.refl _ _) (Nat.le_refl _) ?_
             intro v325 w14 ho15 hb hg_ hnew_
             clear hg_ hnew_
             (first | rw [← Ny324.out] at ho15 | (simp only [Int.reduceToNat] at ho15; rw [← Ny324.out] at ho15))
             have n0_ := Az.mk (Kd.R_elder' (by (with_reducible repeat (first | apply Kd.R_alloc | apply Kd.R_drewN | apply Kd.R_drew)); exact HO323.out) (Kd.R_base ho15) hb)
             have n1_ := Az.mk (Kd.R_below (by (with_reducible repeat (first | apply Kd.R_alloc | apply Kd.R_drewN | apply Kd.R_drew)); exact HO329.out) hb)
             have n2_ := Az.mk (Kd.R_lower (Kd.R_new' ho15 (Kd.R_lt (by (with_reducible repeat (first | apply Kd.R_alloc | apply Kd.R_drewN | apply Kd.R_drew)); exact HO323.out))) (below_size (by repeat (first | (with_reducible first | exact HB.out | apply zq2 | apply zq1 | apply zqd | refine zq3 ?_ GE319.out) | exact HB.out))))
             have n3_ := Az.mk (blk_below (g := gb319) (o := .cells #[.int .i64 0, .slice none 0 0, .slice none 0 0, .slice none 0 0, .slice none 0 0] 28 (0, 0)) (by (with_reducible repeat (first | refine zq6 ?_ _ | refine zq8 ?_ | refine zq7 ?_ _)); exact BK319.out) hb)
             have n4_ := Az.mk (below_step (by repeat (first | (with_reducible first | exact HB.out | apply zq2 | apply zq1 | apply zqd | refine zq3 ?_ GE319.out) | exact HB.out)) hb)
             clear HO323
             clear HO329
             clear BK319
             clear HB
             have HO323 := n0_
             have HO329 := n1_
             have HO326 := n2_
             have BK319 := n3_
             have HB := n4_
             clear n0_ n1_ n2_ n3_ n4_
             clear hb ho15
             refine hK.out _ _ trivial (fun hHeld => ?_)
             clear hK K
             refine norm_ (a' := ?_) ?_ ?_
             rotate_left
             ·show Act.put _ (some 9) _ = _
              simp only [Act.put, List.setIfInBounds_toArray, List.set_cons_zero, List.set_cons_succ, i64_w, i32_w]
              rfl
             exact norm_ (by first | (simp only [putAll, Act.put, List.setIfInBounds_toArray, List.set_cons_zero, List.set_cons_succ]; done) | (simp only [putAll, Act.put, List.setIfInBounds_toArray, List.set_cons_zero, List.set_cons_succ]; rfl)) (hJ1_2_3 (v322, v325, v328) _ ⟨(by (with_reducible repeat (first | apply Kd.R_alloc | apply Kd.R_drewN | apply Kd.R_drew)); exact Kd.R_mono HO323.out (fun _ hk => hk.2)), (by (with_reducible repeat (first | apply Kd.R_alloc | apply Kd.R_drewN | apply Kd.R_drew)); exact Kd.R_mono HO326.out (fun _ hk => hk.2)), (by (with_reducible repeat (first | apply Kd.R_alloc | apply Kd.R_drewN | apply Kd.R_drew)); exact HO329.out), (by (with_reducible repeat (first | refine zq6 ?_ _ | refine zq8 ?_ | refine zq7 ?_ _)); exact BK319.out), (by repeat (first | (with_reducible first | exact HB.out | apply zq2 | apply zq1 | apply zqd | refine zq3 ?_ GE319.out) | exact HB.out))⟩)
            ·skip
             refine Kd.R_lit_step k54 _ 54 ?hg (N := 11) ?hd (xs := ([] : List (S54))) (inner := []) (ok := fun _ => True) (okp := fun _ => True) ?hr ?hp (fun _ hk => hk) trivial (Below.refl _ _) (Nat.le_refl _) (by simp) ?_; (case hd => rfl); (case hg => rfl); (case hr => first | (go_simp; done) | (go_simp; rfl)); (case hp => exact (Reps.none _ _))
             intro v331 w14 ho15 hb hg_ hnew_
             clear hg_ hnew_
             (first | rw [← Ny330.out] at ho15 | (simp only [Int.reduceToNat] at ho15; rw [← Ny330.out] at ho15))
             have n0_ := Az.mk (Kd.R_below (by (with_reducible repeat (first | apply Kd.R_alloc | apply Kd.R_drewN | apply Kd.R_drew)); exact HO323.out) hb)
             have n1_ := Az.mk (Kd.R_below (by (with_reducible repeat (first | apply Kd.R_alloc | apply Kd.R_drewN | apply Kd.R_drew)); exact HO329.out) hb)
             have n2_ := Az.mk (Kd.R_lower ho15 (below_size (by repeat (first | (with_reducible first | exact HB.out | apply zq2 | apply zq1 | apply zqd | refine zq3 ?_ GE319.out) | exact HB.out))))
             have n3_ := Az.mk (blk_below (g := gb319) (o := .cells #[.int .i64 0, .slice none 0 0, .slice none 0 0, .slice none 0 0, .slice none 0 0] 28 (0, 0)) (by (with_reducible repeat (first | refine zq6 ?_ _ | refine zq8 ?_ | refine zq7 ?_ _)); exact BK319.out) hb)
             have n4_ := Az.mk (below_step (by repeat (first | (with_reducible first | exact HB.out | apply zq2 | apply zq1 | apply zqd | refine zq3 ?_ GE319.out) | exact HB.out)) hb)
             clear HO323
             clear HO329
             clear BK319
             clear HB
             have HO323 := n0_
             have HO329 := n1_
             have HO332 := n2_
             have BK319 := n3_
             have HB := n4_
             clear n0_ n1_ n2_ n3_ n4_
             clear hb ho15
             refine hK.out _ _ trivial (fun hHeld => ?_)
             clear hK K
             refine norm_ (a' := ?_) ?_ ?_
             rotate_left
             ·show Act.put _ (some 11) _ = _
              simp only [Act.put, List.setIfInBounds_toArray, List.set_cons_zero, List.set_cons_succ, i64_w, i32_w]
              rfl
             exact norm_ (by first | (simp only [putAll, Act.put, List.setIfInBounds_toArray, List.set_cons_zero, List.set_cons_succ]; done) | (simp only [putAll, Act.put, List.setIfInBounds_toArray, List.set_cons_zero, List.set_cons_succ]; rfl)) (hJ1_3_4 (v322, v328, v331) _ ⟨(by (with_reducible repeat (first | apply Kd.R_alloc | apply Kd.R_drewN | apply Kd.R_drew)); exact HO323.out), (by (with_reducible repeat (first | apply Kd.R_alloc | apply Kd.R_drewN | apply Kd.R_drew)); exact HO329.out), (by (with_reducible repeat (first | apply Kd.R_alloc | apply Kd.R_drewN | apply Kd.R_drew)); exact HO332.out), (by (with_reducible repeat (first | refine zq6 ?_ _ | refine zq8 ?_ | refine zq7 ?_ _)); exact BK319.out), (by repeat (first | (with_reducible first | exact HB.out | apply zq2 | apply zq1 | apply zqd | refine zq3 ?_ GE319.out) | exact HB.out))⟩)
          ·skip
           rintro ⟨v322, v325⟩ w13 ⟨h0_, h1_, h2_, h3_⟩
           have n0_ : Az (Kd.R Kd.string 9 w13 w.heap.size (fun k_ => some k_ ≠ (v325 : Value).ownBlock) v322 y321) := ⟨h0_⟩
           have n1_ : Az (Kd.R Kd.string 9 w13 w.heap.size (fun k_ => some k_ ≠ (v322 : Value).ownBlock) v325 y324) := ⟨h1_⟩
           have n2_ : Az (w13.heap[gb319]? = some (.cells #[.int .i64 0, .slice none 0 0, .slice none 0 0, .slice none 0 0, .slice none 0 0] 28 (0, 0))) := ⟨h2_⟩
           have n3_ : Az (Below w.heap.size w w13) := ⟨h3_⟩
           clear BK319
           clear HB
           clear h0_ h1_ h2_ h3_
           have HO323 := n0_
           have HO326 := n1_
           have BK319 := n2_
           have HB := n3_
           clear n0_ n1_ n2_ n3_
           have hHeld := trivial
           refine norm_ (a' := ?_) ?_ ?_
           rotate_left
           ·simp only [putAll, Act.put, List.setIfInBounds_toArray, List.set_cons_zero, List.set_cons_succ]
            rfl
           refine two_ (i := 3) (j := 4) (Ni := some 10) (Nj := some 11) #[true, true, true, true, false, false, false] #[true, true, true, false, true, false, false] rfl rfl rfl rfl (by kernel_rfl) (by decide) (by decide) (fun K hK => ?_) (fun K hK => ?_)
           ·skip
            refine Kd.R_make_step Kd.bool _ 4 (by rfl) (N := 10) rfl 25 _ _ rfl 12 rfl rfl Try.underlying25 (.bool false) 1 info4 rfl (by decide) (by omega) false (ok := fun _ => True) (okp := fun _ => True) rfl (fun _ hk => hk) trivial (by omega) (by omega) (Below.refl _ _) (Nat.le_refl _) ?_
            intro v328 w14 ho15 hb hg_ hnew_
            clear hg_ hnew_
            (first | rw [← Ny327.out] at ho15 | (simp only [Int.reduceToNat] at ho15; rw [← Ny327.out] at ho15))
            have n0_ := Az.mk (Kd.R_below (by (with_reducible repeat (first | apply Kd.R_alloc | apply Kd.R_drewN | apply Kd.R_drew)); exact HO323.out) hb)
            have n1_ := Az.mk (Kd.R_below (by (with_reducible repeat (first | apply Kd.R_alloc | apply Kd.R_drewN | apply Kd.R_drew)); exact HO326.out) hb)
            have n2_ := Az.mk (Kd.R_lower ho15 (below_size (by repeat (first | (with_reducible first | exact HB.out | apply zq2 | apply zq1 | apply zqd | refine zq3 ?_ GE319.out) | exact HB.out))))
            have n3_ := Az.mk (blk_below (g := gb319) (o := .cells #[.int .i64 0, .slice none 0 0, .slice none 0 0, .slice none 0 0, .slice none 0 0] 28 (0, 0)) (by (with_reducible repeat (first | refine zq6 ?_ _ | refine zq8 ?_ | refine zq7 ?_ _)); exact BK319.out) hb)
            have n4_ := Az.mk (below_step (by repeat (first | (with_reducible first | exact HB.out | apply zq2 | apply zq1 | apply zqd | refine zq3 ?_ GE319.out) | exact HB.out)) hb)
            clear HO323
            clear HO326
            clear BK319
            clear HB
            have HO323 := n0_
            have HO326 := n1_
            have HO329 := n2_
            have BK319 := n3_
            have HB := n4_
            clear n0_ n1_ n2_ n3_ n4_
            clear hb ho15
            refine hK.out _ _ trivial (fun hHeld => ?_)
            clear hK K
            refine norm_ (a' := ?_) ?_ ?_
            rotate_left
            ·show Act.put _ (some 10) _ = _
             simp only [Act.put, List.setIfInBounds_toArray, List.set_cons_zero, List.set_cons_succ, i64_w, i32_w]
             rfl
            exact norm_ (by first | (simp only [putAll, Act.put, List.setIfInBounds_toArray, List.set_cons_zero, List.set_cons_succ]; done) | (simp only [putAll, Act.put, List.setIfInBounds_toArray, List.set_cons_zero, List.set_cons_succ]; rfl)) (hJ1_2_3 (v322, v325, v328) _ ⟨(by (with_reducible repeat (first | apply Kd.R_alloc | apply Kd.R_drewN | apply Kd.R_drew)); exact HO323.out), (by (with_reducible repeat (first | apply Kd.R_alloc | apply Kd.R_drewN | apply Kd.R_drew)); exact HO326.out), (by (with_reducible repeat (first | apply Kd.R_alloc | apply Kd.R_drewN | apply Kd.R_drew)); exact HO329.out), (by (with_reducible repeat (first | refine zq6 ?_ _ | refine zq8 ?_ | refine zq7 ?_ _)); exact BK319.out), (by repeat (first | (with_reducible first | exact HB.out | apply zq2 | apply zq1 | apply zqd | refine zq3 ?_ GE319.out) | exact HB.out))⟩)
           ·skip
            refine Kd.R_lit_step k54 _ 54 ?hg (N := 11) ?hd (xs := ([] : List (S54))) (inner := []) (ok := fun _ => True) (okp := fun _ => True) ?hr ?hp (fun _ hk => hk) trivial (Below.refl _ _) (Nat.le_refl _) (by simp) ?_; (case hd => rfl); (case hg => rfl); (case hr => first | (go_simp; done) | (go_simp; rfl)); (case hp => exact (Reps.none _ _))
            intro v331 w14 ho15 hb hg_ hnew_
            clear hg_ hnew_
            (first | rw [← Ny330.out] at ho15 | (simp only [Int.reduceToNat] at ho15; rw [← Ny330.out] at ho15))
            have n0_ := Az.mk (Kd.R_below (by (with_reducible repeat (first | apply Kd.R_alloc | apply Kd.R_drewN | apply Kd.R_drew)); exact HO323.out) hb)
            have n1_ := Az.mk (Kd.R_below (by (with_reducible repeat (first | apply Kd.R_alloc | apply Kd.R_drewN | apply Kd.R_drew)); exact HO326.out) hb)
            have n2_ := Az.mk (Kd.R_lower ho15 (below_size (by repeat (first | (with_reducible first | exact HB.out | apply zq2 | apply zq1 | apply zqd | refine zq3 ?_ GE319.out) | exact HB.out))))
            have n3_ := Az.mk (blk_below (g := gb319) (o := .cells #[.int .i64 0, .slice none 0 0, .slice none 0 0, .slice none 0 0, .slice none 0 0] 28 (0, 0)) (by (with_reducible repeat (first | refine zq6 ?_ _ | refine zq8 ?_ | refine zq7 ?_ _)); exact BK319.out) hb)
            have n4_ := Az.mk (below_step (by repeat (first | (with_reducible first | exact HB.out | apply zq2 | apply zq1 | apply zqd | refine zq3 ?_ GE319.out) | exact HB.out)) hb)
            clear HO323
            clear HO326
            clear BK319
            clear HB
            have HO323 := n0_
            have HO326 := n1_
            have HO332 := n2_
            have BK319 := n3_
            have HB := n4_
            clear n0_ n1_ n2_ n3_ n4_
            clear hb ho15
            refine hK.out _ _ trivial (fun hHeld => ?_)
            clear hK K
            refine norm_ (a' := ?_) ?_ ?_
            rotate_left
            ·show Act.put _ (some 11) _ = _
             simp only [Act.put, List.setIfInBounds_toArray, List.set_cons_zero, List.set_cons_succ, i64_w, i32_w]
             rfl
            exact norm_ (by first | (simp only [putAll, Act.put, List.setIfInBounds_toArray, List.set_cons_zero, List.set_cons_succ]; done) | (simp only [putAll, Act.put, List.setIfInBounds_toArray, List.set_cons_zero, List.set_cons_succ]; rfl)) (hJ1_2_4 (v322, v325, v331) _ ⟨(by (with_reducible repeat (first | apply Kd.R_alloc | apply Kd.R_drewN | apply Kd.R_drew)); exact HO323.out), (by (with_reducible repeat (first | apply Kd.R_alloc | apply Kd.R_drewN | apply Kd.R_drew)); exact HO326.out), (by (with_reducible repeat (first | apply Kd.R_alloc | apply Kd.R_drewN | apply Kd.R_drew)); exact HO332.out), (by (with_reducible repeat (first | refine zq6 ?_ _ | refine zq8 ?_ | refine zq7 ?_ _)); exact BK319.out), (by repeat (first | (with_reducible first | exact HB.out | apply zq2 | apply zq1 | apply zqd | refine zq3 ?_ GE319.out) | exact HB.out))⟩)
         ·skip
          rintro ⟨v325, v328, v331⟩ w15 ⟨h0_, h1_, h2_, h3_, h4_⟩
          have n0_ : Az (Kd.R Kd.string 9 w15 w.heap.size (fun _ => True) v325 y324) := ⟨h0_⟩
          have n1_ : Az (Kd.R Kd.bool 4 w15 w.heap.size (fun _ => True) v328 y327) := ⟨h1_⟩
          have n2_ : Az (Kd.R k54 54 w15 w.heap.size (fun _ => True) v331 y330) := ⟨h2_⟩
          have n3_ : Az (w15.heap[gb319]? = some (.cells #[.int .i64 0, .slice none 0 0, .slice none 0 0, .slice none 0 0, .slice none 0 0] 28 (0, 0))) := ⟨h3_⟩
          have n4_ : Az (Below w.heap.size w w15) := ⟨h4_⟩
          clear BK319
          clear HB
          clear h0_ h1_ h2_ h3_ h4_
          have HO326 := n0_
          have HO329 := n1_
          have HO332 := n2_
          have BK319 := n3_
          have HB := n4_
          clear n0_ n1_ n2_ n3_ n4_
          have hHeld := trivial
          refine norm_ (a' := ?_) ?_ ?_
          rotate_left
          ·simp only [putAll, Act.put, List.setIfInBounds_toArray, List.set_cons_zero, List.set_cons_succ]
           rfl
          refine one_ (i := 1) (N := some 8) #[true, true, true, true, true, false, false] rfl rfl (by kernel_rfl) (by decide) (fun K hK => ?_)
          refine Kd.R_make_step Kd.string _ 9 (by rfl) (N := 8) rfl 24 _ _ rfl 12 rfl rfl Try.underlying24 (.string ⟨#[]⟩) 16 info9 rfl (by decide) (by omega) (⟨#[]⟩ : ByteArray) (ok := fun _ => True) (okp := fun _ => True) rfl (fun _ hk => hk) trivial (by omega) (by omega) (Below.refl _ _) (Nat.le_refl _) ?_
          intro v322 w16 ho17 hb hg_ hnew_
          clear hg_ hnew_
          (first | rw [← Ny321.out] at ho17 | (simp only [Int.reduceToNat] at ho17; rw [← Ny321.out] at ho17))
          have n0_ := Az.mk (Kd.R_elder' (by (with_reducible repeat (first | apply Kd.R_alloc | apply Kd.R_drewN | apply Kd.R_drew)); exact HO326.out) (Kd.R_base ho17) hb)
          have n1_ := Az.mk (Kd.R_below (by (with_reducible repeat (first | apply Kd.R_alloc | apply Kd.R_drewN | apply Kd.R_drew)); exact HO329.out) hb)
          have n2_ := Az.mk (Kd.R_below (by (with_reducible repeat (first | apply Kd.R_alloc | apply Kd.R_drewN | apply Kd.R_drew)); exact HO332.out) hb)
          have n3_ := Az.mk (Kd.R_lower (Kd.R_new' ho17 (Kd.R_lt (by (with_reducible repeat (first | apply Kd.R_alloc | apply Kd.R_drewN | apply Kd.R_drew)); exact HO326.out))) (below_size (by repeat (first | (with_reducible first | exact HB.out | apply zq2 | apply zq1 | apply zqd | refine zq3 ?_ GE319.out) | exact HB.out))))
          have n4_ := Az.mk (blk_below (g := gb319) (o := .cells #[.int .i64 0, .slice none 0 0, .slice none 0 0, .slice none 0 0, .slice none 0 0] 28 (0, 0)) (by (with_reducible repeat (first | refine zq6 ?_ _ | refine zq8 ?_ | refine zq7 ?_ _)); exact BK319.out) hb)
          have n5_ := Az.mk (below_step (by repeat (first | (with_reducible first | exact HB.out | apply zq2 | apply zq1 | apply zqd | refine zq3 ?_ GE319.out) | exact HB.out)) hb)
          clear HO326
          clear HO329
          clear HO332
          clear BK319
          clear HB
          have HO326 := n0_
          have HO329 := n1_
          have HO332 := n2_
          have HO323 := n3_
          have BK319 := n4_
          have HB := n5_
          clear n0_ n1_ n2_ n3_ n4_ n5_
          clear hb ho17
          obtain ⟨Ao18, co18, eo18⟩ := Kd.R_slice HO332.out
          (first | subst eo18 | (injection eo18 with f1_ f2_ f3_; have f4_ := f1_.symm; have f5_ := f3_.symm; clear f1_ f2_ f3_; subst f4_; subst f5_))
          obtain ⟨Ao19, co19, eo19⟩ := Kd.R_slice HO329.out
          (first | subst eo19 | (injection eo19 with f1_ f2_ f3_; have f4_ := f1_.symm; have f5_ := f3_.symm; clear f1_ f2_ f3_; subst f4_; subst f5_))
          obtain ⟨Ao20, co20, eo20⟩ := Kd.R_slice HO326.out
          (first | subst eo20 | (injection eo20 with f1_ f2_ f3_; have f4_ := f1_.symm; have f5_ := f3_.symm; clear f1_ f2_ f3_; subst f4_; subst f5_))
          obtain ⟨Ao21, co21, eo21⟩ := Kd.R_slice HO323.out
          (first | subst eo21 | (injection eo21 with f1_ f2_ f3_; have f4_ := f1_.symm; have f5_ := f3_.symm; clear f1_ f2_ f3_; subst f4_; subst f5_))
          refine hK.out _ _ trivial (fun hHeld => ?_)
          clear hK K
          refine norm_ (a' := ?_) ?_ ?_
          rotate_left
          ·show Act.put _ (some 8) _ = _
           simp only [Act.put, List.setIfInBounds_toArray, List.set_cons_zero, List.set_cons_succ, i64_w, i32_w]
           rfl
          exact norm_ (by first | (simp only [putAll, Act.put, List.setIfInBounds_toArray, List.set_cons_zero, List.set_cons_succ]; done) | (simp only [putAll, Act.put, List.setIfInBounds_toArray, List.set_cons_zero, List.set_cons_succ]; rfl)) (hJ1_2_3_4 (.slice Ao21 y321.length co21, .slice Ao20 y324.length co20, .slice Ao19 y327.length co19, .slice Ao18 y330.length co18) _ ⟨(by (with_reducible repeat (first | apply Kd.R_alloc | apply Kd.R_drewN | apply Kd.R_drew)); exact Kd.R_mono HO323.out (fun _ hk => hk.2)), (by (with_reducible repeat (first | apply Kd.R_alloc | apply Kd.R_drewN | apply Kd.R_drew)); exact Kd.R_mono HO326.out (fun _ hk => hk.2)), (by (with_reducible repeat (first | apply Kd.R_alloc | apply Kd.R_drewN | apply Kd.R_drew)); exact HO329.out), (by (with_reducible repeat (first | apply Kd.R_alloc | apply Kd.R_drewN | apply Kd.R_drew)); exact HO332.out), (by (with_reducible repeat (first | refine zq6 ?_ _ | refine zq8 ?_ | refine zq7 ?_ _)); exact BK319.out), (by repeat (first | (with_reducible first | exact HB.out | apply zq2 | apply zq1 | apply zqd | refine zq3 ?_ GE319.out) | exact HB.out))⟩)
        ·skip
         rintro ⟨v322, v328, v331⟩ w15 ⟨h0_, h1_, h2_, h3_, h4_⟩
         have n0_ : Az (Kd.R Kd.string 9 w15 w.heap.size (fun _ => True) v322 y321) := ⟨h0_⟩
         have n1_ : Az (Kd.R Kd.bool 4 w15 w.heap.size (fun _ => True) v328 y327) := ⟨h1_⟩
         have n2_ : Az (Kd.R k54 54 w15 w.heap.size (fun _ => True) v331 y330) := ⟨h2_⟩
         have n3_ : Az (w15.heap[gb319]? = some (.cells #[.int .i64 0, .slice none 0 0, .slice none 0 0, .slice none 0 0, .slice none 0 0] 28 (0, 0))) := ⟨h3_⟩
         have n4_ : Az (Below w.heap.size w w15) := ⟨h4_⟩
         clear BK319
         clear HB
         clear h0_ h1_ h2_ h3_ h4_
         have HO323 := n0_
         have HO329 := n1_
         have HO332 := n2_
         have BK319 := n3_
         have HB := n4_
         clear n0_ n1_ n2_ n3_ n4_
         have hHeld := trivial
         refine norm_ (a' := ?_) ?_ ?_
         rotate_left
         ·simp only [putAll, Act.put, List.setIfInBounds_toArray, List.set_cons_zero, List.set_cons_succ]
          rfl
         refine one_ (i := 2) (N := some 9) #[true, true, true, true, true, false, false] rfl rfl (by kernel_rfl) (by decide) (fun K hK => ?_)
         refine Kd.R_make_step Kd.string _ 9 (by rfl) (N := 9) rfl 24 _ _ rfl 2 rfl rfl Try.underlying24 (.string ⟨#[]⟩) 16 info9 rfl (by decide) (by omega) (⟨#[]⟩ : ByteArray) (ok := fun _ => True) (okp := fun _ => True) rfl (fun _ hk => hk) trivial (by omega) (by omega) (Below.refl _ _) (Nat.le_refl _) ?_
         intro v325 w16 ho17 hb hg_ hnew_
         clear hg_ hnew_
         (first | rw [← Ny324.out] at ho17 | (simp only [Int.reduceToNat] at ho17; rw [← Ny324.out] at ho17))
         have n0_ := Az.mk (Kd.R_elder' (by (with_reducible repeat (first | apply Kd.R_alloc | apply Kd.R_drewN | apply Kd.R_drew)); exact HO323.out) (Kd.R_base ho17) hb)
         have n1_ := Az.mk (Kd.R_below (by (with_reducible repeat (first | apply Kd.R_alloc | apply Kd.R_drewN | apply Kd.R_drew)); exact HO329.out) hb)
         have n2_ := Az.mk (Kd.R_below (by (with_reducible repeat (first | apply Kd.R_alloc | apply Kd.R_drewN | apply Kd.R_drew)); exact HO332.out) hb)
         have n3_ := Az.mk (Kd.R_lower (Kd.R_new' ho17 (Kd.R_lt (by (with_reducible repeat (first | apply Kd.R_alloc | apply Kd.R_drewN | apply Kd.R_drew)); exact HO323.out))) (below_size (by repeat (first | (with_reducible first | exact HB.out | apply zq2 | apply zq1 | apply zqd | refine zq3 ?_ GE319.out) | exact HB.out))))
         have n4_ := Az.mk (blk_below (g := gb319) (o := .cells #[.int .i64 0, .slice none 0 0, .slice none 0 0, .slice none 0 0, .slice none 0 0] 28 (0, 0)) (by (with_reducible repeat (first | refine zq6 ?_ _ | refine zq8 ?_ | refine zq7 ?_ _)); exact BK319.out) hb)
         have n5_ := Az.mk (below_step (by repeat (first | (with_reducible first | exact HB.out | apply zq2 | apply zq1 | apply zqd | refine zq3 ?_ GE319.out) | exact HB.out)) hb)
         clear HO323
         clear HO329
         clear HO332
         clear BK319
         clear HB
         have HO323 := n0_
         have HO329 := n1_
         have HO332 := n2_
         have HO326 := n3_
         have BK319 := n4_
         have HB := n5_
         clear n0_ n1_ n2_ n3_ n4_ n5_
         clear hb ho17
         obtain ⟨Ao18, co18, eo18⟩ := Kd.R_slice HO332.out
         (first | subst eo18 | (injection eo18 with f1_ f2_ f3_; have f4_ := f1_.symm; have f5_ := f3_.symm; clear f1_ f2_ f3_; subst f4_; subst f5_))
         obtain ⟨Ao19, co19, eo19⟩ := Kd.R_slice HO329.out
         (first | subst eo19 | (injection eo19 with f1_ f2_ f3_; have f4_ := f1_.symm; have f5_ := f3_.symm; clear f1_ f2_ f3_; subst f4_; subst f5_))
         obtain ⟨Ao20, co20, eo20⟩ := Kd.R_slice HO326.out
         (first | subst eo20 | (injection eo20 with f1_ f2_ f3_; have f4_ := f1_.symm; have f5_ := f3_.symm; clear f1_ f2_ f3_; subst f4_; subst f5_))
         obtain ⟨Ao21, co21, eo21⟩ := Kd.R_slice HO323.out
         (first | subst eo21 | (injection eo21 with f1_ f2_ f3_; have f4_ := f1_.symm; have f5_ := f3_.symm; clear f1_ f2_ f3_; subst f4_; subst f5_))
         refine hK.out _ _ trivial (fun hHeld => ?_)
         clear hK K
         refine norm_ (a' := ?_) ?_ ?_
         rotate_left
         ·show Act.put _ (some 9) _ = _
          simp only [Act.put, List.setIfInBounds_toArray, List.set_cons_zero, List.set_cons_succ, i64_w, i32_w]
          rfl
         exact norm_ (by first | (simp only [putAll, Act.put, List.setIfInBounds_toArray, List.set_cons_zero, List.set_cons_succ]; done) | (simp only [putAll, Act.put, List.setIfInBounds_toArray, List.set_cons_zero, List.set_cons_succ]; rfl)) (hJ1_2_3_4 (.slice Ao21 y321.length co21, .slice Ao20 y324.length co20, .slice Ao19 y327.length co19, .slice Ao18 y330.length co18) _ ⟨(by (with_reducible repeat (first | apply Kd.R_alloc | apply Kd.R_drewN | apply Kd.R_drew)); exact Kd.R_mono HO323.out (fun _ hk => hk.2)), (by (with_reducible repeat (first | apply Kd.R_alloc | apply Kd.R_drewN | apply Kd.R_drew)); exact Kd.R_mono HO326.out (fun _ hk => hk.2)), (by (with_reducible repeat (first | apply Kd.R_alloc | apply Kd.R_drewN | apply Kd.R_drew)); exact HO329.out), (by (with_reducible repeat (first | apply Kd.R_alloc | apply Kd.R_drewN | apply Kd.R_drew)); exact HO332.out), (by (with_reducible repeat (first | refine zq6 ?_ _ | refine zq8 ?_ | refine zq7 ?_ _)); exact BK319.out), (by repeat (first | (with_reducible first | exact HB.out | apply zq2 | apply zq1 | apply zqd | refine zq3 ?_ GE319.out) | exact HB.out))⟩)
       ·skip
        rintro ⟨v322, v325, v331⟩ w15 ⟨h0_, h1_, h2_, h3_, h4_⟩
        have n0_ : Az (Kd.R Kd.string 9 w15 w.heap.size (fun k_ => some k_ ≠ (v325 : Value).ownBlock) v322 y321) := ⟨h0_⟩
        have n1_ : Az (Kd.R Kd.string 9 w15 w.heap.size (fun k_ => some k_ ≠ (v322 : Value).ownBlock) v325 y324) := ⟨h1_⟩
        have n2_ : Az (Kd.R k54 54 w15 w.heap.size (fun _ => True) v331 y330) := ⟨h2_⟩
        have n3_ : Az (w15.heap[gb319]? = some (.cells #[.int .i64 0, .slice none 0 0, .slice none 0 0, .slice none 0 0, .slice none 0 0] 28 (0, 0))) := ⟨h3_⟩
        have n4_ : Az (Below w.heap.size w w15) := ⟨h4_⟩
        clear BK319
        clear HB
        clear h0_ h1_ h2_ h3_ h4_
        have HO323 := n0_
        have HO326 := n1_
        have HO332 := n2_
        have BK319 := n3_
        have HB := n4_
        clear n0_ n1_ n2_ n3_ n4_
        have hHeld := trivial
        refine norm_ (a' := ?_) ?_ ?_
        rotate_left
        ·simp only [putAll, Act.put, List.setIfInBounds_toArray, List.set_cons_zero, List.set_cons_succ]
         rfl
        refine one_ (i := 3) (N := some 10) #[true, true, true, true, true, false, false] rfl rfl (by kernel_rfl) (by decide) (fun K hK => ?_)
        refine Kd.R_make_step Kd.bool _ 4 (by rfl) (N := 10) rfl 25 _ _ rfl 12 rfl rfl Try.underlying25 (.bool false) 1 info4 rfl (by decide) (by omega) false (ok := fun _ => True) (okp := fun _ => True) rfl (fun _ hk => hk) trivial (by omega) (by omega) (Below.refl _ _) (Nat.le_refl _) ?_
        intro v328 w16 ho17 hb hg_ hnew_
        clear hg_ hnew_
        (first | rw [← Ny327.out] at ho17 | (simp only [Int.reduceToNat] at ho17; rw [← Ny327.out] at ho17))
        have n0_ := Az.mk (Kd.R_below (by (with_reducible repeat (first | apply Kd.R_alloc | apply Kd.R_drewN | apply Kd.R_drew)); exact HO323.out) hb)
        have n1_ := Az.mk (Kd.R_below (by (with_reducible repeat (first | apply Kd.R_alloc | apply Kd.R_drewN | apply Kd.R_drew)); exact HO326.out) hb)
        have n2_ := Az.mk (Kd.R_below (by (with_reducible repeat (first | apply Kd.R_alloc | apply Kd.R_drewN | apply Kd.R_drew)); exact HO332.out) hb)
        have n3_ := Az.mk (Kd.R_lower ho17 (below_size (by repeat (first | (with_reducible first | exact HB.out | apply zq2 | apply zq1 | apply zqd | refine zq3 ?_ GE319.out) | exact HB.out))))
        have n4_ := Az.mk (blk_below (g := gb319) (o := .cells #[.int .i64 0, .slice none 0 0, .slice none 0 0, .slice none 0 0, .slice none 0 0] 28 (0, 0)) (by (with_reducible repeat (first | refine zq6 ?_ _ | refine zq8 ?_ | refine zq7 ?_ _)); exact BK319.out) hb)
        have n5_ := Az.mk (below_step (by repeat (first | (with_reducible first | exact HB.out | apply zq2 | apply zq1 | apply zqd | refine zq3 ?_ GE319.out) | exact HB.out)) hb)
        clear HO323
        clear HO326
        clear HO332
        clear BK319
        clear HB
        have HO323 := n0_
        have HO326 := n1_
        have HO332 := n2_
        have HO329 := n3_
        have BK319 := n4_
        have HB := n5_
        clear n0_ n1_ n2_ n3_ n4_ n5_
        clear hb ho17
        obtain ⟨Ao18, co18, eo18⟩ := Kd.R_slice HO332.out
        (first | subst eo18 | (injection eo18 with f1_ f2_ f3_; have f4_ := f1_.symm; have f5_ := f3_.symm; clear f1_ f2_ f3_; subst f4_; subst f5_))
        obtain ⟨Ao19, co19, eo19⟩ := Kd.R_slice HO329.out
        (first | subst eo19 | (injection eo19 with f1_ f2_ f3_; have f4_ := f1_.symm; have f5_ := f3_.symm; clear f1_ f2_ f3_; subst f4_; subst f5_))
        obtain ⟨Ao20, co20, eo20⟩ := Kd.R_slice HO326.out
        (first | subst eo20 | (injection eo20 with f1_ f2_ f3_; have f4_ := f1_.symm; have f5_ := f3_.symm; clear f1_ f2_ f3_; subst f4_; subst f5_))
        obtain ⟨Ao21, co21, eo21⟩ := Kd.R_slice HO323.out
        (first | subst eo21 | (injection eo21 with f1_ f2_ f3_; have f4_ := f1_.symm; have f5_ := f3_.symm; clear f1_ f2_ f3_; subst f4_; subst f5_))
        refine hK.out _ _ trivial (fun hHeld => ?_)
        clear hK K
        refine norm_ (a' := ?_) ?_ ?_
        rotate_left
        ·show Act.put _ (some 10) _ = _
         simp only [Act.put, List.setIfInBounds_toArray, List.set_cons_zero, List.set_cons_succ, i64_w, i32_w]
         rfl
        exact norm_ (by first | (simp only [putAll, Act.put, List.setIfInBounds_toArray, List.set_cons_zero, List.set_cons_succ]; done) | (simp only [putAll, Act.put, List.setIfInBounds_toArray, List.set_cons_zero, List.set_cons_succ]; rfl)) (hJ1_2_3_4 (.slice Ao21 y321.length co21, .slice Ao20 y324.length co20, .slice Ao19 y327.length co19, .slice Ao18 y330.length co18) _ ⟨(by (with_reducible repeat (first | apply Kd.R_alloc | apply Kd.R_drewN | apply Kd.R_drew)); exact HO323.out), (by (with_reducible repeat (first | apply Kd.R_alloc | apply Kd.R_drewN | apply Kd.R_drew)); exact HO326.out), (by (with_reducible repeat (first | apply Kd.R_alloc | apply Kd.R_drewN | apply Kd.R_drew)); exact HO329.out), (by (with_reducible repeat (first | apply Kd.R_alloc | apply Kd.R_drewN | apply Kd.R_drew)); exact HO332.out), (by (with_reducible repeat (first | refine zq6 ?_ _ | refine zq8 ?_ | refine zq7 ?_ _)); exact BK319.out), (by repeat (first | (with_reducible first | exact HB.out | apply zq2 | apply zq1 | apply zqd | refine zq3 ?_ GE319.out) | exact HB.out))⟩)
      ·skip
       rintro ⟨v322, v325, v328⟩ w15 ⟨h0_, h1_, h2_, h3_, h4_⟩
       have n0_ : Az (Kd.R Kd.string 9 w15 w.heap.size (fun k_ => some k_ ≠ (v325 : Value).ownBlock) v322 y321) := ⟨h0_⟩
       have n1_ : Az (Kd.R Kd.string 9 w15 w.heap.size (fun k_ => some k_ ≠ (v322 : Value).ownBlock) v325 y324) := ⟨h1_⟩
       have n2_ : Az (Kd.R Kd.bool 4 w15 w.heap.size (fun _ => True) v328 y327) := ⟨h2_⟩
       have n3_ : Az (w15.heap[gb319]? = some (.cells #[.int .i64 0, .slice none 0 0, .slice none 0 0, .slice none 0 0, .slice none 0 0] 28 (0, 0))) := ⟨h3_⟩
       have n4_ : Az (Below w.heap.size w w15) := ⟨h4_⟩
       clear BK319
       clear HB
       clear h0_ h1_ h2_ h3_ h4_
       have HO323 := n0_
       have HO326 := n1_
       have HO329 := n2_
       have BK319 := n3_
       have HB := n4_
       clear n0_ n1_ n2_ n3_ n4_
       have hHeld := trivial
       refine norm_ (a' := ?_) ?_ ?_
       rotate_left
       ·simp only [putAll, Act.put, List.setIfInBounds_toArray, List.set_cons_zero, List.set_cons_succ]
        rfl
       refine one_ (i := 4) (N := some 11) #[true, true, true, true, true, false, false] rfl rfl (by kernel_rfl) (by decide) (fun K hK => ?_)
       refine Kd.R_lit_step k54 _ 54 ?hg (N := 11) ?hd (xs := ([] : List (S54))) (inner := []) (ok := fun _ => True) (okp := fun _ => True) ?hr ?hp (fun _ hk => hk) trivial (Below.refl _ _) (Nat.le_refl _) (by simp) ?_; (case hd => rfl); (case hg => rfl); (case hr => first | (go_simp; done) | (go_simp; rfl)); (case hp => exact (Reps.none _ _))
       intro v331 w16 ho17 hb hg_ hnew_
       clear hg_ hnew_
       (first | rw [← Ny330.out] at ho17 | (simp only [Int.reduceToNat] at ho17; rw [← Ny330.out] at ho17))
       have n0_ := Az.mk (Kd.R_below (by (with_reducible repeat (first | apply Kd.R_alloc | apply Kd.R_drewN | apply Kd.R_drew)); exact HO323.out) hb)
       have n1_ := Az.mk (Kd.R_below (by (with_reducible repeat (first | apply Kd.R_alloc | apply Kd.R_drewN | apply Kd.R_drew)); exact HO326.out) hb)
       have n2_ := Az.mk (Kd.R_below (by (with_reducible repeat (first | apply Kd.R_alloc | apply Kd.R_drewN | apply Kd.R_drew)); exact HO329.out) hb)
       have n3_ := Az.mk (Kd.R_lower ho17 (below_size (by repeat (first | (with_reducible first | exact HB.out | apply zq2 | apply zq1 | apply zqd | refine zq3 ?_ GE319.out) | exact HB.out))))
       have n4_ := Az.mk (blk_below (g := gb319) (o := .cells #[.int .i64 0, .slice none 0 0, .slice none 0 0, .slice none 0 0, .slice none 0 0] 28 (0, 0)) (by (with_reducible repeat (first | refine zq6 ?_ _ | refine zq8 ?_ | refine zq7 ?_ _)); exact BK319.out) hb)
       have n5_ := Az.mk (below_step (by repeat (first | (with_reducible first | exact HB.out | apply zq2 | apply zq1 | apply zqd | refine zq3 ?_ GE319.out) | exact HB.out)) hb)
       clear HO323
       clear HO326
       clear HO329
       clear BK319
       clear HB
       have HO323 := n0_
       have HO326 := n1_
       have HO329 := n2_
       have HO332 := n3_
       have BK319 := n4_
       have HB := n5_
       clear n0_ n1_ n2_ n3_ n4_ n5_
       clear hb ho17
       obtain ⟨Ao18, co18, eo18⟩ := Kd.R_slice HO332.out
       (first | subst eo18 | (injection eo18 with f1_ f2_ f3_; have f4_ := f1_.symm; have f5_ := f3_.symm; clear f1_ f2_ f3_; subst f4_; subst f5_))
       obtain ⟨Ao19, co19, eo19⟩ := Kd.R_slice HO329.out
       (first | subst eo19 | (injection eo19 with f1_ f2_ f3_; have f4_ := f1_.symm; have f5_ := f3_.symm; clear f1_ f2_ f3_; subst f4_; subst f5_))
       obtain ⟨Ao20, co20, eo20⟩ := Kd.R_slice HO326.out
       (first | subst eo20 | (injection eo20 with f1_ f2_ f3_; have f4_ := f1_.symm; have f5_ := f3_.symm; clear f1_ f2_ f3_; subst f4_; subst f5_))
       obtain ⟨Ao21, co21, eo21⟩ := Kd.R_slice HO323.out
       (first | subst eo21 | (injection eo21 with f1_ f2_ f3_; have f4_ := f1_.symm; have f5_ := f3_.symm; clear f1_ f2_ f3_; subst f4_; subst f5_))
       refine hK.out _ _ trivial (fun hHeld => ?_)
       clear hK K
       refine norm_ (a' := ?_) ?_ ?_
       rotate_left
       ·show Act.put _ (some 11) _ = _
        simp only [Act.put, List.setIfInBounds_toArray, List.set_cons_zero, List.set_cons_succ, i64_w, i32_w]
        rfl
       exact norm_ (by first | (simp only [putAll, Act.put, List.setIfInBounds_toArray, List.set_cons_zero, List.set_cons_succ]; done) | (simp only [putAll, Act.put, List.setIfInBounds_toArray, List.set_cons_zero, List.set_cons_succ]; rfl)) (hJ1_2_3_4 (.slice Ao21 y321.length co21, .slice Ao20 y324.length co20, .slice Ao19 y327.length co19, .slice Ao18 y330.length co18) _ ⟨(by (with_reducible repeat (first | apply Kd.R_alloc | apply Kd.R_drewN | apply Kd.R_drew)); exact HO323.out), (by (with_reducible repeat (first | apply Kd.R_alloc | apply Kd.R_drewN | apply Kd.R_drew)); exact HO326.out), (by (with_reducible repeat (first | apply Kd.R_alloc | apply Kd.R_drewN | apply Kd.R_drew)); exact HO329.out), (by (with_reducible repeat (first | apply Kd.R_alloc | apply Kd.R_drewN | apply Kd.R_drew)); exact HO332.out), (by (with_reducible repeat (first | refine zq6 ?_ _ | refine zq8 ?_ | refine zq7 ?_ _)); exact BK319.out), (by repeat (first | (with_reducible first | exact HB.out | apply zq2 | apply zq1 | apply zqd | refine zq3 ?_ GE319.out) | exact HB.out))⟩)
     rintro ⟨v322, v325, v328, v331⟩ w21 ⟨h0_, h1_, h2_, h3_, h4_, h5_⟩
     have n0_ : Az (Kd.R Kd.string 9 w21 w.heap.size (fun k_ => some k_ ≠ (v325 : Value).ownBlock) v322 y321) := ⟨h0_⟩
     have n1_ : Az (Kd.R Kd.string 9 w21 w.heap.size (fun k_ => some k_ ≠ (v322 : Value).ownBlock) v325 y324) := ⟨h1_⟩
     have n2_ : Az (Kd.R Kd.bool 4 w21 w.heap.size (fun _ => True) v328 y327) := ⟨h2_⟩
     have n3_ : Az (Kd.R k54 54 w21 w.heap.size (fun _ => True) v331 y330) := ⟨h3_⟩
     have n4_ : Az (w21.heap[gb319]? = some (.cells #[.int .i64 0, .slice none 0 0, .slice none 0 0, .slice none 0 0, .slice none 0 0] 28 (0, 0))) := ⟨h4_⟩
     have n5_ : Az (Below w.heap.size w w21) := ⟨h5_⟩
     clear BK319
     clear HB
     clear h0_ h1_ h2_ h3_ h4_ h5_
     have HO323 := n0_
     have HO326 := n1_
     have HO329 := n2_
     have HO332 := n3_
     have BK319 := n4_
     have HB := n5_
     clear n0_ n1_ n2_ n3_ n4_ n5_
     have hHeld := trivial
     obtain ⟨Ao22, co22, eo22⟩ := Kd.R_slice HO332.out
     (first | subst eo22 | (injection eo22 with f1_ f2_ f3_; have f4_ := f1_.symm; have f5_ := f3_.symm; clear f1_ f2_ f3_; subst f4_; subst f5_))
     obtain ⟨Ao23, co23, eo23⟩ := Kd.R_slice HO329.out
     (first | subst eo23 | (injection eo23 with f1_ f2_ f3_; have f4_ := f1_.symm; have f5_ := f3_.symm; clear f1_ f2_ f3_; subst f4_; subst f5_))
     obtain ⟨Ao24, co24, eo24⟩ := Kd.R_slice HO326.out
     (first | subst eo24 | (injection eo24 with f1_ f2_ f3_; have f4_ := f1_.symm; have f5_ := f3_.symm; clear f1_ f2_ f3_; subst f4_; subst f5_))
     obtain ⟨Ao25, co25, eo25⟩ := Kd.R_slice HO323.out
     (first | subst eo25 | (injection eo25 with f1_ f2_ f3_; have f4_ := f1_.symm; have f5_ := f3_.symm; clear f1_ f2_ f3_; subst f4_; subst f5_))
     refine norm_ (a' := ?_) ?_ ?_
     rotate_left
     ·simp only [putAll, Act.put, List.setIfInBounds_toArray, List.set_cons_zero, List.set_cons_succ]
      rfl
     refine zqp (i := 5) (N := some 12) (v := ?_) (a' := ?_) #[true, true, true, true, true, true, false] rfl rfl (by kernel_rfl) (fun _ _ _ h => h) (Or.inl ⟨by rfl, ?_⟩) ?_ ?_
     rotate_left
     ·intro w'
      go_simp
      with_reducible rfl
     rotate_left
     ·simp only [Act.put, List.setIfInBounds_toArray, List.set_cons_zero, List.set_cons_succ, i64_w, i32_w]
      rfl
     refine one_ (i := 6) (N := none) #[true, true, true, true, true, true, true] rfl rfl (by kernel_rfl) (by decide) (fun K hK => ?_)
     have hs26 : w21.cell? ⟨gb319, 0, none⟩ = some (.int .i64 0) := (zq4 BK319.out 0).trans rfl
     have hfs26 := zq5 BK319.out 0
     have hs27 : w21.cell? ⟨gb319, 1, none⟩ = some (.slice none 0 0) := (zq4 BK319.out 1).trans rfl
     have hfs27 := zq5 BK319.out 1
     have hs28 : w21.cell? ⟨gb319, 2, none⟩ = some (.slice none 0 0) := (zq4 BK319.out 2).trans rfl
     have hfs28 := zq5 BK319.out 2
     have hs29 : w21.cell? ⟨gb319, 3, none⟩ = some (.slice none 0 0) := (zq4 BK319.out 3).trans rfl
     have hfs29 := zq5 BK319.out 3
     have hs30 : w21.cell? ⟨gb319, 4, none⟩ = some (.slice none 0 0) := (zq4 BK319.out 4).trans rfl
     have hfs30 := zq5 BK319.out 4
     refine skip_ (w1 := ?_) (by rfl) rfl ?_ ?_
     rotate_left
     ·go_simp
      rfl
     refine hK.out _ _ trivial (fun hHeld => ?_)
     clear hK K
     refine done_ (by kernel_rfl) ?_
     try go_wp2
     refine bodyPost_ret (results_cell_row rfl _ _ gb319 28 #[.int .i64 a0, .slice Ao25 y321.length co25, .slice Ao24 y324.length co24, .slice Ao23 y327.length co23, .slice Ao22 y330.length co22] (0, 0) _ rfl (by (with_reducible repeat (first | refine zq6 ?_ _ | refine zq8 ?_ | refine zq7 ?_ _)); refine blk_put (cs := #[.int .i64 a0, .slice Ao25 y321.length co25, .slice Ao24 y324.length co24, .slice Ao23 y327.length co23, .slice none 0 0]) ?_ 4 _ rfl; (with_reducible repeat (first | refine zq6 ?_ _ | refine zq8 ?_ | refine zq7 ?_ _)); refine blk_put (cs := #[.int .i64 a0, .slice Ao25 y321.length co25, .slice Ao24 y324.length co24, .slice none 0 0, .slice none 0 0]) ?_ 3 _ rfl; (with_reducible repeat (first | refine zq6 ?_ _ | refine zq8 ?_ | refine zq7 ?_ _)); refine blk_put (cs := #[.int .i64 a0, .slice Ao25 y321.length co25, .slice none 0 0, .slice none 0 0, .slice none 0 0]) ?_ 2 _ rfl; (with_reducible repeat (first | refine zq6 ?_ _ | refine zq8 ?_ | refine zq7 ?_ _)); refine blk_put (cs := #[.int .i64 a0, .slice none 0 0, .slice none 0 0, .slice none 0 0, .slice none 0 0]) ?_ 1 _ rfl; (with_reducible repeat (first | refine zq6 ?_ _ | refine zq8 ?_ | refine zq7 ?_ _)); refine blk_put (cs := #[.int .i64 0, .slice none 0 0, .slice none 0 0, .slice none 0 0, .slice none 0 0]) ?_ 0 _ rfl; (with_reducible repeat (first | refine zq6 ?_ _ | refine zq8 ?_ | refine zq7 ?_ _)); exact BK319.out) Try.underlying28 rfl (by kernel_rfl)) rfl ?_
     exact ⟨_, _, _, _, by first | rfl | (simp [errW_none, errW_some] <;> rfl) | (simp [*, errW_none, errW_some] <;> rfl), by (with_reducible repeat (first | apply Kd.R_alloc | apply Kd.R_drewN | apply Kd.R_drew)); exact Kd.R_mono (Kd.R_far (p := ⟨gb319, 4, none⟩) (Kd.R_far (p := ⟨gb319, 3, none⟩) (Kd.R_far (p := ⟨gb319, 2, none⟩) (Kd.R_far (p := ⟨gb319, 1, none⟩) (Kd.R_far (p := ⟨gb319, 0, none⟩) (Kd.R_types HO323.out BK319.out (by decide)) (fun _ hk => hk.2) (.int .i64 a0)) (fun _ hk => hk.2) (.slice Ao25 y321.length co25)) (fun _ hk => hk.2) (.slice Ao24 y324.length co24)) (fun _ hk => hk.2) (.slice Ao23 y327.length co23)) (fun _ hk => hk.2) (.slice Ao22 y330.length co22)) (fun _ hk => hk.1), by (with_reducible repeat (first | apply Kd.R_alloc | apply Kd.R_drewN | apply Kd.R_drew)); exact Kd.R_mono (Kd.R_far (p := ⟨gb319, 4, none⟩) (Kd.R_far (p := ⟨gb319, 3, none⟩) (Kd.R_far (p := ⟨gb319, 2, none⟩) (Kd.R_far (p := ⟨gb319, 1, none⟩) (Kd.R_far (p := ⟨gb319, 0, none⟩) (Kd.R_types HO326.out BK319.out (by decide)) (fun _ hk => hk.2) (.int .i64 a0)) (fun _ hk => hk.2) (.slice Ao25 y321.length co25)) (fun _ hk => hk.2) (.slice Ao24 y324.length co24)) (fun _ hk => hk.2) (.slice Ao23 y327.length co23)) (fun _ hk => hk.2) (.slice Ao22 y330.length co22)) (fun _ hk => hk.1), by (with_reducible repeat (first | apply Kd.R_alloc | apply Kd.R_drewN | apply Kd.R_drew)); exact Kd.R_mono (Kd.R_far (p := ⟨gb319, 4, none⟩) (Kd.R_far (p := ⟨gb319, 3, none⟩) (Kd.R_far (p := ⟨gb319, 2, none⟩) (Kd.R_far (p := ⟨gb319, 1, none⟩) (Kd.R_far (p := ⟨gb319, 0, none⟩) (Kd.R_types HO329.out BK319.out (by decide)) (fun _ hk => hk.2) (.int .i64 a0)) (fun _ hk => hk.2) (.slice Ao25 y321.length co25)) (fun _ hk => hk.2) (.slice Ao24 y324.length co24)) (fun _ hk => hk.2) (.slice Ao23 y327.length co23)) (fun _ hk => hk.2) (.slice Ao22 y330.length co22)) (fun _ hk => trivial), by (with_reducible repeat (first | apply Kd.R_alloc | apply Kd.R_drewN | apply Kd.R_drew)); exact Kd.R_mono (Kd.R_far (p := ⟨gb319, 4, none⟩) (Kd.R_far (p := ⟨gb319, 3, none⟩) (Kd.R_far (p := ⟨gb319, 2, none⟩) (Kd.R_far (p := ⟨gb319, 1, none⟩) (Kd.R_far (p := ⟨gb319, 0, none⟩) (Kd.R_types HO332.out BK319.out (by decide)) (fun _ hk => hk.2) (.int .i64 a0)) (fun _ hk => hk.2) (.slice Ao25 y321.length co25)) (fun _ hk => hk.2) (.slice Ao24 y324.length co24)) (fun _ hk => hk.2) (.slice Ao23 y327.length co23)) (fun _ hk => hk.2) (.slice Ao22 y330.length co22)) (fun _ hk => trivial), by repeat (first | (with_reducible first | exact HB.out | apply zq2 | apply zq1 | apply zqd | refine zq3 ?_ GE319.out) | exact HB.out)⟩
    ·rw [if_neg c6] at H
     exact absurd H (by simp)
   ·rw [if_neg c5] at H
    exact absurd H (by simp)
  ·rw [if_neg c4] at H
   exact absurd H (by simp)
 ·replace c3 := Bool.eq_false_iff.mpr c3
  subst c3
  have H1 : (some (0, ([] : List ByteArray), ([] : List ByteArray), ([] : List Bool), ([] : List (S54)))) = some (r1, r2, r3, r4, r5) := by rw [if_neg (show ¬ (false = true) by decide)] at H; exact H
  clear H
  have H := H1
  clear H1
  simp only [Option.some.injEq, Prod.mk.injEq] at H
  obtain ⟨rfl, rfl, rfl, rfl, rfl⟩ := H
  go_enter Try.func19, Try.ntmps19
  go_wp2_with (first | ((with_reducible refine zqg (N := 2) rfl ?_); refine zqb ?hg (N := 2) ?hd (cs := #[.int .i64 0, .slice none 0 0, .slice none 0 0, .slice none 0 0, .slice none 0 0]) (t := 28) ?hr ?_; (case hd => rfl); (case hg => rfl); (case hr => first | (go_simp; done) | (go_simp; rfl)); intro gb319 hg w31 hbox hb; have n0_ := Az.mk (below_step (by repeat (first | (with_reducible first | exact HB.out | apply zq2 | apply zq1 | apply zqd) | exact HB.out)) hb); have n1_ := Az.mk (hbox); have n2_ := Az.mk ((by rw [hg]; exact (below_size (by repeat (first | (with_reducible first | exact HB.out | apply zq2 | apply zq1 | apply zqd) | exact HB.out))) : w.heap.size ≤ gb319)); have n3_ := Az.mk ((by rw [hg]; exact (below_size (by repeat (first | (with_reducible first | exact HB.out | apply zq2 | apply zq1 | apply zqd) | exact HB.out))) : w.heap.size ≤ gb319)); clear HB; have HB := n0_; have BK319 := n1_; have GW319 := n2_; have GE319 := n3_; clear n0_ n1_ n2_ n3_; clear hb hbox hg) | ((with_reducible refine gate_callee (f := 51) rfl ?_); refine zq9 (some 4) rfl rfl Try.func51 (by kernel_rfl) rfl #[.int .i64 a0, .int .i64 0, .int .i64 2] rfl (by (try simp only [List.map_toArray, List.map_cons, List.map_nil]); first | done | rfl | (simp only [List.length_drop, List.length_take]; rfl)) ?_; (with_reducible refine (spec_l6In.calls a0 0 2 false _ A2.out).mono ?_); rintro e w' ⟨rfl, ⟨nd, rfl⟩⟩; refine ⟨_, rfl, ?_⟩; (try (rw [drewN_self w31]; generalize hq_ : World.drewN w31 _ = w31; have n0_ : Az (w31.heap[gb319]? = some (.cells #[.int .i64 0, .slice none 0 0, .slice none 0 0, .slice none 0 0, .slice none 0 0] 28 (0, 0))) := ⟨by rw [← hq_]; exact (by (with_reducible repeat (first | refine zq6 ?_ _ | refine zq8 ?_ | refine zq7 ?_ _)); exact BK319.out)⟩; have n1_ : Az (Below w.heap.size w w31) := ⟨by rw [← hq_]; exact (by repeat (first | (with_reducible first | exact HB.out | apply zq2 | apply zq1 | apply zqd | refine zq3 ?_ GE319.out) | exact HB.out))⟩; clear BK319 HB hq_; have BK319 := n0_; have HB := n1_; clear n0_ n1_)); have hcz32_0 : w31.cell? ⟨gb319, 0, none⟩ = some (.int .i64 0) := (zq4 BK319.out 0).trans rfl; have hcz32_1 : w31.cell? ⟨gb319, 1, none⟩ = some (.slice none 0 0) := (zq4 BK319.out 1).trans rfl; have hcz32_2 : w31.cell? ⟨gb319, 2, none⟩ = some (.slice none 0 0) := (zq4 BK319.out 2).trans rfl; have hcz32_3 : w31.cell? ⟨gb319, 3, none⟩ = some (.slice none 0 0) := (zq4 BK319.out 3).trans rfl; have hcz32_4 : w31.cell? ⟨gb319, 4, none⟩ = some (.slice none 0 0) := (zq4 BK319.out 4).trans rfl; have hfz32_0 := zq5 BK319.out 0; have hfz32_1 := zq5 BK319.out 1; have hfz32_2 := zq5 BK319.out 2; have hfz32_3 := zq5 BK319.out 3; have hfz32_4 := zq5 BK319.out 4))
  refine bodyPost_ret (results_cell_row rfl _ _ gb319 28 #[.int .i64 0, .slice none 0 0, .slice none 0 0, .slice none 0 0, .slice none 0 0] (0, 0) _ rfl (by (with_reducible repeat (first | refine zq6 ?_ _ | refine zq8 ?_ | refine zq7 ?_ _)); refine blk_put (cs := #[.int .i64 0, .slice none 0 0, .slice none 0 0, .slice none 0 0, .slice none 0 0]) ?_ 4 _ rfl; (with_reducible repeat (first | refine zq6 ?_ _ | refine zq8 ?_ | refine zq7 ?_ _)); refine blk_put (cs := #[.int .i64 0, .slice none 0 0, .slice none 0 0, .slice none 0 0, .slice none 0 0]) ?_ 3 _ rfl; (with_reducible repeat (first | refine zq6 ?_ _ | refine zq8 ?_ | refine zq7 ?_ _)); refine blk_put (cs := #[.int .i64 0, .slice none 0 0, .slice none 0 0, .slice none 0 0, .slice none 0 0]) ?_ 2 _ rfl; (with_reducible repeat (first | refine zq6 ?_ _ | refine zq8 ?_ | refine zq7 ?_ _)); refine blk_put (cs := #[.int .i64 0, .slice none 0 0, .slice none 0 0, .slice none 0 0, .slice none 0 0]) ?_ 1 _ rfl; (with_reducible repeat (first | refine zq6 ?_ _ | refine zq8 ?_ | refine zq7 ?_ _)); refine blk_put (cs := #[.int .i64 0, .slice none 0 0, .slice none 0 0, .slice none 0 0, .slice none 0 0]) ?_ 0 _ rfl; (with_reducible repeat (first | refine zq6 ?_ _ | refine zq8 ?_ | refine zq7 ?_ _)); exact BK319.out) Try.underlying28 rfl (by kernel_rfl)) rfl ?_
  exact ⟨_, _, _, _, by first | rfl | (simp [errW_none, errW_some] <;> rfl) | (simp [*, errW_none, errW_some] <;> rfl), by first | exact Kd.R_nil _ _ _ _ _ | exact Kd.N_nil _ _ _ _ _ | exact Kd.V_nil _ _ _ _ _ | exact Kd.Q_nil _ _ _ _ _ | exact Kd.S_nil _ _ _ _ _, by first | exact Kd.R_nil _ _ _ _ _ | exact Kd.N_nil _ _ _ _ _ | exact Kd.V_nil _ _ _ _ _ | exact Kd.Q_nil _ _ _ _ _ | exact Kd.S_nil _ _ _ _ _, by first | exact Kd.R_nil _ _ _ _ _ | exact Kd.N_nil _ _ _ _ _ | exact Kd.V_nil _ _ _ _ _ | exact Kd.Q_nil _ _ _ _ _ | exact Kd.S_nil _ _ _ _ _, by first | exact Kd.R_nil _ _ _ _ _ | exact Kd.N_nil _ _ _ _ _ | exact Kd.V_nil _ _ _ _ _ | exact Kd.Q_nil _ _ _ _ _ | exact Kd.S_nil _ _ _ _ _, by repeat (first | (with_reducible first | exact HB.out | apply zq2 | apply zq1 | apply zqd | refine zq3 ?_ GE319.out) | exact HB.out)⟩
end Go.Proofs.Ytkgpnloghmbmlaa.Print
namespace Go.Proofs.Ytkgpnloghmbmlaa.Print
open Go.RowKit Go.Proofs.YtkgpnloghmbmlaaW.PrintWords Go.Proofs.YtkgpnloghmbmlaaW.PrintLast Go.Proofs.YtkgpnloghmbmlaaW.PrintMore
attribute [local go_sem] max2_int min2_int max_two min_two max_three min_three max_four min_four   -- for this text's walks alone
set_option linter.unusedVariables false
set_option linter.unusedSimpArgs false
end Go.Proofs.Ytkgpnloghmbmlaa.Print
namespace Go.Proofs.Ytkgpnloghmbmlaa.Print
open Go.RowKit Go.Proofs.YtkgpnloghmbmlaaW.PrintWords Go.Proofs.YtkgpnloghmbmlaaW.PrintLast Go.Proofs.YtkgpnloghmbmlaaW.PrintMore
attribute [local go_sem] max2_int min2_int max_two min_two max_three min_three max_four min_four   -- for this text's walks alone
set_option linter.unusedVariables false
set_option linter.unusedSimpArgs false
end Go.Proofs.Ytkgpnloghmbmlaa.Print
namespace Go.Proofs.Ytkgpnloghmbmlaa.Print
open Go.RowKit Go.Proofs.YtkgpnloghmbmlaaW.PrintWords Go.Proofs.YtkgpnloghmbmlaaW.PrintLast Go.Proofs.YtkgpnloghmbmlaaW.PrintMore
attribute [local go_sem] max2_int min2_int max_two min_two max_three min_three max_four min_four   -- for this text's walks alone
set_option linter.unusedVariables false
set_option linter.unusedSimpArgs false
end Go.Proofs.Ytkgpnloghmbmlaa.Print
namespace Go.Proofs.Ytkgpnloghmbmlaa.Print
open Go.RowKit Go.Proofs.YtkgpnloghmbmlaaW.PrintWords Go.Proofs.YtkgpnloghmbmlaaW.PrintLast Go.Proofs.YtkgpnloghmbmlaaW.PrintMore
attribute [local go_sem] max2_int min2_int max_two min_two max_three min_three max_four min_four   -- for this text's walks alone
set_option linter.unusedVariables false
set_option linter.unusedSimpArgs false
def impl_putOk.f (a0_0 : Bool) (a0_1 : Int) (a0_2 : ByteArray) : Option (Bool) := if a0_0 = true then (if a0_1 ≥ 0 then (if a0_1 < 2 then (some (decide ((a0_2.size : Int) ≤ 700))) else (some false)) else (some false)) else (if a0_1 ≥ 0 then (if a0_1 < 12 then ((impl_isColumn.f a0_2).bind fun t174 => (some t174)) else (some false)) else (some false))
set_option maxHeartbeats 8000000 in
set_option maxRecDepth 100000 in
theorem impl_putOk.calls (a0_0 : Bool) (a0_1 : Int) (a0_2 : ByteArray) (r : Bool) (w : World) (h : impl_putOk.f a0_0 a0_1 a0_2 = some r) :
  Calls Try.prog 83 #[.agg #[.bool a0_0, .int .i64 a0_1, .string a0_2]] w fun e w' => e = .returned (.bool r) ∧ Below w.heap.size w w' := by
 have hu54 := Try.underlying54
 have HB := Az.mk (Below.refl w.heap.size w)
 have H : (if a0_0 = true then (if a0_1 ≥ 0 then (if a0_1 < 2 then (some (decide ((a0_2.size : Int) ≤ 700))) else (some false)) else (some false)) else (if a0_1 ≥ 0 then (if a0_1 < 12 then ((impl_isColumn.f a0_2).bind fun t174 => (some t174)) else (some false)) else (some false))) = some r := h
 clear h
 by_cases c2 : a0_0 = true
 ·subst c2
  have H1 : (if a0_1 ≥ 0 then (if a0_1 < 2 then (some (decide ((a0_2.size : Int) ≤ 700))) else (some false)) else (some false)) = some r := by rw [if_pos rfl] at H; exact H
  clear H
  have H := H1
  clear H1
  by_cases c3 : a0_1 ≥ 0
  ·rw [if_pos c3] at H
   have c3b0 : decide (0 ≤ a0_1) = true := decide_eq_true c3
   clear c3
   by_cases c4 : a0_1 < 2
   ·rw [if_pos c4] at H
    have c4b0 : decide (a0_1 < 2) = true := decide_eq_true c4
    clear c4
    obtain rfl := Option.some.inj H
    go_enter Try.func83, Try.ntmps83
    go_wp2_with (first | ((with_reducible refine zqg (N := 1) rfl ?_); (try (refine gate_guard (by rfl) ?_; dsimp only)); refine zqb ?hg (N := 1) ?hd (cs := #[.bool true, .int .i64 a0_1, .string a0_2]) (t := 54) ?hr ?_; (case hd => rfl); (case hg => rfl); (case hr => first | (go_simp; done) | (go_simp; rfl)); intro gb173 hg w5 hbox hb; have n0_ := Az.mk (below_step (by repeat (first | (with_reducible first | exact HB.out | apply zq2 | apply zq1 | apply zqd) | exact HB.out)) hb); have n1_ := Az.mk (hbox); have n2_ := Az.mk ((by rw [hg]; exact (below_size (by repeat (first | (with_reducible first | exact HB.out | apply zq2 | apply zq1 | apply zqd) | exact HB.out))) : w.heap.size ≤ gb173)); have n3_ := Az.mk ((by rw [hg]; exact (below_size (by repeat (first | (with_reducible first | exact HB.out | apply zq2 | apply zq1 | apply zqd) | exact HB.out))) : w.heap.size ≤ gb173)); clear HB; have HB := n0_; have BK173 := n1_; have GW173 := n2_; have GE173 := n3_; clear n0_ n1_ n2_ n3_; clear hb hbox hg; have hcz6_0 : w5.cell? ⟨gb173, 0, none⟩ = some (.bool true) := (zq4 BK173.out 0).trans rfl; have hcz6_1 : w5.cell? ⟨gb173, 1, none⟩ = some (.int .i64 a0_1) := (zq4 BK173.out 1).trans rfl; have hcz6_2 : w5.cell? ⟨gb173, 2, none⟩ = some (.string a0_2) := (zq4 BK173.out 2).trans rfl; have hfz6_0 := zq5 BK173.out 0; have hfz6_1 := zq5 BK173.out 1; have hfz6_2 := zq5 BK173.out 2))
    go_ret
    exact ⟨by first | rfl | (simp [errW_none, errW_some] <;> rfl) | (simp [*, errW_none, errW_some] <;> rfl), by repeat (first | (with_reducible first | exact HB.out | apply zq2 | apply zq1 | apply zqd | refine zq3 ?_ GE173.out) | exact HB.out)⟩
   ·rw [if_neg c4] at H
    have c4b0 : decide (a0_1 < 2) = false := decide_eq_false c4
    clear c4
    obtain rfl := Option.some.inj H
    go_enter Try.func83, Try.ntmps83
    go_wp2_with (first | ((with_reducible refine zqg (N := 1) rfl ?_); (try (refine gate_guard (by rfl) ?_; dsimp only)); refine zqb ?hg (N := 1) ?hd (cs := #[.bool true, .int .i64 a0_1, .string a0_2]) (t := 54) ?hr ?_; (case hd => rfl); (case hg => rfl); (case hr => first | (go_simp; done) | (go_simp; rfl)); intro gb173 hg w7 hbox hb; have n0_ := Az.mk (below_step (by repeat (first | (with_reducible first | exact HB.out | apply zq2 | apply zq1 | apply zqd) | exact HB.out)) hb); have n1_ := Az.mk (hbox); have n2_ := Az.mk ((by rw [hg]; exact (below_size (by repeat (first | (with_reducible first | exact HB.out | apply zq2 | apply zq1 | apply zqd) | exact HB.out))) : w.heap.size ≤ gb173)); have n3_ := Az.mk ((by rw [hg]; exact (below_size (by repeat (first | (with_reducible first | exact HB.out | apply zq2 | apply zq1 | apply zqd) | exact HB.out))) : w.heap.size ≤ gb173)); clear HB; have HB := n0_; have BK173 := n1_; have GW173 := n2_; have GE173 := n3_; clear n0_ n1_ n2_ n3_; clear hb hbox hg; have hcz8_0 : w7.cell? ⟨gb173, 0, none⟩ = some (.bool true) := (zq4 BK173.out 0).trans rfl; have hcz8_1 : w7.cell? ⟨gb173, 1, none⟩ = some (.int .i64 a0_1) := (zq4 BK173.out 1).trans rfl; have hcz8_2 : w7.cell? ⟨gb173, 2, none⟩ = some (.string a0_2) := (zq4 BK173.out 2).trans rfl; have hfz8_0 := zq5 BK173.out 0; have hfz8_1 := zq5 BK173.out 1; have hfz8_2 := zq5 BK173.out 2))
    go_ret
    exact ⟨by first | rfl | (simp [errW_none, errW_some] <;> rfl) | (simp [*, errW_none, errW_some] <;> rfl), by repeat (first | (with_reducible first | exact HB.out | apply zq2 | apply zq1 | apply zqd | refine zq3 ?_ GE173.out) | exact HB.out)⟩
  ·rw [if_neg c3] at H
   have c3b0 : decide (0 ≤ a0_1) = false := decide_eq_false c3
   clear c3
   obtain rfl := Option.some.inj H
   go_enter Try.func83, Try.ntmps83
   go_wp2_with (first | ((with_reducible refine zqg (N := 1) rfl ?_); (try (refine gate_guard (by rfl) ?_; dsimp only)); refine zqb ?hg (N := 1) ?hd (cs := #[.bool true, .int .i64 a0_1, .string a0_2]) (t := 54) ?hr ?_; (case hd => rfl); (case hg => rfl); (case hr => first | (go_simp; done) | (go_simp; rfl)); intro gb173 hg w9 hbox hb; have n0_ := Az.mk (below_step (by repeat (first | (with_reducible first | exact HB.out | apply zq2 | apply zq1 | apply zqd) | exact HB.out)) hb); have n1_ := Az.mk (hbox); have n2_ := Az.mk ((by rw [hg]; exact (below_size (by repeat (first | (with_reducible first | exact HB.out | apply zq2 | apply zq1 | apply zqd) | exact HB.out))) : w.heap.size ≤ gb173)); have n3_ := Az.mk ((by rw [hg]; exact (below_size (by repeat (first | (with_reducible first | exact HB.out | apply zq2 | apply zq1 | apply zqd) | exact HB.out))) : w.heap.size ≤ gb173)); clear HB; have HB := n0_; have BK173 := n1_; have GW173 := n2_; have GE173 := n3_; clear n0_ n1_ n2_ n3_; clear hb hbox hg; have hcz10_0 : w9.cell? ⟨gb173, 0, none⟩ = some (.bool true) := (zq4 BK173.out 0).trans rfl; have hcz10_1 : w9.cell? ⟨gb173, 1, none⟩ = some (.int .i64 a0_1) := (zq4 BK173.out 1).trans rfl; have hcz10_2 : w9.cell? ⟨gb173, 2, none⟩ = some (.string a0_2) := (zq4 BK173.out 2).trans rfl; have hfz10_0 := zq5 BK173.out 0; have hfz10_1 := zq5 BK173.out 1; have hfz10_2 := zq5 BK173.out 2))
   go_ret
   exact ⟨by first | rfl | (simp [errW_none, errW_some] <;> rfl) | (simp [*, errW_none, errW_some] <;> rfl), by repeat (first | (with_reducible first | exact HB.out | apply zq2 | apply zq1 | apply zqd | refine zq3 ?_ GE173.out) | exact HB.out)⟩
 ·replace c2 := Bool.eq_false_iff.mpr c2
  subst c2
  have H1 : (if a0_1 ≥ 0 then (if a0_1 < 12 then ((impl_isColumn.f a0_2).bind fun t174 => (some t174)) else (some false)) else (some false)) = some r := by rw [if_neg (show ¬ (false = true) by decide)] at H; exact H
  clear H
  have H := H1
  clear H1
  by_cases c11 : a0_1 ≥ 0
  ·rw [if_pos c11] at H
   have c11b0 : decide (0 ≤ a0_1) = true := decide_eq_true c11
   clear c11
   by_cases c12 : a0_1 < 12
   ·rw [if_pos c12] at H
    have c12b0 : decide (a0_1 < 12) = true := decide_eq_true c12
    clear c12
    replace H := Option.bind_eq_some_iff.mp H
    obtain ⟨t174, A130, H⟩ := H
    replace H : (some t174) = some r := H
    have A13 := Az.mk A130
    clear A130
    obtain rfl := Option.some.inj H
    go_enter Try.func83, Try.ntmps83
    go_wp2_with (first | ((with_reducible refine zqg (N := 1) rfl ?_); (try (refine gate_guard (by rfl) ?_; dsimp only)); refine zqb ?hg (N := 1) ?hd (cs := #[.bool false, .int .i64 a0_1, .string a0_2]) (t := 54) ?hr ?_; (case hd => rfl); (case hg => rfl); (case hr => first | (go_simp; done) | (go_simp; rfl)); intro gb173 hg w14 hbox hb; have n0_ := Az.mk (below_step (by repeat (first | (with_reducible first | exact HB.out | apply zq2 | apply zq1 | apply zqd) | exact HB.out)) hb); have n1_ := Az.mk (hbox); have n2_ := Az.mk ((by rw [hg]; exact (below_size (by repeat (first | (with_reducible first | exact HB.out | apply zq2 | apply zq1 | apply zqd) | exact HB.out))) : w.heap.size ≤ gb173)); have n3_ := Az.mk ((by rw [hg]; exact (below_size (by repeat (first | (with_reducible first | exact HB.out | apply zq2 | apply zq1 | apply zqd) | exact HB.out))) : w.heap.size ≤ gb173)); clear HB; have HB := n0_; have BK173 := n1_; have GW173 := n2_; have GE173 := n3_; clear n0_ n1_ n2_ n3_; clear hb hbox hg; have hcz15_0 : w14.cell? ⟨gb173, 0, none⟩ = some (.bool false) := (zq4 BK173.out 0).trans rfl; have hcz15_1 : w14.cell? ⟨gb173, 1, none⟩ = some (.int .i64 a0_1) := (zq4 BK173.out 1).trans rfl; have hcz15_2 : w14.cell? ⟨gb173, 2, none⟩ = some (.string a0_2) := (zq4 BK173.out 2).trans rfl; have hfz15_0 := zq5 BK173.out 0; have hfz15_1 := zq5 BK173.out 1; have hfz15_2 := zq5 BK173.out 2) | (go_at_call 94; (with_reducible refine (impl_isColumn.calls a0_2 t174 _ A13.out).mono ?_); rintro e w' ⟨rfl, ⟨nd, rfl⟩⟩))
    go_ret
    exact ⟨by first | rfl | (simp [errW_none, errW_some] <;> rfl) | (simp [*, errW_none, errW_some] <;> rfl), by repeat (first | (with_reducible first | exact HB.out | apply zq2 | apply zq1 | apply zqd | refine zq3 ?_ GE173.out) | exact HB.out)⟩
   ·rw [if_neg c12] at H
    have c12b0 : decide (a0_1 < 12) = false := decide_eq_false c12
    clear c12
    obtain rfl := Option.some.inj H
    go_enter Try.func83, Try.ntmps83
    go_wp2_with (first | ((with_reducible refine zqg (N := 1) rfl ?_); (try (refine gate_guard (by rfl) ?_; dsimp only)); refine zqb ?hg (N := 1) ?hd (cs := #[.bool false, .int .i64 a0_1, .string a0_2]) (t := 54) ?hr ?_; (case hd => rfl); (case hg => rfl); (case hr => first | (go_simp; done) | (go_simp; rfl)); intro gb173 hg w16 hbox hb; have n0_ := Az.mk (below_step (by repeat (first | (with_reducible first | exact HB.out | apply zq2 | apply zq1 | apply zqd) | exact HB.out)) hb); have n1_ := Az.mk (hbox); have n2_ := Az.mk ((by rw [hg]; exact (below_size (by repeat (first | (with_reducible first | exact HB.out | apply zq2 | apply zq1 | apply zqd) | exact HB.out))) : w.heap.size ≤ gb173)); have n3_ := Az.mk ((by rw [hg]; exact (below_size (by repeat (first | (with_reducible first | exact HB.out | apply zq2 | apply zq1 | apply zqd) | exact HB.out))) : w.heap.size ≤ gb173)); clear HB; have HB := n0_; have BK173 := n1_; have GW173 := n2_; have GE173 := n3_; clear n0_ n1_ n2_ n3_; clear hb hbox hg; have hcz17_0 : w16.cell? ⟨gb173, 0, none⟩ = some (.bool false) := (zq4 BK173.out 0).trans rfl; have hcz17_1 : w16.cell? ⟨gb173, 1, none⟩ = some (.int .i64 a0_1) := (zq4 BK173.out 1).trans rfl; have hcz17_2 : w16.cell? ⟨gb173, 2, none⟩ = some (.string a0_2) := (zq4 BK173.out 2).trans rfl; have hfz17_0 := zq5 BK173.out 0; have hfz17_1 := zq5 BK173.out 1; have hfz17_2 := zq5 BK173.out 2))
    go_ret
    exact ⟨by first | rfl | (simp [errW_none, errW_some] <;> rfl) | (simp [*, errW_none, errW_some] <;> rfl), by repeat (first | (with_reducible first | exact HB.out | apply zq2 | apply zq1 | apply zqd | refine zq3 ?_ GE173.out) | exact HB.out)⟩
  ·rw [if_neg c11] at H
   have c11b0 : decide (0 ≤ a0_1) = false := decide_eq_false c11
   clear c11
   obtain rfl := Option.some.inj H
   go_enter Try.func83, Try.ntmps83
   go_wp2_with (first | ((with_reducible refine zqg (N := 1) rfl ?_); (try (refine gate_guard (by rfl) ?_; dsimp only)); refine zqb ?hg (N := 1) ?hd (cs := #[.bool false, .int .i64 a0_1, .string a0_2]) (t := 54) ?hr ?_; (case hd => rfl); (case hg => rfl); (case hr => first | (go_simp; done) | (go_simp; rfl)); intro gb173 hg w18 hbox hb; have n0_ := Az.mk (below_step (by repeat (first | (with_reducible first | exact HB.out | apply zq2 | apply zq1 | apply zqd) | exact HB.out)) hb); have n1_ := Az.mk (hbox); have n2_ := Az.mk ((by rw [hg]; exact (below_size (by repeat (first | (with_reducible first | exact HB.out | apply zq2 | apply zq1 | apply zqd) | exact HB.out))) : w.heap.size ≤ gb173)); have n3_ := Az.mk ((by rw [hg]; exact (below_size (by repeat (first | (with_reducible first | exact HB.out | apply zq2 | apply zq1 | apply zqd) | exact HB.out))) : w.heap.size ≤ gb173)); clear HB; have HB := n0_; have BK173 := n1_; have GW173 := n2_; have GE173 := n3_; clear n0_ n1_ n2_ n3_; clear hb hbox hg; have hcz19_0 : w18.cell? ⟨gb173, 0, none⟩ = some (.bool false) := (zq4 BK173.out 0).trans rfl; have hcz19_1 : w18.cell? ⟨gb173, 1, none⟩ = some (.int .i64 a0_1) := (zq4 BK173.out 1).trans rfl; have hcz19_2 : w18.cell? ⟨gb173, 2, none⟩ = some (.string a0_2) := (zq4 BK173.out 2).trans rfl; have hfz19_0 := zq5 BK173.out 0; have hfz19_1 := zq5 BK173.out 1; have hfz19_2 := zq5 BK173.out 2))
   go_ret
   exact ⟨by first | rfl | (simp [errW_none, errW_some] <;> rfl) | (simp [*, errW_none, errW_some] <;> rfl), by repeat (first | (with_reducible first | exact HB.out | apply zq2 | apply zq1 | apply zqd | refine zq3 ?_ GE173.out) | exact HB.out)⟩
def impl_isState.f (a0 : Int) : Option (Bool) := if a0 ≥ 0 then (some (decide (a0 ≤ 2))) else (some false)
set_option maxHeartbeats 8000000 in
set_option maxRecDepth 100000 in
theorem impl_isState.calls (a0 : Int) (r : Bool) (w : World) (h : impl_isState.f a0 = some r) :
  Calls Try.prog 49 #[.int .i64 a0] w fun e w' => e = .returned (.bool r) ∧ Drawn0 w w' := by
 have H : (if a0 ≥ 0 then (some (decide (a0 ≤ 2))) else (some false)) = some r := h
 clear h
 by_cases c2 : a0 ≥ 0
 ·rw [if_pos c2] at H
  have c2b0 : decide (0 ≤ a0) = true := decide_eq_true c2
  clear c2
  obtain rfl := Option.some.inj H
  go_enter Try.func49, Try.ntmps49
  go_wp2
  go_ret
  exact ⟨by first | rfl | (simp; done) | (simp [*]; done), by repeat (first | exact Drawn0.refl _ | apply Drawn0.step)⟩
 ·rw [if_neg c2] at H
  have c2b0 : decide (0 ≤ a0) = false := decide_eq_false c2
  clear c2
  obtain rfl := Option.some.inj H
  go_enter Try.func49, Try.ntmps49
  go_wp2
  go_ret
  exact ⟨by first | rfl | (simp; done) | (simp [*]; done), by repeat (first | exact Drawn0.refl _ | apply Drawn0.step)⟩
def impl_Disk_shaped.f (a0_0 : Int) (l0_1 : List ByteArray) (l0_2 : List ByteArray) (l0_3 : List Bool) (l0_4 : List (S54)) : Option (Bool) := (impl_isState.f a0_0).bind fun t176 => (if t176 = true then (if (l0_1.length : Int) = 12 then (if (l0_2.length : Int) = 2 then (if (l0_3.length : Int) = 12 then (some (decide ((l0_4.length : Int) ≤ 40))) else (some false)) else (some false)) else (some false)) else (some false))
set_option maxHeartbeats 8000000 in
set_option maxRecDepth 100000 in
theorem impl_Disk_shaped.calls (a0_0 : Int) (A0_1 : Option Addr) (c0_1 : Nat) (l0_1 : List ByteArray) (A0_2 : Option Addr) (c0_2 : Nat) (l0_2 : List ByteArray) (A0_3 : Option Addr) (c0_3 : Nat) (l0_3 : List Bool) (A0_4 : Option Addr) (c0_4 : Nat) (l0_4 : List (S54)) (r : Bool) (w : World) (hr0_1 : Kd.C Kd.string w A0_1 l0_1.length l0_1) (hc0_1 : l0_1.length ≤ c0_1) (hr0_2 : Kd.C Kd.string w A0_2 l0_2.length l0_2) (hc0_2 : l0_2.length ≤ c0_2) (hr0_3 : Kd.C Kd.bool w A0_3 l0_3.length l0_3) (hc0_3 : l0_3.length ≤ c0_3) (hr0_4 : Kd.C k54 w A0_4 l0_4.length l0_4) (hc0_4 : l0_4.length ≤ c0_4) (h : impl_Disk_shaped.f a0_0 l0_1 l0_2 l0_3 l0_4 = some r) :
  Calls Try.prog 91 #[.agg #[.int .i64 a0_0, .slice A0_1 l0_1.length c0_1, .slice A0_2 l0_2.length c0_2, .slice A0_3 l0_3.length c0_3, .slice A0_4 l0_4.length c0_4]] w fun e w' => e = .returned (.bool r) ∧ Below w.heap.size w w' := by
 have hu28 := Try.underlying28
 have HR0_1 := Az.mk hr0_1
 have HC0_1 := Az.mk hc0_1
 clear hr0_1 hc0_1
 have HR0_2 := Az.mk hr0_2
 have HC0_2 := Az.mk hc0_2
 clear hr0_2 hc0_2
 have HR0_3 := Az.mk hr0_3
 have HC0_3 := Az.mk hc0_3
 clear hr0_3 hc0_3
 have HR0_4 := Az.mk hr0_4
 have HC0_4 := Az.mk hc0_4
 clear hr0_4 hc0_4
 have HB := Az.mk (Below.refl w.heap.size w)
 have H : ((impl_isState.f a0_0).bind fun t176 => (if t176 = true then (if (l0_1.length : Int) = 12 then (if (l0_2.length : Int) = 2 then (if (l0_3.length : Int) = 12 then (some (decide ((l0_4.length : Int) ≤ 40))) else (some false)) else (some false)) else (some false)) else (some false))) = some r := h
 clear h
 replace H := Option.bind_eq_some_iff.mp H
 obtain ⟨t176, A20, H⟩ := H
 replace H : (if t176 = true then (if (l0_1.length : Int) = 12 then (if (l0_2.length : Int) = 2 then (if (l0_3.length : Int) = 12 then (some (decide ((l0_4.length : Int) ≤ 40))) else (some false)) else (some false)) else (some false)) else (some false)) = some r := H
 have A2 := Az.mk A20
 clear A20
 by_cases c3 : t176 = true
 ·subst c3
  have H1 : (if (l0_1.length : Int) = 12 then (if (l0_2.length : Int) = 2 then (if (l0_3.length : Int) = 12 then (some (decide ((l0_4.length : Int) ≤ 40))) else (some false)) else (some false)) else (some false)) = some r := by rw [if_pos rfl] at H; exact H
  clear H
  have H := H1
  clear H1
  by_cases c4 : (l0_1.length : Int) = 12
  ·rw [if_pos c4] at H
   have c4b0 : ((l0_1.length : Int) == 12) = true := beq_iff_eq.mpr c4
   have c4b1 : ((l0_1.length : Int) != 12) = false := bne_eq_false_iff_eq.mpr c4
   clear c4
   by_cases c5 : (l0_2.length : Int) = 2
   ·rw [if_pos c5] at H
    have c5b0 : ((l0_2.length : Int) == 2) = true := beq_iff_eq.mpr c5
    have c5b1 : ((l0_2.length : Int) != 2) = false := bne_eq_false_iff_eq.mpr c5
    clear c5
    by_cases c6 : (l0_3.length : Int) = 12
    ·rw [if_pos c6] at H
     have c6b0 : ((l0_3.length : Int) == 12) = true := beq_iff_eq.mpr c6
     have c6b1 : ((l0_3.length : Int) != 12) = false := bne_eq_false_iff_eq.mpr c6
     clear c6
     obtain rfl := Option.some.inj H
     go_enter Try.func91, Try.ntmps91
     go_wp2_with (first | ((with_reducible refine zqg (N := 1) rfl ?_); (try (refine gate_guard (by rfl) ?_; dsimp only)); refine zqb ?hg (N := 1) ?hd (cs := #[.int .i64 a0_0, .slice A0_1 l0_1.length c0_1, .slice A0_2 l0_2.length c0_2, .slice A0_3 l0_3.length c0_3, .slice A0_4 l0_4.length c0_4]) (t := 28) ?hr ?_; (case hd => rfl); (case hg => rfl); (case hr => first | (go_simp; done) | (go_simp; rfl)); intro gb175 hg w7 hbox hb; have n0_ := Az.mk (below_step (by repeat (first | (with_reducible first | exact HB.out | apply zq2 | apply zq1 | apply zqd) | exact HB.out)) hb); have n1_ := Az.mk (hbox); have n2_ := Az.mk ((by rw [hg]; exact (below_size (by repeat (first | (with_reducible first | exact HB.out | apply zq2 | apply zq1 | apply zqd) | exact HB.out))) : w.heap.size ≤ gb175)); have n3_ := Az.mk ((by rw [hg]; exact (below_size (by repeat (first | (with_reducible first | exact HB.out | apply zq2 | apply zq1 | apply zqd) | exact HB.out))) : w.heap.size ≤ gb175)); clear HB; have HB := n0_; have BK175 := n1_; have GW175 := n2_; have GE175 := n3_; clear n0_ n1_ n2_ n3_; clear hb hbox hg; have hcz8_0 : w7.cell? ⟨gb175, 0, none⟩ = some (.int .i64 a0_0) := (zq4 BK175.out 0).trans rfl; have hcz8_1 : w7.cell? ⟨gb175, 1, none⟩ = some (.slice A0_1 l0_1.length c0_1) := (zq4 BK175.out 1).trans rfl; have hcz8_2 : w7.cell? ⟨gb175, 2, none⟩ = some (.slice A0_2 l0_2.length c0_2) := (zq4 BK175.out 2).trans rfl; have hcz8_3 : w7.cell? ⟨gb175, 3, none⟩ = some (.slice A0_3 l0_3.length c0_3) := (zq4 BK175.out 3).trans rfl; have hcz8_4 : w7.cell? ⟨gb175, 4, none⟩ = some (.slice A0_4 l0_4.length c0_4) := (zq4 BK175.out 4).trans rfl; have hfz8_0 := zq5 BK175.out 0; have hfz8_1 := zq5 BK175.out 1; have hfz8_2 := zq5 BK175.out 2; have hfz8_3 := zq5 BK175.out 3; have hfz8_4 := zq5 BK175.out 4) | ((with_reducible refine gate_callee (f := 49) rfl ?_); refine zq9 (some 5) rfl rfl Try.func49 (by kernel_rfl) rfl #[.int .i64 a0_0] rfl (by (try simp only [List.map_toArray, List.map_cons, List.map_nil]); first | done | rfl | (simp only [List.length_drop, List.length_take]; rfl)) ?_; (with_reducible refine (impl_isState.calls a0_0 true _ A2.out).mono ?_); rintro e w' ⟨rfl, ⟨nd, rfl⟩⟩; refine ⟨_, rfl, ?_⟩))
     go_ret
     exact ⟨by first | rfl | (simp [errW_none, errW_some] <;> rfl) | (simp [*, errW_none, errW_some] <;> rfl), by repeat (first | (with_reducible first | exact HB.out | apply zq2 | apply zq1 | apply zqd | refine zq3 ?_ GE175.out) | exact HB.out)⟩
    ·rw [if_neg c6] at H
     have c6b0 : ((l0_3.length : Int) == 12) = false := beq_eq_false_iff_ne.mpr c6
     have c6b1 : ((l0_3.length : Int) != 12) = true := bne_iff_ne.mpr c6
     obtain rfl := Option.some.inj H
     go_enter Try.func91, Try.ntmps91
     go_wp2_with (first | ((with_reducible refine zqg (N := 1) rfl ?_); (try (refine gate_guard (by rfl) ?_; dsimp only)); refine zqb ?hg (N := 1) ?hd (cs := #[.int .i64 a0_0, .slice A0_1 l0_1.length c0_1, .slice A0_2 l0_2.length c0_2, .slice A0_3 l0_3.length c0_3, .slice A0_4 l0_4.length c0_4]) (t := 28) ?hr ?_; (case hd => rfl); (case hg => rfl); (case hr => first | (go_simp; done) | (go_simp; rfl)); intro gb175 hg w9 hbox hb; have n0_ := Az.mk (below_step (by repeat (first | (with_reducible first | exact HB.out | apply zq2 | apply zq1 | apply zqd) | exact HB.out)) hb); have n1_ := Az.mk (hbox); have n2_ := Az.mk ((by rw [hg]; exact (below_size (by repeat (first | (with_reducible first | exact HB.out | apply zq2 | apply zq1 | apply zqd) | exact HB.out))) : w.heap.size ≤ gb175)); have n3_ := Az.mk ((by rw [hg]; exact (below_size (by repeat (first | (with_reducible first | exact HB.out | apply zq2 | apply zq1 | apply zqd) | exact HB.out))) : w.heap.size ≤ gb175)); clear HB; have HB := n0_; have BK175 := n1_; have GW175 := n2_; have GE175 := n3_; clear n0_ n1_ n2_ n3_; clear hb hbox hg; have hcz10_0 : w9.cell? ⟨gb175, 0, none⟩ = some (.int .i64 a0_0) := (zq4 BK175.out 0).trans rfl; have hcz10_1 : w9.cell? ⟨gb175, 1, none⟩ = some (.slice A0_1 l0_1.length c0_1) := (zq4 BK175.out 1).trans rfl; have hcz10_2 : w9.cell? ⟨gb175, 2, none⟩ = some (.slice A0_2 l0_2.length c0_2) := (zq4 BK175.out 2).trans rfl; have hcz10_3 : w9.cell? ⟨gb175, 3, none⟩ = some (.slice A0_3 l0_3.length c0_3) := (zq4 BK175.out 3).trans rfl; have hcz10_4 : w9.cell? ⟨gb175, 4, none⟩ = some (.slice A0_4 l0_4.length c0_4) := (zq4 BK175.out 4).trans rfl; have hfz10_0 := zq5 BK175.out 0; have hfz10_1 := zq5 BK175.out 1; have hfz10_2 := zq5 BK175.out 2; have hfz10_3 := zq5 BK175.out 3; have hfz10_4 := zq5 BK175.out 4) | ((with_reducible refine gate_callee (f := 49) rfl ?_); refine zq9 (some 5) rfl rfl Try.func49 (by kernel_rfl) rfl #[.int .i64 a0_0] rfl (by (try simp only [List.map_toArray, List.map_cons, List.map_nil]); first | done | rfl | (simp only [List.length_drop, List.length_take]; rfl)) ?_; (with_reducible refine (impl_isState.calls a0_0 true _ A2.out).mono ?_); rintro e w' ⟨rfl, ⟨nd, rfl⟩⟩; refine ⟨_, rfl, ?_⟩))
     go_ret
     exact ⟨by first | rfl | (simp [errW_none, errW_some] <;> rfl) | (simp [*, errW_none, errW_some] <;> rfl), by repeat (first | (with_reducible first | exact HB.out | apply zq2 | apply zq1 | apply zqd | refine zq3 ?_ GE175.out) | exact HB.out)⟩
   ·rw [if_neg c5] at H
    have c5b0 : ((l0_2.length : Int) == 2) = false := beq_eq_false_iff_ne.mpr c5
    have c5b1 : ((l0_2.length : Int) != 2) = true := bne_iff_ne.mpr c5
    obtain rfl := Option.some.inj H
    go_enter Try.func91, Try.ntmps91
    go_wp2_with (first | ((with_reducible refine zqg (N := 1) rfl ?_); (try (refine gate_guard (by rfl) ?_; dsimp only)); refine zqb ?hg (N := 1) ?hd (cs := #[.int .i64 a0_0, .slice A0_1 l0_1.length c0_1, .slice A0_2 l0_2.length c0_2, .slice A0_3 l0_3.length c0_3, .slice A0_4 l0_4.length c0_4]) (t := 28) ?hr ?_; (case hd => rfl); (case hg => rfl); (case hr => first | (go_simp; done) | (go_simp; rfl)); intro gb175 hg w11 hbox hb; have n0_ := Az.mk (below_step (by repeat (first | (with_reducible first | exact HB.out | apply zq2 | apply zq1 | apply zqd) | exact HB.out)) hb); have n1_ := Az.mk (hbox); have n2_ := Az.mk ((by rw [hg]; exact (below_size (by repeat (first | (with_reducible first | exact HB.out | apply zq2 | apply zq1 | apply zqd) | exact HB.out))) : w.heap.size ≤ gb175)); have n3_ := Az.mk ((by rw [hg]; exact (below_size (by repeat (first | (with_reducible first | exact HB.out | apply zq2 | apply zq1 | apply zqd) | exact HB.out))) : w.heap.size ≤ gb175)); clear HB; have HB := n0_; have BK175 := n1_; have GW175 := n2_; have GE175 := n3_; clear n0_ n1_ n2_ n3_; clear hb hbox hg; have hcz12_0 : w11.cell? ⟨gb175, 0, none⟩ = some (.int .i64 a0_0) := (zq4 BK175.out 0).trans rfl; have hcz12_1 : w11.cell? ⟨gb175, 1, none⟩ = some (.slice A0_1 l0_1.length c0_1) := (zq4 BK175.out 1).trans rfl; have hcz12_2 : w11.cell? ⟨gb175, 2, none⟩ = some (.slice A0_2 l0_2.length c0_2) := (zq4 BK175.out 2).trans rfl; have hcz12_3 : w11.cell? ⟨gb175, 3, none⟩ = some (.slice A0_3 l0_3.length c0_3) := (zq4 BK175.out 3).trans rfl; have hcz12_4 : w11.cell? ⟨gb175, 4, none⟩ = some (.slice A0_4 l0_4.length c0_4) := (zq4 BK175.out 4).trans rfl; have hfz12_0 := zq5 BK175.out 0; have hfz12_1 := zq5 BK175.out 1; have hfz12_2 := zq5 BK175.out 2; have hfz12_3 := zq5 BK175.out 3; have hfz12_4 := zq5 BK175.out 4) | ((with_reducible refine gate_callee (f := 49) rfl ?_); refine zq9 (some 5) rfl rfl Try.func49 (by kernel_rfl) rfl #[.int .i64 a0_0] rfl (by (try simp only [List.map_toArray, List.map_cons, List.map_nil]); first | done | rfl | (simp only [List.length_drop, List.length_take]; rfl)) ?_; (with_reducible refine (impl_isState.calls a0_0 true _ A2.out).mono ?_); rintro e w' ⟨rfl, ⟨nd, rfl⟩⟩; refine ⟨_, rfl, ?_⟩))
    go_ret
    exact ⟨by first | rfl | (simp [errW_none, errW_some] <;> rfl) | (simp [*, errW_none, errW_some] <;> rfl), by repeat (first | (with_reducible first | exact HB.out | apply zq2 | apply zq1 | apply zqd | refine zq3 ?_ GE175.out) | exact HB.out)⟩
  ·rw [if_neg c4] at H
   have c4b0 : ((l0_1.length : Int) == 12) = false := beq_eq_false_iff_ne.mpr c4
   have c4b1 : ((l0_1.length : Int) != 12) = true := bne_iff_ne.mpr c4
   obtain rfl := Option.some.inj H
   go_enter Try.func91, Try.ntmps91
   go_wp2_with (first | ((with_reducible refine zqg (N := 1) rfl ?_); (try (refine gate_guard (by rfl) ?_; dsimp only)); refine zqb ?hg (N := 1) ?hd (cs := #[.int .i64 a0_0, .slice A0_1 l0_1.length c0_1, .slice A0_2 l0_2.length c0_2, .slice A0_3 l0_3.length c0_3, .slice A0_4 l0_4.length c0_4]) (t := 28) ?hr ?_; (case hd => rfl); (case hg => rfl); (case hr => first | (go_simp; done) | (go_simp; rfl)); intro gb175 hg w13 hbox hb; have n0_ := Az.mk (below_step (by repeat (first | (with_reducible first | exact HB.out | apply zq2 | apply zq1 | apply zqd) | exact HB.out)) hb); have n1_ := Az.mk (hbox); have n2_ := Az.mk ((by rw [hg]; exact (below_size (by repeat (first | (with_reducible first | exact HB.out | apply zq2 | apply zq1 | apply zqd) | exact HB.out))) : w.heap.size ≤ gb175)); have n3_ := Az.mk ((by rw [hg]; exact (below_size (by repeat (first | (with_reducible first | exact HB.out | apply zq2 | apply zq1 | apply zqd) | exact HB.out))) : w.heap.size ≤ gb175)); clear HB; have HB := n0_; have BK175 := n1_; have GW175 := n2_; have GE175 := n3_; clear n0_ n1_ n2_ n3_; clear hb hbox hg; have hcz14_0 : w13.cell? ⟨gb175, 0, none⟩ = some (.int .i64 a0_0) := (zq4 BK175.out 0).trans rfl; have hcz14_1 : w13.cell? ⟨gb175, 1, none⟩ = some (.slice A0_1 l0_1.length c0_1) := (zq4 BK175.out 1).trans rfl; have hcz14_2 : w13.cell? ⟨gb175, 2, none⟩ = some (.slice A0_2 l0_2.length c0_2) := (zq4 BK175.out 2).trans rfl; have hcz14_3 : w13.cell? ⟨gb175, 3, none⟩ = some (.slice A0_3 l0_3.length c0_3) := (zq4 BK175.out 3).trans rfl; have hcz14_4 : w13.cell? ⟨gb175, 4, none⟩ = some (.slice A0_4 l0_4.length c0_4) := (zq4 BK175.out 4).trans rfl; have hfz14_0 := zq5 BK175.out 0; have hfz14_1 := zq5 BK175.out 1; have hfz14_2 := zq5 BK175.out 2; have hfz14_3 := zq5 BK175.out 3; have hfz14_4 := zq5 BK175.out 4) | ((with_reducible refine gate_callee (f := 49) rfl ?_); refine zq9 (some 5) rfl rfl Try.func49 (by kernel_rfl) rfl #[.int .i64 a0_0] rfl (by (try simp only [List.map_toArray, List.map_cons, List.map_nil]); first | done | rfl | (simp only [List.length_drop, List.length_take]; rfl)) ?_; (with_reducible refine (impl_isState.calls a0_0 true _ A2.out).mono ?_); rintro e w' ⟨rfl, ⟨nd, rfl⟩⟩; refine ⟨_, rfl, ?_⟩))
   go_ret
   exact ⟨by first | rfl | (simp [errW_none, errW_some] <;> rfl) | (simp [*, errW_none, errW_some] <;> rfl), by repeat (first | (with_reducible first | exact HB.out | apply zq2 | apply zq1 | apply zqd | refine zq3 ?_ GE175.out) | exact HB.out)⟩
 ·replace c3 := Bool.eq_false_iff.mpr c3
  subst c3
  have H1 : (some false) = some r := by rw [if_neg (show ¬ (false = true) by decide)] at H; exact H
  clear H
  have H := H1
  clear H1
  obtain rfl := Option.some.inj H
  go_enter Try.func91, Try.ntmps91
  go_wp2_with (first | ((with_reducible refine zqg (N := 1) rfl ?_); (try (refine gate_guard (by rfl) ?_; dsimp only)); refine zqb ?hg (N := 1) ?hd (cs := #[.int .i64 a0_0, .slice A0_1 l0_1.length c0_1, .slice A0_2 l0_2.length c0_2, .slice A0_3 l0_3.length c0_3, .slice A0_4 l0_4.length c0_4]) (t := 28) ?hr ?_; (case hd => rfl); (case hg => rfl); (case hr => first | (go_simp; done) | (go_simp; rfl)); intro gb175 hg w15 hbox hb; have n0_ := Az.mk (below_step (by repeat (first | (with_reducible first | exact HB.out | apply zq2 | apply zq1 | apply zqd) | exact HB.out)) hb); have n1_ := Az.mk (hbox); have n2_ := Az.mk ((by rw [hg]; exact (below_size (by repeat (first | (with_reducible first | exact HB.out | apply zq2 | apply zq1 | apply zqd) | exact HB.out))) : w.heap.size ≤ gb175)); have n3_ := Az.mk ((by rw [hg]; exact (below_size (by repeat (first | (with_reducible first | exact HB.out | apply zq2 | apply zq1 | apply zqd) | exact HB.out))) : w.heap.size ≤ gb175)); clear HB; have HB := n0_; have BK175 := n1_; have GW175 := n2_; have GE175 := n3_; clear n0_ n1_ n2_ n3_; clear hb hbox hg; have hcz16_0 : w15.cell? ⟨gb175, 0, none⟩ = some (.int .i64 a0_0) := (zq4 BK175.out 0).trans rfl; have hcz16_1 : w15.cell? ⟨gb175, 1, none⟩ = some (.slice A0_1 l0_1.length c0_1) := (zq4 BK175.out 1).trans rfl; have hcz16_2 : w15.cell? ⟨gb175, 2, none⟩ = some (.slice A0_2 l0_2.length c0_2) := (zq4 BK175.out 2).trans rfl; have hcz16_3 : w15.cell? ⟨gb175, 3, none⟩ = some (.slice A0_3 l0_3.length c0_3) := (zq4 BK175.out 3).trans rfl; have hcz16_4 : w15.cell? ⟨gb175, 4, none⟩ = some (.slice A0_4 l0_4.length c0_4) := (zq4 BK175.out 4).trans rfl; have hfz16_0 := zq5 BK175.out 0; have hfz16_1 := zq5 BK175.out 1; have hfz16_2 := zq5 BK175.out 2; have hfz16_3 := zq5 BK175.out 3; have hfz16_4 := zq5 BK175.out 4) | ((with_reducible refine gate_callee (f := 49) rfl ?_); refine zq9 (some 5) rfl rfl Try.func49 (by kernel_rfl) rfl #[.int .i64 a0_0] rfl (by (try simp only [List.map_toArray, List.map_cons, List.map_nil]); first | done | rfl | (simp only [List.length_drop, List.length_take]; rfl)) ?_; (with_reducible refine (impl_isState.calls a0_0 false _ A2.out).mono ?_); rintro e w' ⟨rfl, ⟨nd, rfl⟩⟩; refine ⟨_, rfl, ?_⟩))
  go_ret
  exact ⟨by first | rfl | (simp [errW_none, errW_some] <;> rfl) | (simp [*, errW_none, errW_some] <;> rfl), by repeat (first | (with_reducible first | exact HB.out | apply zq2 | apply zq1 | apply zqd | refine zq3 ?_ GE175.out) | exact HB.out)⟩
end Go.Proofs.Ytkgpnloghmbmlaa.Print
namespace Go.Proofs.Ytkgpnloghmbmlaa.Print
open Go.RowKit Go.Proofs.YtkgpnloghmbmlaaW.PrintWords Go.Proofs.YtkgpnloghmbmlaaW.PrintLast Go.Proofs.YtkgpnloghmbmlaaW.PrintMore
set_option linter.unusedVariables false
set_option linter.unusedSimpArgs false
def putB (x : S54) : Bool := if x.f0 = true then decide (0 ≤ x.f1 ∧ x.f1 < 2 ∧ x.f2.size ≤ 700) else decide (0 ≤ x.f1 ∧ x.f1 < 12 ∧ x.f2.size = 3)
theorem putB_eq (x : S54) : impl_putOk.f x.f0 x.f1 x.f2 = some (putB x) := by
  unfold impl_putOk.f impl_isColumn.f putB
  by_cases h0 : x.f0 = true
  · rw [if_pos h0, if_pos h0]
    by_cases h1 : x.f1 ≥ 0
    · rw [if_pos h1]
      by_cases h2 : x.f1 < 2
      · rw [if_pos h2]
        congr 1
        rw [Bool.eq_iff_iff, decide_eq_true_iff, decide_eq_true_iff]
        omega
      · rw [if_neg h2, decide_eq_false (by omega)]
    · rw [if_neg h1, decide_eq_false (by omega)]
  · rw [if_neg h0, if_neg h0]
    by_cases h1 : x.f1 ≥ 0
    · rw [if_pos h1]
      by_cases h2 : x.f1 < 12
      · rw [if_pos h2]
        simp only [Option.bind_some]
        congr 1
        rw [Bool.eq_iff_iff, decide_eq_true_iff, beq_iff_eq]
        omega
      · rw [if_neg h2, decide_eq_false (by omega)]
    · rw [if_neg h1, decide_eq_false (by omega)]
set_option maxHeartbeats 1000000 in
theorem putPred (x : S54) (w : World) :
    Calls Try.prog 93 #[.agg #[.bool x.f0, .int .i64 x.f1, .string x.f2]] w fun e w' => e = .returned (.bool (!putB x)) ∧ Below w.heap.size w w' := by
  have hu54 := Try.underlying54
  have HB := Az.mk (Below.refl w.heap.size w)
  have HP := Az.mk (putB_eq x)
  go_enter Try.func93, Try.ntmps93
  go_wp2_with (first | ((with_reducible refine zqg (N := 1) rfl ?_); refine zqb ?hg (N := 1) ?hd (cs := #[.bool x.f0, .int .i64 x.f1, .string x.f2]) (t := 54) ?hr ?_; (case hd => rfl); (case hg => rfl); (case hr => first | (go_simp; done) | (go_simp; rfl)); intro gb hg w5 hbox hb; have n0_ := Az.mk (below_step (by repeat (first | (with_reducible first | exact HB.out | apply zq2 | apply zq1 | apply zqd) | exact HB.out)) hb); have n1_ := Az.mk hbox; clear HB; have HB := n0_; have BK := n1_; clear n0_ n1_; clear hb hbox hg; have hcz_0 : w5.cell? ⟨gb, 0, none⟩ = some (.bool x.f0) := (zq4 BK.out 0).trans rfl; have hcz_1 : w5.cell? ⟨gb, 1, none⟩ = some (.int .i64 x.f1) := (zq4 BK.out 1).trans rfl; have hcz_2 : w5.cell? ⟨gb, 2, none⟩ = some (.string x.f2) := (zq4 BK.out 2).trans rfl) | (go_at_call 83; refine (impl_putOk.calls _ _ _ _ _ HP.out).mono ?_; rintro e w9 ⟨rfl, hb⟩; have n0_ := Az.mk (below_step (by repeat (first | (with_reducible first | exact HB.out | apply zq2 | apply zq1 | apply zqd) | exact HB.out)) hb); clear HB; have HB := n0_; clear n0_ hb))
  go_ret
  exact ⟨rfl, (by repeat (first | (with_reducible first | exact HB.out | apply zq2 | apply zq1 | apply zqd) | exact HB.out))⟩
set_option maxHeartbeats 1000000 in
theorem textPred (x : ByteArray) (w : World) :
    Calls Try.prog 96 #[.string x] w fun e w' => e = .returned (.bool (decide ((x.size : Int) > 700))) ∧ Below w.heap.size w w' := by
  have HB := Az.mk (Below.refl w.heap.size w)
  go_enter Try.func96, Try.ntmps96
  go_wp2
  go_ret
  exact ⟨rfl, (by repeat (first | (with_reducible first | exact HB.out | apply zq2 | apply zq1 | apply zqd) | exact HB.out))⟩
def findIxG {α : Type} (p : α → Bool) (l : List α) : Int := match l.findIdx? p with | some i => (i : Int) | none => -1
theorem findIxG_at {α : Type} {z : α} {p : α → Bool} {l : List α} {i : Nat} (h : ∀ j, j < i → p (l.getD j z) = false) (hi : i < l.length) (hp : p (l.getD i z) = true) : findIxG p l = (i : Int) := by
  have e : l.findIdx? p = some i := by
    rw [List.findIdx?_eq_some_iff_getElem]
    refine ⟨hi, ?_, fun j hj => ?_⟩
    · simpa [List.getD, hi] using hp
    · have := h j hj
      have hjl : j < l.length := by omega
      simpa [List.getD, hjl] using this
  rw [findIxG, e]
theorem findIxG_none {α : Type} {z : α} {p : α → Bool} {l : List α} (h : ∀ j, j < l.length → p (l.getD j z) = false) : findIxG p l = -1 := by
  have e : l.findIdx? p = none := by
    rw [List.findIdx?_eq_none_iff]
    intro x hx
    obtain ⟨j, hj, rfl⟩ := List.getElem_of_mem hx
    have := h j hj
    simpa [List.getD, hj] using this
  rw [findIxG, e]
theorem findIxG_any {α : Type} (p : α → Bool) (l : List α) : decide (findIxG p l ≥ 0) = l.any p := by
  unfold findIxG
  rw [Bool.eq_iff_iff, decide_eq_true_iff, List.any_eq_true]
  cases e : l.findIdx? p with
  | none =>
    rw [List.findIdx?_eq_none_iff] at e
    simp only [ge_iff_le]
    constructor
    · intro h; omega
    · rintro ⟨x, hx, hp⟩
      rw [e x hx] at hp
      cases hp
  | some i =>
    obtain ⟨hi, hp, _⟩ := List.findIdx?_eq_some_iff_getElem.1 e
    simp only [ge_iff_le]
    exact ⟨fun _ => ⟨_, List.getElem_mem hi, hp⟩, fun _ => by omega⟩
set_option maxHeartbeats 4000000 in
set_option maxRecDepth 100000 in
theorem indexPut (A0 : Option Addr) (c0 : Nat) (l0 : List S54) (w : World) (hr0 : Kd.C k54 w A0 l0.length l0) (hc0 : l0.length ≤ c0) :
    Calls Try.prog 104 #[.slice A0 l0.length c0, .func (.func 93) #[] #[]] w fun e w' => e = .returned (.int .i64 (findIxG (fun x => !putB x) l0)) ∧ Below w.heap.size w w' := by
  have HR0 := Az.mk hr0
  have HC0 := Az.mk hc0
  have HM := Az.mk (Kd.C_max hr0)
  clear hr0 hc0
  go_enter Try.func104, Try.ntmps104
  go_wp2
  repeat (go_quiet (fail); try go_wp2)
  go_loopg [8] l0.length (fun kq v8 w' => ∃ (i : Nat), v8 = .int .i64 (i : Int) ∧ Az (i + kq = l0.length) ∧ Az (∀ j, j < i → (fun x => !putB x) (l0.getD j z54) = false) ∧ Az (Below w.heap.size w w'))
  case atStart => exact ⟨0, rfl, ⟨Nat.zero_add _⟩, ⟨fun j hj => by omega⟩, ⟨by repeat (first | exact Below.refl _ _ | apply zq2 | apply zq1 | apply zqd)⟩⟩
  case round =>
    obtain ⟨i, rfl, HI, HF, HB⟩ := hrel
    by_cases c1 : i < l0.length
    · have c1b0 : decide ((i : Int) < (l0.length : Int)) = true := decide_eq_true (by omega)
      have p1 : (0 : Int) ≤ (i : Int) := by omega
      have q1 : (i : Int) < (l0.length : Int) := by omega
      have hm := HM.out
      have hw1 : wrap64 ((i : Int) + 1) = ((i + 1 : Nat) : Int) := by unfold wrap64; omega
      have HW := Az.mk hw1
      clear hm hw1
      obtain ⟨ad, e1, hx_0, hx_1, hx_2⟩ := at_T54 HR0.out (i : Int) p1 q1
      cases e1
      simp only [Int.toNat_natCast, rd_T54] at hx_0 hx_1 hx_2
      replace hx_0 := (HB.out.cell (World.block_lt_of_cell? w _ hx_0)).trans hx_0
      replace hx_1 := (HB.out.cell (World.block_lt_of_cell? w _ hx_1)).trans hx_1
      replace hx_2 := (HB.out.cell (World.block_lt_of_cell? w _ hx_2)).trans hx_2
      replace p1 := eq_true p1
      replace q1 := eq_true q1
      obtain ⟨x, hE⟩ : ∃ x, x = l0.getD i z54 := ⟨_, rfl⟩
      rw [← hE] at hx_0 hx_1 hx_2
      have HE := Az.mk hE
      clear hE
      by_cases c2 : (!putB x) = true
      · have hfin := findIxG_at (p := (fun x => !putB x)) (z := z54) HF.out c1 (by rw [← HE.out]; exact c2)
        have HFIN := Az.mk hfin
        have HC := Az.mk c2
        clear hfin c2
        go_wp2_with (first | (go_at_call 93; refine (putPred x _).mono ?_; rintro e w9 ⟨rfl, hb⟩; rw [HC.out]; have n0_ := Az.mk (below_step (by repeat (first | (with_reducible first | exact HB.out | apply zq2 | apply zq1 | apply zqd) | exact HB.out)) hb); clear HB; have HB := n0_; clear n0_ hb))
        go_ret
        exact ⟨by rw [HFIN.out]; rfl, (by repeat (first | (with_reducible first | exact HB.out | apply zq2 | apply zq1 | apply zqd) | exact HB.out))⟩
      · have c2 : (!putB x) = false := by simpa using c2
        have HF1 : Az (∀ j, j < i + 1 → (fun x => !putB x) (l0.getD j z54) = false) := ⟨fun j hj => by
          by_cases e : j = i
          · rw [e, ← HE.out]; exact c2
          · exact HF.out j (by omega)⟩
        have HC := Az.mk c2
        clear c2
        go_wp2_with (first | (go_at_call 93; refine (putPred x _).mono ?_; rintro e w9 ⟨rfl, hb⟩; rw [HC.out]; have n0_ := Az.mk (below_step (by repeat (first | (with_reducible first | exact HB.out | apply zq2 | apply zq1 | apply zqd) | exact HB.out)) hb); clear HB; have HB := n0_; clear n0_ hb))
        go_roundg (gk - 1)
        case measure => have := HI.out; omega
        case rel => exact ⟨i + 1, by rw [← HW.out], ⟨by have := HI.out; omega⟩, HF1, ⟨(by repeat (first | (with_reducible first | exact HB.out | apply zq2 | apply zq1 | apply zqd) | exact HB.out))⟩⟩
    · have c1b0 : decide ((i : Int) < (l0.length : Int)) = false := decide_eq_false (by omega)
      have hfin := findIxG_none (p := (fun x => !putB x)) (l := l0) (z := z54) (fun j hj => HF.out j (by omega))
      have HFIN := Az.mk hfin
      clear hfin
      go_wp2
      go_ret
      exact ⟨by rw [HFIN.out]; rfl, (by repeat (first | (with_reducible first | exact HB.out | apply zq2 | apply zq1 | apply zqd) | exact HB.out))⟩
set_option maxHeartbeats 4000000 in
theorem containsPut (A0 : Option Addr) (c0 : Nat) (l0 : List S54) (w : World) (hr0 : Kd.C k54 w A0 l0.length l0) (hc0 : l0.length ≤ c0) :
    Calls Try.prog 92 #[.slice A0 l0.length c0, .func (.func 93) #[] #[]] w fun e w' => e = .returned (.bool (l0.any (fun x => !putB x))) ∧ Below w.heap.size w w' := by
  have HI := Az.mk (indexPut A0 c0 l0 w hr0 hc0)
  have HR := Az.mk (findIxG_any (fun x => !putB x) l0)
  clear hr0 hc0
  go_enter Try.func92, Try.ntmps92
  go_wp2_with (first | (go_at_call 104; refine HI.out.mono ?_; rintro e w9 ⟨rfl, hb⟩; have HB := Az.mk hb; clear hb))
  go_ret
  exact ⟨by have hr := HR.out; simp only [ge_iff_le] at hr; first | (rw [← hr]; rfl) | (simp [← hr]; done), (by repeat (first | (with_reducible first | exact HB.out | apply zq2 | apply zq1 | apply zqd) | exact HB.out))⟩
set_option maxHeartbeats 4000000 in
set_option maxRecDepth 100000 in
theorem indexText (A0 : Option Addr) (c0 : Nat) (l0 : List ByteArray) (w : World) (hr0 : Kd.C Kd.string w A0 l0.length l0) (hc0 : l0.length ≤ c0) :
    Calls Try.prog 105 #[.slice A0 l0.length c0, .func (.func 96) #[] #[]] w fun e w' => e = .returned (.int .i64 (findIxG (fun x : ByteArray => decide ((x.size : Int) > 700)) l0)) ∧ Below w.heap.size w w' := by
  have HR0 := Az.mk hr0
  have HC0 := Az.mk hc0
  have HM := Az.mk (Kd.C_max hr0)
  clear hr0 hc0
  go_enter Try.func105, Try.ntmps105
  go_wp2
  repeat (go_quiet (fail); try go_wp2)
  go_loopg [8] l0.length (fun kq v8 w' => ∃ (i : Nat), v8 = .int .i64 (i : Int) ∧ Az (i + kq = l0.length) ∧ Az (∀ j, j < i → (fun x : ByteArray => decide ((x.size : Int) > 700)) (l0.getD j ByteArray.empty) = false) ∧ Az (Below w.heap.size w w'))
  case atStart => exact ⟨0, rfl, ⟨Nat.zero_add _⟩, ⟨fun j hj => by omega⟩, ⟨by repeat (first | exact Below.refl _ _ | apply zq2 | apply zq1 | apply zqd)⟩⟩
  case round =>
    obtain ⟨i, rfl, HI, HF, HB⟩ := hrel
    by_cases c1 : i < l0.length
    · have c1b0 : decide ((i : Int) < (l0.length : Int)) = true := decide_eq_true (by omega)
      have p1 : (0 : Int) ≤ (i : Int) := by omega
      have q1 : (i : Int) < (l0.length : Int) := by omega
      have hm := HM.out
      have hw1 : wrap64 ((i : Int) + 1) = ((i + 1 : Nat) : Int) := by unfold wrap64; omega
      have HW := Az.mk hw1
      clear hm hw1
      obtain ⟨ad, e1, hx_0⟩ := Kd.at_string HR0.out (i : Int) p1 q1
      cases e1
      simp only [Int.toNat_natCast, rdOf] at hx_0
      replace hx_0 := (HB.out.cell (World.block_lt_of_cell? w _ hx_0)).trans hx_0
      replace p1 := eq_true p1
      replace q1 := eq_true q1
      obtain ⟨x, hE⟩ : ∃ x, x = l0.getD i ByteArray.empty := ⟨_, rfl⟩
      rw [← hE] at hx_0
      have HE := Az.mk hE
      clear hE
      by_cases c2 : decide ((x.size : Int) > 700) = true
      · have hfin := findIxG_at (p := (fun x : ByteArray => decide ((x.size : Int) > 700))) (z := ByteArray.empty) HF.out c1 (by rw [← HE.out]; exact c2)
        have HFIN := Az.mk hfin
        have HC := Az.mk c2
        clear hfin c2
        go_wp2_with (first | (go_at_call 96; refine (textPred x _).mono ?_; rintro e w9 ⟨rfl, hb⟩; rw [HC.out]; have n0_ := Az.mk (below_step (by repeat (first | (with_reducible first | exact HB.out | apply zq2 | apply zq1 | apply zqd) | exact HB.out)) hb); clear HB; have HB := n0_; clear n0_ hb))
        go_ret
        exact ⟨by rw [HFIN.out]; rfl, (by repeat (first | (with_reducible first | exact HB.out | apply zq2 | apply zq1 | apply zqd) | exact HB.out))⟩
      · have c2 : decide ((x.size : Int) > 700) = false := by simpa using c2
        have HF1 : Az (∀ j, j < i + 1 → (fun x : ByteArray => decide ((x.size : Int) > 700)) (l0.getD j ByteArray.empty) = false) := ⟨fun j hj => by
          by_cases e : j = i
          · rw [e, ← HE.out]; exact c2
          · exact HF.out j (by omega)⟩
        have HC := Az.mk c2
        clear c2
        go_wp2_with (first | (go_at_call 96; refine (textPred x _).mono ?_; rintro e w9 ⟨rfl, hb⟩; rw [HC.out]; have n0_ := Az.mk (below_step (by repeat (first | (with_reducible first | exact HB.out | apply zq2 | apply zq1 | apply zqd) | exact HB.out)) hb); clear HB; have HB := n0_; clear n0_ hb))
        go_roundg (gk - 1)
        case measure => have := HI.out; omega
        case rel => exact ⟨i + 1, by rw [← HW.out], ⟨by have := HI.out; omega⟩, HF1, ⟨(by repeat (first | (with_reducible first | exact HB.out | apply zq2 | apply zq1 | apply zqd) | exact HB.out))⟩⟩
    · have c1b0 : decide ((i : Int) < (l0.length : Int)) = false := decide_eq_false (by omega)
      have hfin := findIxG_none (p := (fun x : ByteArray => decide ((x.size : Int) > 700))) (l := l0) (z := ByteArray.empty) (fun j hj => HF.out j (by omega))
      have HFIN := Az.mk hfin
      clear hfin
      go_wp2
      go_ret
      exact ⟨by rw [HFIN.out]; rfl, (by repeat (first | (with_reducible first | exact HB.out | apply zq2 | apply zq1 | apply zqd) | exact HB.out))⟩
set_option maxHeartbeats 4000000 in
theorem containsText (A0 : Option Addr) (c0 : Nat) (l0 : List ByteArray) (w : World) (hr0 : Kd.C Kd.string w A0 l0.length l0) (hc0 : l0.length ≤ c0) :
    Calls Try.prog 95 #[.slice A0 l0.length c0, .func (.func 96) #[] #[]] w fun e w' => e = .returned (.bool (l0.any (fun x : ByteArray => decide ((x.size : Int) > 700)))) ∧ Below w.heap.size w w' := by
  have HI := Az.mk (indexText A0 c0 l0 w hr0 hc0)
  have HR := Az.mk (findIxG_any (fun x : ByteArray => decide ((x.size : Int) > 700)) l0)
  clear hr0 hc0
  go_enter Try.func95, Try.ntmps95
  go_wp2_with (first | (go_at_call 105; refine HI.out.mono ?_; rintro e w9 ⟨rfl, hb⟩; have HB := Az.mk hb; clear hb))
  go_ret
  exact ⟨by have hr := HR.out; simp only [ge_iff_le] at hr; first | (rw [← hr]; rfl) | (simp [← hr]; done), (by repeat (first | (with_reducible first | exact HB.out | apply zq2 | apply zq1 | apply zqd) | exact HB.out))⟩
end Go.Proofs.Ytkgpnloghmbmlaa.Print
