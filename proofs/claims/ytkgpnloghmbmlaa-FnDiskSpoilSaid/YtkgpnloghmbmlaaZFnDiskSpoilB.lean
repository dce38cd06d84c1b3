/- Proved, with what follows on it: the row of the law FnDiskSpoil. Conditions: the row's alone. Texts of this session and words that the kit's print laid for this seat, merged and cut by shrink.py, a program of this session. -/
import Derived.ArgAppend
import Derived.Below
import Derived.BigQuiet
import Derived.ChangeKeysEq
import Derived.Deep.AppendLies
import Derived.Deep.CutBlock
import Derived.Deep.DeepCutAuto
import Derived.Deep.Draws
import Derived.Deep.LoopGhost
import Derived.Deep.OwnRows
import Derived.Deep.QuietTactic
import Derived.Deep.RegionHeld3
import Derived.KernelRfl
import Derived.Laws.BitsLemmas
import Derived.Laws.BytesArg
import Derived.Laws.Cover3
import Derived.Laws.IdiomCopy
import Derived.Laws.MakeOwn
import Derived.Laws.OwnMore
import Derived.Laws.Rows
import Derived.Laws.Slices
import Derived.Lib.AppendStr
import Derived.Lib.ConvBytes
import Derived.Maps.AppendAt
import Derived.OrdersHeld
import Derived.OwnWalk
import Derived.RowKit
import Derived.RowKit3
import Derived.Tactics
import Derived.WalkKit
import Derived.WideLaws
import Derived.Test.YtkgpnloghmbmlaaProg
import Derived.Test.YtkgpnloghmbmlaaZFnDiskSpoilA
namespace Go.Proofs.Ytkgpnloghmbmlaa.Hd
open Go.RowKit Go.Proofs.YtkgpnloghmbmlaaW.PrintWords Go.Proofs.YtkgpnloghmbmlaaW.PrintLast
set_option linter.unusedVariables false
inductive Part where
  | same (lo hi : Nat) (wc : World)
  | box (g : Nat) (cs : Array Value) (t : TypeId)
def Part.lo : Part → Nat
  | .same lo _ _ => lo
  | .box g _ _ => g
def Part.hi : Part → Nat
  | .same _ hi _ => hi
  | .box g _ _ => g + 1
def Part.F (w : World) : Part → Prop
  | .same lo hi wc => ∀ k, lo ≤ k → k < hi → w.heap[k]? = wc.heap[k]?
  | .box g cs t => w.heap[g]? = some (.cells cs t (0, 0))
theorem Part.F.keep {w w' : World} : ∀ {p : Part}, p.F w → (∀ k, p.lo ≤ k → k < p.hi → w'.heap[k]? = w.heap[k]?) → p.F w'
  | .same _ _ _, h, hk => fun k h1 h2 => (hk k h1 h2).trans (h k h1 h2)
  | .box g _ _, h, hk => (hk g (Nat.le_refl _) (Nat.lt_succ_self _)).trans h
def Part.Off (p q : Part) : Prop := p.hi ≤ q.lo ∨ q.hi ≤ p.lo
theorem Part.Off.symm {p q : Part} (h : p.Off q) : q.Off p := Or.symm h
structure Hd (base : Nat) (w0 w : World) (L : List Part) : Prop where
  bel : Below base w0 w
  ge : base ≤ w.heap.size
  all : ∀ p ∈ L, base ≤ p.lo ∧ p.hi ≤ w.heap.size ∧ p.F w
  dis : L.Pairwise Part.Off
section
variable {base : Nat} {w0 w w' : World} {L : List Part}
theorem Hd.start (w : World) : Hd w.heap.size w w [] := ⟨Below.refl _ _, Nat.le_refl _, fun _ h => (by cases h), List.Pairwise.nil⟩
theorem Hd.base_le (h : Hd base w0 w L) : base ≤ w.heap.size := h.ge
theorem Hd.step (h : Hd base w0 w L) (hb : Below w.heap.size w w') : Hd base w0 w' L :=
  ⟨h.bel.trans (hb.mono h.ge), Nat.le_trans h.ge hb.size, fun p hp => have hq := h.all p hp; ⟨hq.1, Nat.le_trans hq.2.1 hb.size, hq.2.2.keep fun k _ h2 => hb.block k (Nat.lt_of_lt_of_le h2 hq.2.1)⟩, h.dis⟩
theorem Hd.drewN (h : Hd base w0 w L) (n : Nat) : Hd base w0 (w.drewN n) L :=
  ⟨⟨h.bel.os, h.bel.tape, h.bel.output, h.bel.size, h.bel.block⟩, h.ge, fun p hp => have hq := h.all p hp; ⟨hq.1, hq.2.1, hq.2.2.keep fun _ _ _ => rfl⟩, h.dis⟩
theorem Hd.drew (h : Hd base w0 w L) : Hd base w0 w.drew L :=
  ⟨h.bel.drew, h.ge, fun p hp => have hq := h.all p hp; ⟨hq.1, hq.2.1, hq.2.2.keep fun _ _ _ => rfl⟩, h.dis⟩
theorem Hd.less {p : Part} (h : Hd base w0 w (p :: L)) : Hd base w0 w L := ⟨h.bel, h.ge, fun q hq => h.all q (List.mem_cons_of_mem _ hq), (List.pairwise_cons.1 h.dis).2⟩
theorem Hd.more {p : Part} (h : Hd base w0 w L) (hb : Below w.heap.size w w') (h1 : w.heap.size ≤ p.lo) (h2 : p.hi ≤ w'.heap.size) (h3 : p.F w') : Hd base w0 w' (p :: L) :=
  have hs := h.step hb
  ⟨hs.bel, hs.ge, fun q hq => by
    rcases List.mem_cons.1 hq with rfl | hq
    · exact ⟨Nat.le_trans h.ge h1, h2, h3⟩
    · exact hs.all q hq, List.pairwise_cons.2 ⟨fun q hq => .inr (Nat.le_trans (h.all q hq).2.1 h1), hs.dis⟩⟩
theorem Hd.made (h : Hd base w0 w L) (hb : Below w.heap.size w w') : Hd base w0 w' (.same w.heap.size w'.heap.size w' :: L) :=
  h.more hb (Nat.le_refl _) (Nat.le_refl _) (fun _ _ _ => rfl)
theorem Hd.boxed (h : Hd base w0 w L) {g : Nat} {cs : Array Value} {t : TypeId} (hg : g = w.heap.size) (hbox : w'.heap[g]? = some (.cells cs t (0, 0))) (hb : Below w.heap.size w w') : Hd base w0 w' (.box g cs t :: L) :=
  h.more hb (Nat.le_of_eq hg.symm) (blk_lt hbox) hbox
theorem Hd.get (h : Hd base w0 w L) (i : Nat) {p : Part} (e : L[i]? = some p) : base ≤ p.lo ∧ p.hi ≤ w.heap.size ∧ p.F w := h.all p (List.mem_of_getElem? e)
theorem Hd.box (h : Hd base w0 w L) (i : Nat) {g : Nat} {cs : Array Value} {t : TypeId} (e : L[i]? = some (.box g cs t)) : w.heap[g]? = some (.cells cs t (0, 0)) := (h.get i e).2.2
theorem Hd.box_ge (h : Hd base w0 w L) (i : Nat) {g : Nat} {cs : Array Value} {t : TypeId} (e : L[i]? = some (.box g cs t)) : base ≤ g := (h.get i e).1
theorem Hd.same (h : Hd base w0 w L) (i : Nat) {lo hi : Nat} {wc : World} (e : L[i]? = some (.same lo hi wc)) : ∀ k, lo ≤ k → k < hi → w.heap[k]? = wc.heap[k]? := (h.get i e).2.2
theorem Hd.same_ge (h : Hd base w0 w L) (i : Nat) {lo hi : Nat} {wc : World} (e : L[i]? = some (.same lo hi wc)) : base ≤ lo := (h.get i e).1
theorem Hd.same_le (h : Hd base w0 w L) (i : Nat) {lo hi : Nat} {wc : World} (e : L[i]? = some (.same lo hi wc)) : hi ≤ w.heap.size := (h.get i e).2.1
theorem off_set : ∀ {L : List Part} {i : Nat} {p p' : Part}, L.Pairwise Part.Off → L[i]? = some p → p'.lo = p.lo → p'.hi = p.hi → (L.set i p').Pairwise Part.Off ∧ (∀ q ∈ L.set i p', q = p' ∨ (q ∈ L ∧ q.Off p))
  | [], _, _, _, _, e, _, _ => by simp at e
  | q :: L, 0, p, p', h, e, e1, e2 => by
    obtain rfl : q = p := by simpa using e
    have hc := List.pairwise_cons.1 h
    refine ⟨List.pairwise_cons.2 ⟨fun r hr => ?_, hc.2⟩, fun r hr => ?_⟩
    · have := hc.1 r hr
      unfold Part.Off at this ⊢
      omega
    · rcases List.mem_cons.1 hr with rfl | hr
      · exact .inl rfl
      · exact .inr ⟨List.mem_cons_of_mem _ hr, (hc.1 r hr).symm⟩
  | q :: L, i + 1, p, p', h, e, e1, e2 => by
    have hc := List.pairwise_cons.1 h
    have e' : L[i]? = some p := by simpa using e
    have ih := off_set hc.2 e' e1 e2
    refine ⟨List.pairwise_cons.2 ⟨fun r hr => ?_, ih.1⟩, fun r hr => ?_⟩
    · rcases ih.2 r hr with rfl | hr
      · have := hc.1 p (List.mem_of_getElem? e')
        unfold Part.Off at this ⊢
        omega
      · exact hc.1 r hr.1
    · rcases List.mem_cons.1 hr with rfl | hr
      · exact .inr ⟨List.mem_cons_self, hc.1 p (List.mem_of_getElem? e')⟩
      · rcases ih.2 r hr with h1 | h1
        · exact .inl h1
        · exact .inr ⟨List.mem_cons_of_mem _ h1.1, h1.2⟩
theorem Hd.put (h : Hd base w0 w L) (i : Nat) {p p' : Part} (e : L[i]? = some p) (e1 : p'.lo = p.lo) (e2 : p'.hi = p.hi) (hF : p'.F w') (hb : Below base w w') (hk : ∀ k, k < w.heap.size → (k < p.lo ∨ p.hi ≤ k) → w'.heap[k]? = w.heap[k]?) : Hd base w0 w' (L.set i p') := by
  have hs := off_set h.dis e e1 e2
  have hg := h.get i e
  refine ⟨h.bel.trans hb, Nat.le_trans h.ge hb.size, fun q hq => ?_, hs.1⟩
  rcases hs.2 q hq with rfl | ⟨h1, h2⟩
  · exact ⟨e1 ▸ hg.1, e2 ▸ Nat.le_trans hg.2.1 hb.size, hF⟩
  · have ha := h.all q h1
    exact ⟨ha.1, Nat.le_trans ha.2.1 hb.size, ha.2.2.keep fun k h3 h4 => hk k (Nat.lt_of_lt_of_le h4 ha.2.1) (by unfold Part.Off at h2; omega)⟩
theorem Hd.set_box (h : Hd base w0 w L) (i : Nat) {g : Nat} {cs : Array Value} {t : TypeId} (e : L[i]? = some (.box g cs t)) (j : Nat) (v : Value) : Hd base w0 (w.setCell ⟨g, j, none⟩ v) (L.set i (.box g (cs.setIfInBounds j v) t)) :=
  have hg := h.get i e
  h.put i e rfl rfl (blk_set hg.2.2 j v) ((Below.refl base w).setCell (p := ⟨g, j, none⟩) hg.1 v) fun k _ h3 => Below.heap_setCell w _ v k (by show k ≠ g; have : (Part.box g cs t).lo = g := rfl; have : (Part.box g cs t).hi = g + 1 := rfl; omega)
theorem Hd.wrote (h : Hd base w0 w L) (i : Nat) {lo hi : Nat} {wc : World} (e : L[i]? = some (.same lo hi wc)) (hb : Below base w w') (hk : ∀ k, k < w.heap.size → (k < lo ∨ hi ≤ k) → w'.heap[k]? = w.heap[k]?) : Hd base w0 w' (L.set i (.same lo hi w')) :=
  h.put i e rfl rfl (p' := .same lo hi w') (fun _ _ _ => rfl) hb hk
theorem Hd.grown (h : Hd base w0 w L) {row : Option Nat} (hg : w.grownBy w' row) (hr : ∀ k, row = some k → base ≤ k ∧ ∀ p ∈ L, k < p.lo ∨ p.hi ≤ k) : Hd base w0 w' L :=
  ⟨h.bel.trans ⟨hg.os, hg.tape, hg.output, hg.size, fun k hk => hg.block k (Nat.lt_of_lt_of_le hk h.ge) fun e => by have := (hr k e.symm).1; omega⟩, Nat.le_trans h.ge hg.size,
    fun p hp => have hq := h.all p hp; ⟨hq.1, Nat.le_trans hq.2.1 hg.size, hq.2.2.keep fun k h1 h2 => hg.block k (Nat.lt_of_lt_of_le h2 hq.2.1) fun e => by have := (hr k e.symm).2 p hp; omega⟩, h.dis⟩
theorem Hd.sel (h : Hd base w0 w L) (is : List Nat) (L' : List Part) (hn : is.Nodup) (e : is.map (fun i => L[i]?) = L'.map some) : Hd base w0 w L' := by
  have key : ∀ (is : List Nat) (L' : List Part), is.Nodup → is.map (fun i => L[i]?) = L'.map some → (∀ p ∈ L', ∃ i ∈ is, L[i]? = some p) ∧ L'.Pairwise Part.Off := by
    intro is
    induction is with
    | nil =>
      intro L' _ e
      cases L' with
      | nil => exact ⟨fun _ h => (by cases h), List.Pairwise.nil⟩
      | cons _ _ => simp at e
    | cons i is ih =>
      intro L' hn e
      cases L' with
      | nil => simp at e
      | cons p L' =>
        simp only [List.map_cons, List.cons.injEq] at e
        have hc := List.nodup_cons.1 hn
        have h1 := ih L' hc.2 e.2
        refine ⟨fun q hq => ?_, List.pairwise_cons.2 ⟨fun q hq => ?_, h1.2⟩⟩
        · rcases List.mem_cons.1 hq with rfl | hq
          · exact ⟨i, List.mem_cons_self, e.1⟩
          · obtain ⟨j, hj, hj2⟩ := h1.1 q hq
            exact ⟨j, List.mem_cons_of_mem _ hj, hj2⟩
        · obtain ⟨j, hj, hj2⟩ := h1.1 q hq
          have hij : i ≠ j := fun e => hc.1 (e ▸ hj)
          obtain ⟨hi1, hi2⟩ := List.getElem?_eq_some_iff.1 e.1
          obtain ⟨hj1, hj3⟩ := List.getElem?_eq_some_iff.1 hj2
          rw [← hi2, ← hj3]
          rcases Nat.lt_or_gt_of_ne hij with hl | hl
          · exact List.pairwise_iff_getElem.1 h.dis i j hi1 hj1 hl
          · exact (List.pairwise_iff_getElem.1 h.dis j i hj1 hi1 hl).symm
  have hk := key is L' hn e
  refine ⟨h.bel, h.ge, fun p hp => ?_, hk.2⟩
  obtain ⟨i, _, hi⟩ := hk.1 p hp
  exact h.get i hi
theorem Hd.C {α : Type} {d : Kd α} {A : Option Addr} {n : Nat} {xs : List α} (h : Hd w0.heap.size w0 w L) (hc : d.C w0 A n xs) : d.C w A n xs := Kd.C_below hc h.bel
end
end Go.Proofs.Ytkgpnloghmbmlaa.Hd
namespace Go.Proofs.Ytkgpnloghmbmlaa.Hd
open Go.RowKit Go.Proofs.YtkgpnloghmbmlaaW.PrintWords Go.Proofs.YtkgpnloghmbmlaaW.PrintLast
set_option linter.unusedVariables false
theorem Hd.set_row {base : Nat} {w0 w : World} {L : List Part} (h : Hd base w0 w L) (i : Nat) {g : Nat} {cs : Array Value} {t : TypeId} (e : L[i]? = some (.box g cs t)) (cs' : Array Value) : Hd base w0 (w.setRow g cs') (L.set i (.box g cs' t)) := by
  have hg := h.get i e
  have hgb : base ≤ g := hg.1
  have far : ∀ k, k ≠ g → (w.setRow g cs').heap[k]? = w.heap[k]? := fun k hk => setRow_other w g k cs' hk
  refine h.put i e rfl rfl (p' := .box g cs' t) (setRow_heap w g cs cs' t (0, 0) hg.2.2) ⟨rfl, rfl, rfl, by rw [setRow_size]; exact Nat.le_refl _, fun k hk => far k (by omega)⟩ fun k _ h3 => far k (by have : (Part.box g cs t).lo = g := rfl; have : (Part.box g cs t).hi = g + 1 := rfl; omega)
section
variable {P : Program} {ops : Array Oper} {Q : Exit → Act → World → Prop} {rest : List Oper} {o : Oper} {a : Act} {base : Nat} {w0 w : World} {L : List Part}
theorem Hd.run_row (h : Hd base w0 w L) (i : Nat) {g : Nat} {cs : Array Value} {t : TypeId} (e : L[i]? = some (.box g cs t)) {ty : TypeId} {x : Operand} (ho : o.op = .load ty x) (hx : a.eval x = .pointer (some ⟨g, 0, none⟩)) {d : TypeDesc}
    (hu : P.underlying ty = some d) (hd : (match d with | .struct _ | .array _ _ => true | _ => false) = true) (hi : (P.info? ty).map (·.size) = some cs.size) : (execOp a.eval o).run P w = .ok (.value (.agg cs)) w := by
  unfold execOp
  simp only [ho, hx, Instr.loadAt, Instr.sureAddr, Sem.run_bind, Sem.run_pure, Result.andThen_ok, run_loadVar_row w g t ty cs (0, 0) d (h.box i e) hu hd hi]
theorem Hd.ld_row (h : Hd base w0 w L) (i : Nat) {g : Nat} {cs : Array Value} {t : TypeId} (e : L[i]? = some (.box g cs t)) (hgd : o.guard = none) {ty : TypeId} {x : Operand} (ho : o.op = .load ty x) (hx : a.eval x = .pointer (some ⟨g, 0, none⟩)) {d : TypeDesc}
    (hu : P.underlying ty = some d) (hd : (match d with | .struct _ | .array _ _ => true | _ => false) = true) (hi : (P.info? ty).map (·.size) = some cs.size) (k : wpList P ops Q rest (a.put o.dst (.agg cs)) w) : wpList P ops Q (o :: rest) a w :=
  Kd.event_run hgd (h.run_row i e ho hx hu hd hi) k
theorem run_loadVar_cell {ty : TypeId} {d : TypeDesc} {A : Addr} {v : Value} (hu : P.underlying ty = some d) (hd : (match d with | .struct _ | .array _ _ => true | _ => false) = false) (hc : w.cell? A = some v) : (loadVar ty A).run P w = .ok v w := by
  have hagg : (isAgg ty).run P w = .ok false w := by
    unfold isAgg
    rw [Sem.run_bind, run_underlying hu w]
    cases d <;> simp_all
  simp [loadVar, Sem.run_bind, hagg, load, Sem.run, hc]
theorem Hd.run_cell (h : Hd base w0 w L) (i : Nat) {g : Nat} {cs : Array Value} {t : TypeId} (e : L[i]? = some (.box g cs t)) (j : Nat) {v : Value} (hv : cs[j]? = some v) {ty : TypeId} {x : Operand} (ho : o.op = .load ty x) (hx : a.eval x = .pointer (some ⟨g, j, none⟩)) {d : TypeDesc}
    (hu : P.underlying ty = some d) (hd : (match d with | .struct _ | .array _ _ => true | _ => false) = false) : (execOp a.eval o).run P w = .ok (.value v) w := by
  unfold execOp
  simp only [ho, hx, Instr.loadAt, Instr.sureAddr, Sem.run_bind, Sem.run_pure, Result.andThen_ok, run_loadVar_cell (w := w) hu hd ((zq4 (h.box i e) j).trans hv)]
theorem Hd.ld_cell (h : Hd base w0 w L) (i : Nat) {g : Nat} {cs : Array Value} {t : TypeId} (e : L[i]? = some (.box g cs t)) (j : Nat) {v : Value} (hv : cs[j]? = some v) (hgd : o.guard = none) {ty : TypeId} {x : Operand} (ho : o.op = .load ty x) (hx : a.eval x = .pointer (some ⟨g, j, none⟩)) {d : TypeDesc}
    (hu : P.underlying ty = some d) (hd : (match d with | .struct _ | .array _ _ => true | _ => false) = false) (k : wpList P ops Q rest (a.put o.dst v) w) : wpList P ops Q (o :: rest) a w :=
  Kd.event_run hgd (h.run_cell i e j hv ho hx hu hd) k
theorem Hd.bx (h : Hd base w0 w L) (hgd : o.guard = none) (cs : Array Value) (t : TypeId)
    (hrun : (execOp a.eval o).run P w = .ok (.value (.pointer (some ⟨w.heap.size, 0, none⟩))) (w.alloc (.cells cs t (0, 0))))
    (k : ∀ g w1, Az (Hd base w0 w1 (.box g cs t :: L)) → wpList P ops Q rest (a.put o.dst (.pointer (some ⟨g, 0, none⟩))) w1) : wpList P ops Q (o :: rest) a w :=
  Kd.event_run hgd hrun (k _ _ ⟨h.boxed rfl (blk_new w _) (zq2 (Below.refl _ _) _)⟩)
theorem Hd.run_st (h : Hd base w0 w L) (i : Nat) {g : Nat} {cs : Array Value} {t : TypeId} (e : L[i]? = some (.box g cs t)) {ty : TypeId} {x y : Operand} (ho : o.op = .store ty x y) (hx : a.eval x = .pointer (some ⟨g, 0, none⟩)) (cs' : Array Value) (hy : a.eval y = .agg cs')
    (hi : (P.info? ty).map (·.size) = some cs'.size) (hs : cs.size = cs'.size) (h1 : cs'.all (·.oneCell') = true) : (execOp a.eval o).run P w = .ok .skip (w.setRow g cs') := by
  unfold execOp
  simp only [ho, hx, hy, Instr.storeAt, Instr.sureAddr, Sem.run_bind, Sem.run_pure, Result.andThen_ok, run_storeVar_row w g t ty cs cs' (h.box i e) hi hs h1]
theorem Hd.st_row (h : Hd base w0 w L) (i : Nat) {g : Nat} {cs : Array Value} {t : TypeId} (e : L[i]? = some (.box g cs t)) (hgd : o.guard = none) {ty : TypeId} {x y : Operand} (ho : o.op = .store ty x y) (hN : o.dst = none) (hx : a.eval x = .pointer (some ⟨g, 0, none⟩)) (cs' : Array Value) (hy : a.eval y = .agg cs')
    (hi : (P.info? ty).map (·.size) = some cs'.size) (hs : cs.size = cs'.size) (h1 : cs'.all (·.oneCell') = true) (k : ∀ w1, Az (Hd base w0 w1 (L.set i (.box g cs' t))) → wpList P ops Q rest a w1) : wpList P ops Q (o :: rest) a w := by
  refine wpList_plain hgd fun K hK => ?_
  unfold Oper.wp
  rw [h.run_st i e ho hx cs' hy hi hs h1]
  show K (a.put o.dst undef) _
  rw [hN]
  exact hK _ _ (k _ ⟨h.set_row i e cs'⟩)
theorem Hd.st_cell (h : Hd base w0 w L) (i : Nat) {g : Nat} {cs : Array Value} {t : TypeId} (e : L[i]? = some (.box g cs t)) (j : Nat) (v : Value) (hgd : o.guard = none) (hN : o.dst = none) 
    (hrun : (execOp a.eval o).run P w = .ok .skip (w.setCell ⟨g, j, none⟩ v)) (k : ∀ w1, Az (Hd base w0 w1 (L.set i (.box g (cs.setIfInBounds j v) t))) → wpList P ops Q rest a w1) : wpList P ops Q (o :: rest) a w := by
  refine wpList_plain hgd fun K hK => ?_
  unfold Oper.wp
  rw [hrun]
  show K (a.put o.dst undef) _
  rw [hN]
  exact hK _ _ (k _ ⟨h.set_box i e j v⟩)
end
end Go.Proofs.Ytkgpnloghmbmlaa.Hd
namespace Go.Proofs.Ytkgpnloghmbmlaa.Hd
open Go.RowKit Go.Proofs.YtkgpnloghmbmlaaW.PrintWords Go.Proofs.YtkgpnloghmbmlaaW.PrintLast
set_option linter.unusedVariables false
section
variable {P : Program} {ops : Array Oper} {Q : Exit → Act → World → Prop} {rest : List Oper} {o : Oper} {a : Act} {base : Nat} {w0 w : World} {L : List Part}
theorem run_c {A : Addr} {v : Value} {ty : TypeId} {x : Operand} {d : TypeDesc} (hc : w.cell? A = some v) (ho : o.op = .load ty x) (hx : a.eval x = .pointer (some A)) (hu : P.underlying ty = some d) (hd : (match d with | .struct _ | .array _ _ => true | _ => false) = false) : (execOp a.eval o).run P w = .ok (.value v) w := by
  unfold execOp
  simp only [ho, hx, Instr.loadAt, Instr.sureAddr, Sem.run_bind, Sem.run_pure, Result.andThen_ok, run_loadVar_cell (w := w) hu hd hc]
theorem ld_c {A : Addr} {v : Value} {ty : TypeId} {x : Operand} {d : TypeDesc} (hc : w.cell? A = some v) (hgd : o.guard = none) (ho : o.op = .load ty x) (hx : a.eval x = .pointer (some A)) (hu : P.underlying ty = some d) (hd : (match d with | .struct _ | .array _ _ => true | _ => false) = false)
    (k : wpList P ops Q rest (a.put o.dst v) w) : wpList P ops Q (o :: rest) a w := Kd.event_run hgd (run_c hc ho hx hu hd) k
theorem run_storeVar_cell {ty : TypeId} {A : Addr} {u v : Value} (hi : (P.info? ty).map (·.size) = some 1) (hc : w.cell? A = some u) (hf : w.frozen? A = false) (h1 : v.oneCell' = true) : (storeVar ty A v).run P w = .ok () (w.setCell A v) := by
  cases hq : P.info? ty with
  | none => simp [hq] at hi
  | some i =>
    have hs : i.size = 1 := by simpa [hq] using hi
    have hz : A.add 0 = A := by simp [Addr.add]
    have hcl : v.cells = #[v] := by cases v <;> simp_all [Value.cells, Value.oneCell']
    have hst := run_store P w A v .plain h1
    simp [storeVar, sizeOf, typeInfo, hq, hcl, hs, storeCells, hz, Sem.run_bind, hst, hc, hf]
theorem run_sc {A : Addr} {u v : Value} {ty : TypeId} {x y : Operand} (hi : (P.info? ty).map (·.size) = some 1) (hc : w.cell? A = some u) (hf : w.frozen? A = false) (ho : o.op = .store ty x y) (hx : a.eval x = .pointer (some A)) (hy : a.eval y = v) (h1 : v.oneCell' = true) : (execOp a.eval o).run P w = .ok .skip (w.setCell A v) := by
  unfold execOp
  simp only [ho, hx, hy, Instr.storeAt, Instr.sureAddr, Sem.run_bind, Sem.run_pure, Result.andThen_ok, run_storeVar_cell hi hc hf h1]
theorem st_c {A : Addr} {u v : Value} {ty : TypeId} {x y : Operand} {R : World → Prop} (hi : (P.info? ty).map (·.size) = some 1) (hc : w.cell? A = some u) (hf : w.frozen? A = false) (hgd : o.guard = none) (ho : o.op = .store ty x y) (hN : o.dst = none) (hx : a.eval x = .pointer (some A)) (hy : a.eval y = v) (h1 : v.oneCell' = true)
    (hH : R (w.setCell A v)) (k : ∀ w1, R w1 → wpList P ops Q rest a w1) : wpList P ops Q (o :: rest) a w := by
  refine wpList_plain hgd fun K hK => ?_
  unfold Oper.wp
  rw [run_sc hi hc hf ho hx hy h1]
  show K (a.put o.dst undef) _
  rw [hN]
  exact hK _ _ (k _ hH)
def BytesAt (w : World) (g : Nat) (xs : List Int) : Prop := ∀ i, i < xs.length → w.cell? ⟨g, i, none⟩ = some (.int .u8 (xs.getD i 0)) ∧ w.frozen? ⟨g, i, none⟩ = false
theorem BytesAt.move {w w' : World} {g : Nat} {xs : List Int} (h : BytesAt w g xs) (hk : w'.heap[g]? = w.heap[g]?) : BytesAt w' g xs := fun i hi =>
  ⟨(World.cell?_of_block (w := w) (a := ⟨g, i, none⟩) hk).trans (h i hi).1, (World.frozen?_of_block (w := w) (a := ⟨g, i, none⟩) hk).trans (h i hi).2⟩
theorem BytesAt.put {w : World} {g b : Nat} {xs : List Int} {v : Int} (h : BytesAt w g xs) (hb : b < xs.length) : BytesAt (w.setCell ⟨g, b, none⟩ (.int .u8 v)) g (xs.set b v) := fun i hi => by
  rw [List.length_set] at hi
  refine ⟨?_, by rw [World.frozen?_setCell]; exact (h i hi).2⟩
  by_cases hib : b = i
  · subst hib
    rw [World.cell?_setCell_same' _ _ _ (by rw [(h b hb).1]; rfl)]
    simp [List.getD, hb]
  · rw [World.cell?_setCell_other _ _ _ _ (by simp; try omega), (h i hi).1]
    simp only [List.getD, List.getElem?_set_ne hib]
theorem bytesAt_new (w : World) (e : TypeId) (s : ByteArray) : BytesAt (Lib.bytesWorld w e s) w.heap.size (bytesOf s) := fun i hi => by
  have hl : (bytesOf s).length = s.size := by simp [bytesOf]
  rw [hl] at hi
  refine ⟨?_, ?_⟩
  · rw [Lib.bytesWorld_cell w e s i hi]
    simp [bytesOf, List.getD, hi]
  · have hblk := Lib.bytesWorld_at_new w e s
    have hsz : s.size ≤ (Lib.bytesCells w e s).size := by simp [Lib.bytesCells]
    simp [World.frozen?, hblk]
    omega
theorem run_conv {ts tb te : TypeId} {x : Operand} {s : ByteArray} (hts : P.underlying ts = some .string) (htb : P.underlying tb = some (.slice te)) (hte : P.underlying te = some (.int .u8)) (ho : o.op = .convert ts tb x) (hx : a.eval x = .string s) : (execOp a.eval o).run P w = .ok (.value (.slice (some ⟨w.heap.size, 0, none⟩) s.size (grownCap w s.size 0 te))) (Lib.bytesWorld w te s) := by
  unfold execOp
  simp only [ho, hx, Sem.run_bind, Lib.run_convert_string_bytes w ts tb te s hts htb hte, Result.andThen_ok]
  rfl
theorem run_back {ts tb te : TypeId} {x : Operand} {g n c : Nat} {xs : List Int} (hts : P.underlying ts = some .string) (htb : P.underlying tb = some (.slice te)) (hte : P.underlying te = some (.int .u8)) (ho : o.op = .convert tb ts x) (hx : a.eval x = .slice (some ⟨g, 0, none⟩) n c) (hn : xs.length = n) (hb : BytesAt w g xs) : (execOp a.eval o).run P w = .ok (.value (.string (strOfNums xs))) w := by
  unfold execOp
  simp only [ho, hx, Sem.run_bind, run_convert_bytes_arg w tb te htb hte g 0 n c xs hn (fun i hi => by rw [Nat.zero_add]; exact (hb i (by omega)).1) ts hts, Result.andThen_ok]
  rfl
theorem below_conv (w : World) (te : TypeId) (s : ByteArray) : Below w.heap.size w (Lib.bytesWorld w te s) := ⟨rfl, rfl, rfl, by rw [Lib.bytesWorld_size]; omega, fun j hj => Lib.bytesWorld_at_old w te s j hj⟩
theorem Hd.conv_sb (h : Hd base w0 w L) (hgd : o.guard = none) {ts tb te : TypeId} {x : Operand} {s : ByteArray} (hts : P.underlying ts = some .string) (htb : P.underlying tb = some (.slice te)) (hte : P.underlying te = some (.int .u8)) (ho : o.op = .convert ts tb x) (hx : a.eval x = .string s)
    (k : ∀ g c w1, Az (Hd base w0 w1 (.same g (g + 1) w1 :: L)) → Az (BytesAt w1 g (bytesOf s)) → wpList P ops Q rest (a.put o.dst (.slice (some ⟨g, 0, none⟩) s.size c)) w1) : wpList P ops Q (o :: rest) a w := by
  refine Kd.event_run hgd (w1 := Lib.bytesWorld w te s) (v := .slice (some ⟨w.heap.size, 0, none⟩) s.size (grownCap w s.size 0 te)) ?_ (k _ _ _ ⟨?_⟩ ⟨bytesAt_new w te s⟩)
  · unfold execOp
    simp only [ho, hx, Sem.run_bind, Lib.run_convert_string_bytes w ts tb te s hts htb hte, Result.andThen_ok]
    rfl
  · have hsz := Lib.bytesWorld_size w te s
    exact h.more ⟨rfl, rfl, rfl, by omega, fun j hj => Lib.bytesWorld_at_old w te s j hj⟩ (Nat.le_refl _) (by show w.heap.size + 1 ≤ _; omega) (fun _ _ _ => rfl)
theorem conv_bs (hgd : o.guard = none) {ts tb te : TypeId} {x : Operand} {g n c : Nat} {xs : List Int} (hts : P.underlying ts = some .string) (htb : P.underlying tb = some (.slice te)) (hte : P.underlying te = some (.int .u8)) (ho : o.op = .convert tb ts x) (hx : a.eval x = .slice (some ⟨g, 0, none⟩) n c) (hn : xs.length = n) (hb : BytesAt w g xs)
    (k : wpList P ops Q rest (a.put o.dst (.string (strOfNums xs))) w) : wpList P ops Q (o :: rest) a w := by
  refine Kd.event_run hgd ?_ k
  unfold execOp
  simp only [ho, hx, Sem.run_bind, run_convert_bytes_arg w tb te htb hte g 0 n c xs hn (fun i hi => by rw [Nat.zero_add]; exact (hb i (by omega)).1) ts hts, Result.andThen_ok]
  rfl
theorem Hd.start_own {lo hi : Nat} (w : World) (h1 : lo ≤ hi) (h2 : hi ≤ w.heap.size) : Hd lo w w [.same lo hi w, .same hi w.heap.size w] :=
  ⟨Below.refl _ _, Nat.le_trans h1 h2, fun p hp => (by
    rcases List.mem_cons.1 hp with rfl | hp
    · exact ⟨Nat.le_refl _, h2, fun _ _ _ => rfl⟩
    · rcases List.mem_cons.1 hp with rfl | hp
      · exact ⟨h1, Nat.le_refl _, fun _ _ _ => rfl⟩
      · cases hp), List.pairwise_cons.2 ⟨fun q hq => (by
    rcases List.mem_cons.1 hq with rfl | hq
    · exact .inl (Nat.le_refl _)
    · cases hq), List.pairwise_cons.2 ⟨fun _ h => (by cases h), List.Pairwise.nil⟩⟩⟩
theorem Hd.kept {lo hi : Nat} (h : Hd lo w0 w L) (i : Nat) (e : L[i]? = some (.same hi w0.heap.size w0)) : ∀ k, k < w0.heap.size → (k < lo ∨ hi ≤ k) → w.heap[k]? = w0.heap[k]? := fun k h1 h2 => by
  rcases h2 with h2 | h2
  · exact h.bel.block k h2
  · exact h.same i e k h2 h1
theorem Hd.cell (h : Hd base w0 w L) (i : Nat) {lo hi : Nat} {wc : World} (e : L[i]? = some (.same lo hi wc)) {g j : Nat} {v : Value} (hg : lo ≤ g ∧ g < hi) (hc : wc.cell? ⟨g, j, none⟩ = some v) : w.cell? ⟨g, j, none⟩ = some v :=
  (World.cell?_of_block (w := wc) (a := ⟨g, j, none⟩) (h.same i e g hg.1 hg.2)).trans hc
theorem Hd.frz (h : Hd base w0 w L) (i : Nat) {lo hi : Nat} {wc : World} (e : L[i]? = some (.same lo hi wc)) {g j : Nat} (hg : lo ≤ g ∧ g < hi) (hc : wc.frozen? ⟨g, j, none⟩ = false) : w.frozen? ⟨g, j, none⟩ = false :=
  (World.frozen?_of_block (w := wc) (a := ⟨g, j, none⟩) (h.same i e g hg.1 hg.2)).trans hc
theorem Hd.set_same (h : Hd base w0 w L) (i : Nat) {lo hi : Nat} {wc : World} (e : L[i]? = some (.same lo hi wc)) {g j : Nat} (hg : lo ≤ g ∧ g < hi) (v : Value) : Hd base w0 (w.setCell ⟨g, j, none⟩ v) (L.set i (.same lo hi (w.setCell ⟨g, j, none⟩ v))) :=
  h.wrote i e ((Below.refl base w).setCell (p := ⟨g, j, none⟩) (Nat.le_trans (h.same_ge i e) hg.1) v) fun k _ h3 => Below.heap_setCell w _ v k (by show k ≠ g; omega)
end
end Go.Proofs.Ytkgpnloghmbmlaa.Hd
namespace Go.Proofs.Ytkgpnloghmbmlaa.Hq
open Go.RowKit Go.Proofs.YtkgpnloghmbmlaaW.PrintWords Go.Proofs.YtkgpnloghmbmlaaW.PrintLast
set_option linter.unusedVariables false
inductive Part where
  | set (S : Nat → Prop) (wc : World)
  | box (g : Nat) (cs : Array Value) (t : TypeId)
def Part.has : Part → Nat → Prop
  | .set S _ => S
  | .box g _ _ => fun k => k = g
def Part.F (w : World) : Part → Prop
  | .set S wc => ∀ k, S k → w.heap[k]? = wc.heap[k]?
  | .box g cs t => w.heap[g]? = some (.cells cs t (0, 0))
theorem Part.F.keep {w w' : World} : ∀ {p : Part}, p.F w → (∀ k, p.has k → w'.heap[k]? = w.heap[k]?) → p.F w'
  | .set _ _, h, hk => fun k h1 => (hk k h1).trans (h k h1)
  | .box g _ _, h, hk => (hk g rfl).trans h
def Part.Off (p q : Part) : Prop := ∀ k, p.has k → q.has k → False
theorem Part.Off.symm {p q : Part} (h : p.Off q) : q.Off p := fun k h1 h2 => h k h2 h1
structure Hq (base : Nat) (w0 w : World) (L : List Part) : Prop where
  bel : Below base w0 w
  ge : base ≤ w.heap.size
  all : ∀ p ∈ L, (∀ k, p.has k → base ≤ k ∧ k < w.heap.size) ∧ p.F w
  dis : L.Pairwise Part.Off
section
variable {base : Nat} {w0 w w' : World} {L : List Part}
theorem Hq.step (h : Hq base w0 w L) (hb : Below w.heap.size w w') : Hq base w0 w' L :=
  ⟨h.bel.trans (hb.mono h.ge), Nat.le_trans h.ge hb.size, fun p hp => have hq := h.all p hp; ⟨fun k hk => ⟨(hq.1 k hk).1, Nat.lt_of_lt_of_le (hq.1 k hk).2 hb.size⟩, hq.2.keep fun k hk => hb.block k (hq.1 k hk).2⟩, h.dis⟩
theorem Hq.drewN (h : Hq base w0 w L) (n : Nat) : Hq base w0 (w.drewN n) L :=
  ⟨⟨h.bel.os, h.bel.tape, h.bel.output, h.bel.size, h.bel.block⟩, h.ge, fun p hp => have hq := h.all p hp; ⟨hq.1, hq.2.keep fun _ _ => rfl⟩, h.dis⟩
theorem Hq.drew (h : Hq base w0 w L) : Hq base w0 w.drew L :=
  ⟨h.bel.drew, h.ge, fun p hp => have hq := h.all p hp; ⟨hq.1, hq.2.keep fun _ _ => rfl⟩, h.dis⟩
theorem Hq.less {p : Part} (h : Hq base w0 w (p :: L)) : Hq base w0 w L := ⟨h.bel, h.ge, fun q hq => h.all q (List.mem_cons_of_mem _ hq), (List.pairwise_cons.1 h.dis).2⟩
theorem Hq.more {p : Part} (h : Hq base w0 w L) (hb : Below w.heap.size w w') (h1 : ∀ k, p.has k → w.heap.size ≤ k ∧ k < w'.heap.size) (h3 : p.F w') : Hq base w0 w' (p :: L) :=
  have hs := h.step hb
  ⟨hs.bel, hs.ge, fun q hq => by
    rcases List.mem_cons.1 hq with rfl | hq
    · exact ⟨fun k hk => ⟨Nat.le_trans h.ge (h1 k hk).1, (h1 k hk).2⟩, h3⟩
    · exact hs.all q hq, List.pairwise_cons.2 ⟨fun q hq k hk hk2 => by have := (h1 k hk).1; have := ((h.all q hq).1 k hk2).2; omega, hs.dis⟩⟩
theorem Hq.made (h : Hq base w0 w L) (hb : Below w.heap.size w w') : Hq base w0 w' (.set (fun k => w.heap.size ≤ k ∧ k < w'.heap.size) w' :: L) :=
  h.more hb (fun _ hk => hk) (fun _ _ => rfl)
theorem Hq.boxed (h : Hq base w0 w L) {g : Nat} {cs : Array Value} {t : TypeId} (hg : g = w.heap.size) (hbox : w'.heap[g]? = some (.cells cs t (0, 0))) (hb : Below w.heap.size w w') : Hq base w0 w' (.box g cs t :: L) :=
  h.more hb (fun k hk => by
    obtain rfl : k = g := hk
    exact ⟨Nat.le_of_eq hg.symm, blk_lt hbox⟩) hbox
theorem Hq.get (h : Hq base w0 w L) (i : Nat) {p : Part} (e : L[i]? = some p) : (∀ k, p.has k → base ≤ k ∧ k < w.heap.size) ∧ p.F w := h.all p (List.mem_of_getElem? e)
theorem Hq.box (h : Hq base w0 w L) (i : Nat) {g : Nat} {cs : Array Value} {t : TypeId} (e : L[i]? = some (.box g cs t)) : w.heap[g]? = some (.cells cs t (0, 0)) := (h.get i e).2
theorem Hq.box_ge (h : Hq base w0 w L) (i : Nat) {g : Nat} {cs : Array Value} {t : TypeId} (e : L[i]? = some (.box g cs t)) : base ≤ g := ((h.get i e).1 g rfl).1
theorem Hq.same (h : Hq base w0 w L) (i : Nat) {S : Nat → Prop} {wc : World} (e : L[i]? = some (.set S wc)) : ∀ k, S k → w.heap[k]? = wc.heap[k]? := (h.get i e).2
theorem Hq.set_in (h : Hq base w0 w L) (i : Nat) {S : Nat → Prop} {wc : World} (e : L[i]? = some (.set S wc)) : ∀ k, S k → base ≤ k ∧ k < w.heap.size := (h.get i e).1
theorem off_set : ∀ {L : List Part} {i : Nat} {p p' : Part}, L.Pairwise Part.Off → L[i]? = some p → (∀ q ∈ L, p.Off q → p'.Off q) → (L.set i p').Pairwise Part.Off ∧ (∀ q ∈ L.set i p', q = p' ∨ (q ∈ L ∧ q.Off p))
  | [], _, _, _, _, e, _ => by simp at e
  | q :: L, 0, p, p', h, e, e1 => by
    obtain rfl : q = p := by simpa using e
    have hc := List.pairwise_cons.1 h
    refine ⟨List.pairwise_cons.2 ⟨fun r hr => e1 r (List.mem_cons_of_mem _ hr) (hc.1 r hr), hc.2⟩, fun r hr => ?_⟩
    rcases List.mem_cons.1 hr with rfl | hr
    · exact .inl rfl
    · exact .inr ⟨List.mem_cons_of_mem _ hr, (hc.1 r hr).symm⟩
  | q :: L, i + 1, p, p', h, e, e1 => by
    have hc := List.pairwise_cons.1 h
    have e' : L[i]? = some p := by simpa using e
    have ih := off_set hc.2 e' (fun q hq => e1 q (List.mem_cons_of_mem _ hq))
    refine ⟨List.pairwise_cons.2 ⟨fun r hr => ?_, ih.1⟩, fun r hr => ?_⟩
    · rcases ih.2 r hr with rfl | hr
      · exact (e1 q List.mem_cons_self (hc.1 p (List.mem_of_getElem? e')).symm).symm
      · exact hc.1 r hr.1
    · rcases List.mem_cons.1 hr with rfl | hr
      · exact .inr ⟨List.mem_cons_self, hc.1 p (List.mem_of_getElem? e')⟩
      · rcases ih.2 r hr with h1 | h1
        · exact .inl h1
        · exact .inr ⟨List.mem_cons_of_mem _ h1.1, h1.2⟩
theorem Hq.put (h : Hq base w0 w L) (i : Nat) {p p' : Part} (e : L[i]? = some p) (e1 : ∀ k, p'.has k → (p.has k ∨ w.heap.size ≤ k) ∧ k < w'.heap.size) (hF : p'.F w') (hb : Below base w w') (hk : ∀ k, k < w.heap.size → ¬ p.has k → w'.heap[k]? = w.heap[k]?) : Hq base w0 w' (L.set i p') := by
  have hs := off_set (p' := p') h.dis e (fun q hq ho k h1 h2 => by
    rcases (e1 k h1).1 with h3 | h3
    · exact ho k h3 h2
    · have := ((h.all q hq).1 k h2).2
      omega)
  have hg := h.get i e
  refine ⟨h.bel.trans hb, Nat.le_trans h.ge hb.size, fun q hq => ?_, hs.1⟩
  rcases hs.2 q hq with rfl | ⟨h1, h2⟩
  · refine ⟨fun k h3 => ⟨?_, (e1 k h3).2⟩, hF⟩
    rcases (e1 k h3).1 with h4 | h4
    · exact (hg.1 k h4).1
    · exact Nat.le_trans h.ge h4
  · have ha := h.all q h1
    exact ⟨fun k h3 => ⟨(ha.1 k h3).1, Nat.lt_of_lt_of_le (ha.1 k h3).2 hb.size⟩, ha.2.keep fun k h3 => hk k (ha.1 k h3).2 fun h4 => h2 k h3 h4⟩
theorem Hq.put_box (h : Hq base w0 w L) (i : Nat) {g : Nat} {cs cs' : Array Value} {t : TypeId} (e : L[i]? = some (.box g cs t)) (hF : w'.heap[g]? = some (.cells cs' t (0, 0))) (hb : Below base w w') (hk : ∀ k, k < w.heap.size → k ≠ g → w'.heap[k]? = w.heap[k]?) : Hq base w0 w' (L.set i (.box g cs' t)) :=
  h.put i e (fun k h1 => by
    obtain rfl : k = g := h1
    exact ⟨.inl rfl, blk_lt hF⟩) hF hb hk
theorem Hq.set_box (h : Hq base w0 w L) (i : Nat) {g : Nat} {cs : Array Value} {t : TypeId} (e : L[i]? = some (.box g cs t)) (j : Nat) (v : Value) : Hq base w0 (w.setCell ⟨g, j, none⟩ v) (L.set i (.box g (cs.setIfInBounds j v) t)) :=
  h.put_box i e (blk_set (h.box i e) j v) ((Below.refl base w).setCell (p := ⟨g, j, none⟩) (h.box_ge i e) v) fun k _ h3 => Below.heap_setCell w _ v k h3
theorem Hq.wrote (h : Hq base w0 w L) (i : Nat) {S : Nat → Prop} {wc : World} (e : L[i]? = some (.set S wc)) (hb : Below base w w') (hk : ∀ k, k < w.heap.size → ¬ S k → w'.heap[k]? = w.heap[k]?) : Hq base w0 w' (L.set i (.set (fun k => (S k ∨ w.heap.size ≤ k) ∧ k < w'.heap.size) w')) :=
  h.put i e (p' := .set (fun k => (S k ∨ w.heap.size ≤ k) ∧ k < w'.heap.size) w') (fun k hk => hk) (fun _ _ => rfl) hb hk
theorem Hq.set_cell (h : Hq base w0 w L) (i : Nat) {S : Nat → Prop} {wc : World} (e : L[i]? = some (.set S wc)) {g j : Nat} (hg : S g) (v : Value) : Hq base w0 (w.setCell ⟨g, j, none⟩ v) (L.set i (.set S (w.setCell ⟨g, j, none⟩ v))) :=
  h.put i e (p' := .set S (w.setCell ⟨g, j, none⟩ v)) (fun k hk => ⟨.inl hk, by rw [show (w.setCell ⟨g, j, none⟩ v).heap.size = w.heap.size by simp [World.setCell]]; exact (h.set_in i e k hk).2⟩) (fun _ _ => rfl)
    ((Below.refl base w).setCell (p := ⟨g, j, none⟩) (h.set_in i e g hg).1 v) fun k _ h3 => Below.heap_setCell w _ v k (fun hh => h3 (hh ▸ hg))
theorem Hq.cell (h : Hq base w0 w L) (i : Nat) {S : Nat → Prop} {wc : World} (e : L[i]? = some (.set S wc)) {g j : Nat} {v : Value} (hg : S g) (hc : wc.cell? ⟨g, j, none⟩ = some v) : w.cell? ⟨g, j, none⟩ = some v :=
  (World.cell?_of_block (w := wc) (a := ⟨g, j, none⟩) (h.same i e g hg)).trans hc
theorem Hq.frz (h : Hq base w0 w L) (i : Nat) {S : Nat → Prop} {wc : World} (e : L[i]? = some (.set S wc)) {g j : Nat} (hg : S g) (hc : wc.frozen? ⟨g, j, none⟩ = false) : w.frozen? ⟨g, j, none⟩ = false :=
  (World.frozen?_of_block (w := wc) (a := ⟨g, j, none⟩) (h.same i e g hg)).trans hc
theorem Hq.sel (h : Hq base w0 w L) (is : List Nat) (L' : List Part) (hn : is.Nodup) (e : is.map (fun i => L[i]?) = L'.map some) : Hq base w0 w L' := by
  have key : ∀ (is : List Nat) (L' : List Part), is.Nodup → is.map (fun i => L[i]?) = L'.map some → (∀ p ∈ L', ∃ i ∈ is, L[i]? = some p) ∧ L'.Pairwise Part.Off := by
    intro is
    induction is with
    | nil =>
      intro L' _ e
      cases L' with
      | nil => exact ⟨fun _ h => (by cases h), List.Pairwise.nil⟩
      | cons _ _ => simp at e
    | cons i is ih =>
      intro L' hn e
      cases L' with
      | nil => simp at e
      | cons p L' =>
        simp only [List.map_cons, List.cons.injEq] at e
        have hc := List.nodup_cons.1 hn
        have h1 := ih L' hc.2 e.2
        refine ⟨fun q hq => ?_, List.pairwise_cons.2 ⟨fun q hq => ?_, h1.2⟩⟩
        · rcases List.mem_cons.1 hq with rfl | hq
          · exact ⟨i, List.mem_cons_self, e.1⟩
          · obtain ⟨j, hj, hj2⟩ := h1.1 q hq
            exact ⟨j, List.mem_cons_of_mem _ hj, hj2⟩
        · obtain ⟨j, hj, hj2⟩ := h1.1 q hq
          have hij : i ≠ j := fun e => hc.1 (e ▸ hj)
          obtain ⟨hi1, hi2⟩ := List.getElem?_eq_some_iff.1 e.1
          obtain ⟨hj1, hj3⟩ := List.getElem?_eq_some_iff.1 hj2
          rw [← hi2, ← hj3]
          rcases Nat.lt_or_gt_of_ne hij with hl | hl
          · exact List.pairwise_iff_getElem.1 h.dis i j hi1 hj1 hl
          · exact (List.pairwise_iff_getElem.1 h.dis j i hj1 hi1 hl).symm
  have hk := key is L' hn e
  refine ⟨h.bel, h.ge, fun p hp => ?_, hk.2⟩
  obtain ⟨i, _, hi⟩ := hk.1 p hp
  exact h.get i hi
theorem Hq.set_row (h : Hq base w0 w L) (i : Nat) {g : Nat} {cs : Array Value} {t : TypeId} (e : L[i]? = some (.box g cs t)) (cs' : Array Value) : Hq base w0 (w.setRow g cs') (L.set i (.box g cs' t)) := by
  have hgb := h.box_ge i e
  have far : ∀ k, k ≠ g → (w.setRow g cs').heap[k]? = w.heap[k]? := fun k hk => setRow_other w g k cs' hk
  exact h.put_box i e (setRow_heap w g cs cs' t (0, 0) (h.box i e)) ⟨rfl, rfl, rfl, by rw [setRow_size]; exact Nat.le_refl _, fun k hk => far k (by omega)⟩ fun k _ h3 => far k h3
theorem Hq.start_set {S : Nat → Prop} (w : World) (hb : base ≤ w.heap.size) (hS : ∀ k, S k → base ≤ k ∧ k < w.heap.size) : Hq base w w [.set S w, .set (fun k => ¬ S k ∧ base ≤ k ∧ k < w.heap.size) w] :=
  ⟨Below.refl _ _, hb, fun p hp => (by
    rcases List.mem_cons.1 hp with rfl | hp
    · exact ⟨hS, fun _ _ => rfl⟩
    · rcases List.mem_cons.1 hp with rfl | hp
      · exact ⟨fun k hk => hk.2, fun _ _ => rfl⟩
      · cases hp), List.pairwise_cons.2 ⟨fun q hq => (by
    rcases List.mem_cons.1 hq with rfl | hq
    · exact fun k h1 h2 => h2.1 h1
    · cases hq), List.pairwise_cons.2 ⟨fun _ h => (by cases h), List.Pairwise.nil⟩⟩⟩
theorem Hq.start_box {g : Nat} {cs : Array Value} {t : TypeId} (w : World) (hb : base ≤ g) (hbox : w.heap[g]? = some (.cells cs t (0, 0))) : Hq base w w [.box g cs t, .set (fun k => k ≠ g ∧ base ≤ k ∧ k < w.heap.size) w] :=
  ⟨Below.refl _ _, Nat.le_trans hb (Nat.le_of_lt (blk_lt hbox)), fun p hp => (by
    rcases List.mem_cons.1 hp with rfl | hp
    · exact ⟨fun k hk => by
        obtain rfl : k = g := hk
        exact ⟨hb, blk_lt hbox⟩, hbox⟩
    · rcases List.mem_cons.1 hp with rfl | hp
      · exact ⟨fun k hk => hk.2, fun _ _ => rfl⟩
      · cases hp), List.pairwise_cons.2 ⟨fun q hq => (by
    rcases List.mem_cons.1 hq with rfl | hq
    · exact fun k h1 h2 => h2.1 h1
    · cases hq), List.pairwise_cons.2 ⟨fun _ h => (by cases h), List.Pairwise.nil⟩⟩⟩
theorem Hq.kept {S : Nat → Prop} (h : Hq base w0 w L) (i : Nat) (e : L[i]? = some (.set (fun k => ¬ S k ∧ base ≤ k ∧ k < w0.heap.size) w0)) : ∀ k, k < w0.heap.size → ¬ S k → w.heap[k]? = w0.heap[k]? := fun k h1 h2 => by
  by_cases hb : base ≤ k
  · exact h.same i e k ⟨h2, hb, h1⟩
  · exact h.bel.block k (by omega)
end
section
variable {P : Program} {ops : Array Oper} {Q : Exit → Act → World → Prop} {rest : List Oper} {o : Oper} {a : Act} {base : Nat} {w0 w : World} {L : List Part}
theorem Hq.run_row (h : Hq base w0 w L) (i : Nat) {g : Nat} {cs : Array Value} {t : TypeId} (e : L[i]? = some (.box g cs t)) {ty : TypeId} {x : Operand} (ho : o.op = .load ty x) (hx : a.eval x = .pointer (some ⟨g, 0, none⟩)) {d : TypeDesc}
    (hu : P.underlying ty = some d) (hd : (match d with | .struct _ | .array _ _ => true | _ => false) = true) (hi : (P.info? ty).map (·.size) = some cs.size) : (execOp a.eval o).run P w = .ok (.value (.agg cs)) w := by
  unfold execOp
  simp only [ho, hx, Instr.loadAt, Instr.sureAddr, Sem.run_bind, Sem.run_pure, Result.andThen_ok, run_loadVar_row w g t ty cs (0, 0) d (h.box i e) hu hd hi]
theorem Hq.ld_row (h : Hq base w0 w L) (i : Nat) {g : Nat} {cs : Array Value} {t : TypeId} (e : L[i]? = some (.box g cs t)) (hgd : o.guard = none) {ty : TypeId} {x : Operand} (ho : o.op = .load ty x) (hx : a.eval x = .pointer (some ⟨g, 0, none⟩)) {d : TypeDesc}
    (hu : P.underlying ty = some d) (hd : (match d with | .struct _ | .array _ _ => true | _ => false) = true) (hi : (P.info? ty).map (·.size) = some cs.size) (k : wpList P ops Q rest (a.put o.dst (.agg cs)) w) : wpList P ops Q (o :: rest) a w :=
  Kd.event_run hgd (h.run_row i e ho hx hu hd hi) k
theorem Hq.run_cell (h : Hq base w0 w L) (i : Nat) {g : Nat} {cs : Array Value} {t : TypeId} (e : L[i]? = some (.box g cs t)) (j : Nat) {v : Value} (hv : cs[j]? = some v) {ty : TypeId} {x : Operand} (ho : o.op = .load ty x) (hx : a.eval x = .pointer (some ⟨g, j, none⟩)) {d : TypeDesc}
    (hu : P.underlying ty = some d) (hd : (match d with | .struct _ | .array _ _ => true | _ => false) = false) : (execOp a.eval o).run P w = .ok (.value v) w := by
  unfold execOp
  simp only [ho, hx, Instr.loadAt, Instr.sureAddr, Sem.run_bind, Sem.run_pure, Result.andThen_ok, Hd.run_loadVar_cell (w := w) hu hd ((zq4 (h.box i e) j).trans hv)]
theorem Hq.ld_cell (h : Hq base w0 w L) (i : Nat) {g : Nat} {cs : Array Value} {t : TypeId} (e : L[i]? = some (.box g cs t)) (j : Nat) {v : Value} (hv : cs[j]? = some v) (hgd : o.guard = none) {ty : TypeId} {x : Operand} (ho : o.op = .load ty x) (hx : a.eval x = .pointer (some ⟨g, j, none⟩)) {d : TypeDesc}
    (hu : P.underlying ty = some d) (hd : (match d with | .struct _ | .array _ _ => true | _ => false) = false) (k : wpList P ops Q rest (a.put o.dst v) w) : wpList P ops Q (o :: rest) a w :=
  Kd.event_run hgd (h.run_cell i e j hv ho hx hu hd) k
theorem Hq.bx (h : Hq base w0 w L) (hgd : o.guard = none) (cs : Array Value) (t : TypeId)
    (hrun : (execOp a.eval o).run P w = .ok (.value (.pointer (some ⟨w.heap.size, 0, none⟩))) (w.alloc (.cells cs t (0, 0))))
    (k : ∀ g w1, Az (Hq base w0 w1 (.box g cs t :: L)) → wpList P ops Q rest (a.put o.dst (.pointer (some ⟨g, 0, none⟩))) w1) : wpList P ops Q (o :: rest) a w :=
  Kd.event_run hgd hrun (k _ _ ⟨h.boxed rfl (blk_new w _) (zq2 (Below.refl _ _) _)⟩)
theorem Hq.run_st (h : Hq base w0 w L) (i : Nat) {g : Nat} {cs : Array Value} {t : TypeId} (e : L[i]? = some (.box g cs t)) {ty : TypeId} {x y : Operand} (ho : o.op = .store ty x y) (hx : a.eval x = .pointer (some ⟨g, 0, none⟩)) (cs' : Array Value) (hy : a.eval y = .agg cs')
    (hi : (P.info? ty).map (·.size) = some cs'.size) (hs : cs.size = cs'.size) (h1 : cs'.all (·.oneCell') = true) : (execOp a.eval o).run P w = .ok .skip (w.setRow g cs') := by
  unfold execOp
  simp only [ho, hx, hy, Instr.storeAt, Instr.sureAddr, Sem.run_bind, Sem.run_pure, Result.andThen_ok, run_storeVar_row w g t ty cs cs' (h.box i e) hi hs h1]
theorem Hq.st_row (h : Hq base w0 w L) (i : Nat) {g : Nat} {cs : Array Value} {t : TypeId} (e : L[i]? = some (.box g cs t)) (hgd : o.guard = none) {ty : TypeId} {x y : Operand} (ho : o.op = .store ty x y) (hN : o.dst = none) (hx : a.eval x = .pointer (some ⟨g, 0, none⟩)) (cs' : Array Value) (hy : a.eval y = .agg cs')
    (hi : (P.info? ty).map (·.size) = some cs'.size) (hs : cs.size = cs'.size) (h1 : cs'.all (·.oneCell') = true) (k : ∀ w1, Az (Hq base w0 w1 (L.set i (.box g cs' t))) → wpList P ops Q rest a w1) : wpList P ops Q (o :: rest) a w := by
  refine wpList_plain hgd fun K hK => ?_
  unfold Oper.wp
  rw [h.run_st i e ho hx cs' hy hi hs h1]
  show K (a.put o.dst undef) _
  rw [hN]
  exact hK _ _ (k _ ⟨h.set_row i e cs'⟩)
theorem Hq.st_cell (h : Hq base w0 w L) (i : Nat) {g : Nat} {cs : Array Value} {t : TypeId} (e : L[i]? = some (.box g cs t)) (j : Nat) (v : Value) (hgd : o.guard = none) (hN : o.dst = none) 
    (hrun : (execOp a.eval o).run P w = .ok .skip (w.setCell ⟨g, j, none⟩ v)) (k : ∀ w1, Az (Hq base w0 w1 (L.set i (.box g (cs.setIfInBounds j v) t))) → wpList P ops Q rest a w1) : wpList P ops Q (o :: rest) a w := by
  refine wpList_plain hgd fun K hK => ?_
  unfold Oper.wp
  rw [hrun]
  show K (a.put o.dst undef) _
  rw [hN]
  exact hK _ _ (k _ ⟨h.set_box i e j v⟩)
theorem Hq.conv_sb (h : Hq base w0 w L) (hgd : o.guard = none) {ts tb te : TypeId} {x : Operand} {s : ByteArray} (hts : P.underlying ts = some .string) (htb : P.underlying tb = some (.slice te)) (hte : P.underlying te = some (.int .u8)) (ho : o.op = .convert ts tb x) (hx : a.eval x = .string s)
    (k : ∀ g c w1, Az (Hq base w0 w1 (.set (fun k => k = g) w1 :: L)) → Az (Hd.BytesAt w1 g (bytesOf s)) → wpList P ops Q rest (a.put o.dst (.slice (some ⟨g, 0, none⟩) s.size c)) w1) : wpList P ops Q (o :: rest) a w := by
  refine Kd.event_run hgd (w1 := Lib.bytesWorld w te s) (v := .slice (some ⟨w.heap.size, 0, none⟩) s.size (grownCap w s.size 0 te)) ?_ (k _ _ _ ⟨?_⟩ ⟨Hd.bytesAt_new w te s⟩)
  · unfold execOp
    simp only [ho, hx, Sem.run_bind, Lib.run_convert_string_bytes w ts tb te s hts htb hte, Result.andThen_ok]
    rfl
  · have hsz := Lib.bytesWorld_size w te s
    exact h.more ⟨rfl, rfl, rfl, by omega, fun j hj => Lib.bytesWorld_at_old w te s j hj⟩ (fun k hk => by obtain rfl : k = w.heap.size := hk; exact ⟨Nat.le_refl _, by omega⟩) (fun _ _ => rfl)
end
end Go.Proofs.Ytkgpnloghmbmlaa.Hq
namespace Go.Proofs.Ytkgpnloghmbmlaa.Print
open Go.RowKit Go.Proofs.YtkgpnloghmbmlaaW.PrintWords Go.Proofs.YtkgpnloghmbmlaaW.PrintLast Go.Proofs.YtkgpnloghmbmlaaW.PrintMore
attribute [local go_sem] max2_int min2_int max_two min_two max_three min_three max_four min_four   -- for this text's walks alone
set_option linter.unusedVariables false
set_option linter.unusedSimpArgs false
def errW : Option Int → Value
 | none => .nilIface
 | some c => .iface 0 (.int .i64 c)
theorem errW_none : errW none = .nilIface := rfl
theorem errW_some (c : Int) : errW (some c) = .iface 0 (.int .i64 c) := rfl
theorem info5 : (Try.prog.info? 5).map (fun i => (i.zero, i.size, i.bytes)) = some (some (.int .u8 0), 1, 1) := by kernel_rfl
theorem info54 : (Try.prog.info? 54).map (fun i => (i.zero, i.size, i.bytes)) = some (some (.agg #[(.bool false), (.int .i64 0), (.string ⟨#[]⟩)]), 3, 32) := by kernel_rfl
structure S54 where
 f0 : Bool
 f1 : Int
 f2 : ByteArray
def z54 : S54 := ⟨false, (0 : Int), (⟨#[]⟩ : ByteArray)⟩
def k54 : Kd S54 := Kd.iso (Kd.pair Kd.bool (Kd.pair (Kd.int .i64) Kd.string)) (fun x : S54 => (x.f0, x.f1, x.f2))
theorem k54_open {w : World} {x : S54} {cs : List Value} (h : k54.K w x cs) : cs = [.bool x.f0, .int .i64 x.f1, .string x.f2] := by
 obtain ⟨_, _, rfl, rfl, ⟨_, _, rfl, rfl, rfl⟩⟩ := h
 exact rfl
theorem k54_mkM (w : World) (base : Nat) (ok : Nat → Prop) (x : S54)  : k54.M w base ok x [.bool x.f0, .int .i64 x.f1, .string x.f2] := ⟨[.bool x.f0], [.int .i64 x.f1, .string x.f2], rfl, rfl, ⟨[.int .i64 x.f1], [.string x.f2], rfl, rfl, rfl⟩⟩
def rd_T54 (xs : List S54) (i : Int) : S54 := xs.getD i.toNat z54
theorem at_T54 {w : World} {A : Option Addr} {n : Nat} {xs : List S54} (h : Kd.C k54 w A n xs) (i : Int) (h0 : 0 ≤ i) (h1 : i < n) : ∃ ad , A = some ad ∧ w.cell? (ad.add (i.toNat * 3)) = some (.bool (rd_T54 xs i).f0) ∧ w.cell? ⟨(ad.add (i.toNat * 3)).block, (ad.add (i.toNat * 3)).off + 1, none⟩ = some (.int .i64 (rd_T54 xs i).f1) ∧ w.cell? ⟨(ad.add (i.toNat * 3)).block, (ad.add (i.toNat * 3)).off + 2, none⟩ = some (.string (rd_T54 xs i).f2) := by
 obtain ⟨ad, c, e, _, hK, hc0⟩ := Kd.C_get h z54 i h0 h1
 have hc : ∀ j u, c[j]? = some u → w.cell? (ad.add (i.toNat * 3 + j)) = some u := hc0
 obtain rfl := k54_open hK
 exact ⟨ad, e, hc 0 _ rfl, by rw [← add_field _ _ 1 (by omega)]; exact hc 1 _ rfl, by rw [← add_field _ _ 2 (by omega)]; exact hc 2 _ rfl⟩
structure S28 where
 f0 : Int
 f1 : (List ByteArray)
 f2 : (List ByteArray)
 f3 : (List Bool)
 f4 : (List S54)
structure S65 where
 f0 : Bool
 f1 : Int
 f2 : ByteArray
def k65 : Kd S65 := Kd.iso (Kd.pair Kd.bool (Kd.pair (Kd.int .i64) Kd.string)) (fun x : S65 => (x.f0, x.f1, x.f2))
structure S39 where
 f0 : Int
 f1 : (List ByteArray)
 f2 : (List ByteArray)
 f3 : (List Bool)
 f4 : (List S65)
end Go.Proofs.Ytkgpnloghmbmlaa.Print
namespace Go.Proofs.Ytkgpnloghmbmlaa.Pure
open Go.RowKit Go.Proofs.YtkgpnloghmbmlaaW.PrintWords
theorem Ev.pos {α : Type} {c : Prop} [Decidable c] {f g : Nat → Option α} {r : α} (h : c) (k : Ev f r) : Ev (fun n => if c then f n else g n) r := by
  obtain ⟨K, k⟩ := k
  exact ⟨K, fun n hn => by simp only [if_pos h]; exact k n hn⟩
theorem Ev.neg {α : Type} {c : Prop} [Decidable c] {f g : Nat → Option α} {r : α} (h : ¬ c) (k : Ev g r) : Ev (fun n => if c then f n else g n) r := by
  obtain ⟨K, k⟩ := k
  exact ⟨K, fun n hn => by simp only [if_neg h]; exact k n hn⟩
theorem Ev.take {α β : Type} {g : Option α} {f : Nat → α → Option β} {a : α} {r : β} (h : g = some a) (k : Ev (fun n => f n a) r) : Ev (fun n => g.bind (f n)) r := by
  subst h
  exact k
theorem Ev.same {α : Type} {g : Option α} {r : α} (h : g = some r) : Ev (fun _ => g) r := ⟨0, fun _ _ => h⟩
theorem Ev.ret {α : Type} {a r : α} (h : a = r) : Ev (fun _ => some a) r := ⟨0, fun _ _ => by rw [h]⟩
theorem wrap_ok {x : Int} (h : -9223372036854775808 ≤ x ∧ x ≤ 9223372036854775807) : wrap64 x = x := by
  unfold wrap64
  omega
theorem bits_xor_nat (k : IntKind) (j : Nat) (hj : j ≤ k.bits) (hk : ∀ n : Int, 0 ≤ n → n < 2 ^ j → k.wrap n = n) (a b : Nat) (ha : a < 2 ^ j) (hb : b < 2 ^ j) :
    Go.bits .xor k a b = ((a ^^^ b : Nat) : Int) := by
  have hp : 2 ^ j ≤ 2 ^ k.bits := Nat.pow_le_pow_right (by decide) hj
  have ha' : a % 2 ^ k.bits = a := Nat.mod_eq_of_lt (Nat.lt_of_lt_of_le ha hp)
  have hb' : b % 2 ^ k.bits = b := Nat.mod_eq_of_lt (Nat.lt_of_lt_of_le hb hp)
  simp only [Go.bits, BitVec.ofInt_natCast, BitVec.toNat_xor, BitVec.toNat_ofNat, ha', hb']
  exact hk _ (Int.natCast_nonneg _) (by exact_mod_cast (Nat.xor_lt_two_pow ha hb))
theorem xor64_bd (x y : Int) (hx : 0 ≤ x ∧ x < 4611686018427387904) (hy : 0 ≤ y ∧ y < 4611686018427387904) : 0 ≤ Go.bits .xor .i64 x y ∧ Go.bits .xor .i64 x y < 4611686018427387904 := by
  obtain ⟨a, rfl⟩ := Int.eq_ofNat_of_zero_le hx.1
  obtain ⟨b, rfl⟩ := Int.eq_ofNat_of_zero_le hy.1
  rw [bits_xor_nat .i64 62 (by decide) (fun n h0 h1 => by rw [IntKind.wrap_i64]; omega) a b (by omega) (by omega)]
  have := Nat.xor_lt_two_pow (x := a) (y := b) (n := 62) (by omega) (by omega)
  omega
theorem size_extract (s : ByteArray) (a b : Nat) (hb : b ≤ s.size) : (s.extract a b).size = b - a := by
  simp [ByteArray.size_extract]
  omega
theorem rd_bd (l : List Int) (h : ∀ x ∈ l, 0 ≤ x ∧ x < 256) (i : Int) : 0 ≤ rd l i ∧ rd l i < 256 := by
  unfold rd
  simp only [List.getD]
  cases e : l[i.toNat]? with
  | none => simp
  | some x => exact h x (List.mem_of_getElem? e)
theorem wf_u8 {l : List Int} (h : ∀ x ∈ l, (Lit.int .u8 x).wf = true) : ∀ x ∈ l, 0 ≤ x ∧ x < 256 := by
  intro x hx
  have := h x hx
  have e1 : IntKind.u8.min = 0 := by decide
  have e2 : IntKind.u8.max = 255 := by decide
  simp [Lit.wf, e1, e2] at this
  omega
end Go.Proofs.Ytkgpnloghmbmlaa.Pure
namespace Go.Proofs.Ytkgpnloghmbmlaa.Take
open Go.RowKit Go.Proofs.YtkgpnloghmbmlaaW.PrintWords
structure Opens {α : Type} (P : Program) (t : TypeId) (d : Kd α) (Wf : α → Prop) : Prop where
  sz : P.cellsOf t = d.sz
  opens : ∀ (H : Type) (enc : TypeId × Value → H) (w : World) (base : Nat) (spare : Nat → Bool) (held : Bool) (fuel : Nat) (cs : List Value) (x : DataW H × List MemPlace), DataW.trod enc P w base spare held fuel t cs = some x → ∃ y : α, d.K w y cs ∧ Wf y
theorem list_of {α : Type} {p : Nat → α → Prop} (n : Nat) (h : ∀ i, i < n → ∃ y, p i y) : ∃ l : List α, l.length = n ∧ ∀ i y, l[i]? = some y → p i y := by
  induction n with
  | zero => exact ⟨[], rfl, fun i y hy => by simp at hy⟩
  | succ n ih =>
    obtain ⟨l, hl, hp⟩ := ih (fun i hi => h i (by omega))
    obtain ⟨z, hz⟩ := h n (by omega)
    refine ⟨l ++ [z], by simp [hl], fun i y hy => ?_⟩
    by_cases hi : i < l.length
    · rw [List.getElem?_append_left hi] at hy
      exact hp i y hy
    · have hin : i = n := by
        have h1 := (List.getElem?_eq_some_iff.1 hy).1
        simp at h1
        omega
      subst hin
      rw [List.getElem?_append_right (by omega)] at hy
      have : z = y := by simpa [hl] using hy
      rw [← this]
      exact hz
theorem addr_add (a : Addr) (i j : Nat) : (a.add i).add j = a.add (i + j) := by
  unfold Addr.add
  by_cases hi : i = 0 <;> by_cases hj : j = 0 <;> simp [hi, hj, Nat.add_assoc]
section
variable {P : Program} {t e : TypeId}
theorem Opens.int {k : IntKind} (ht : P.underlying t = some (.int k)) (hs : P.cellsOf t = 1) : Opens P t (Kd.int k) (fun x => (Lit.int k x).wf = true) := ⟨hs, by
  intro H enc w base spare held fuel cs x h
  obtain ⟨n, rfl, _, hw⟩ := DataW.trod_int ht h
  exact ⟨n, rfl, hw⟩⟩
theorem Opens.bool (ht : P.underlying t = some .bool) (hs : P.cellsOf t = 1) : Opens P t Kd.bool (fun _ => True) := ⟨hs, by
  intro H enc w base spare held fuel cs x h
  obtain ⟨b, rfl, _⟩ := DataW.trod_bool ht h
  exact ⟨b, rfl, trivial⟩⟩
theorem Opens.string (ht : P.underlying t = some .string) (hs : P.cellsOf t = 1) : Opens P t Kd.string (fun s => s.size ≤ maxLen) := ⟨hs, by
  intro H enc w base spare held fuel cs x h
  obtain ⟨s, rfl, _, hw⟩ := DataW.trod_string ht h
  exact ⟨s, rfl, hw⟩⟩
theorem Opens.slice {α : Type} {d : Kd α} {Wf : α → Prop} (ht : P.underlying t = some (.slice e)) (hs : P.cellsOf t = 1) (he : Opens P e d Wf) :
    Opens P t (Kd.slice e d) (fun l => l.length ≤ maxLen ∧ ∀ x ∈ l, Wf x) := ⟨hs, by
  intro H enc w base spare held fuel cs x h
  rcases DataW.trod_slice ht h with ⟨rfl, _⟩ | ⟨a, len, cap, elems, rest, n, _, rfl, _, _, hl, hm, hlen, hel, _⟩
  · exact ⟨[], ⟨none, 0, rfl, Nat.le_refl _, Kd.C_nil d w⟩, Nat.zero_le _, fun x hx => by simp at hx⟩
  · obtain ⟨l, hll, hp⟩ := list_of (p := fun i y => Wf y ∧ ∃ c, c.length = d.sz ∧ d.K w y c ∧ ∀ j u, c[j]? = some u → w.cell? (a.add (i * d.sz + j)) = some u) len (fun i hi => by
      have h1 := hel i hi
      rw [List.getElem?_eq_getElem (by omega)] at h1
      obtain ⟨cs', h2, h3⟩ := Option.bind_eq_some_iff.1 h1
      obtain ⟨_, h4, h5⟩ := World.cells?_some h2
      obtain ⟨y, hy, hw⟩ := he.opens H enc w base spare held n cs' _ h3
      refine ⟨y, hw, cs', h4.trans he.sz, hy, fun j u hu => ?_⟩
      have hj : j < P.cellsOf e := by
        have := (List.getElem?_eq_some_iff.1 hu).1
        omega
      have h6 := h5 j hj
      rw [addr_add, he.sz] at h6
      rw [h6, hu])
    refine ⟨l, ⟨some a, cap, by rw [hll], by omega, ?_⟩, by omega, fun x hx => ?_⟩
    · refine ⟨rfl, by have : maxLen = 9223372036854775807 := by decide
                      omega, fun _ => ⟨a, rfl, fun j p hj => (hp j p hj).2⟩⟩
    · obtain ⟨i, hi⟩ := List.getElem?_of_mem hx
      exact (hp i x hi).1⟩
structure Tail {α : Type} (P : Program) (fs : Array Field) (i o : Nat) (d : Kd α) (Wf : α → Prop) : Prop where
  opens : ∀ (H : Type) (enc : TypeId × Value → H) (w : World) (base : Nat) (spare : Nat → Bool) (held : Bool) (n : Nat) (cs : List Value) (xs : List (DataW H × List MemPlace)), xs.length = fs.size → cs.length = o + d.sz →
    (∀ (j : Nat) (f : Field), fs[j]? = some f → DataW.trod enc P w base spare held n f.type ((cs.drop f.offset).take (P.cellsOf f.type)) = xs[j]?) → ∃ y : α, d.K w y (cs.drop o) ∧ Wf y
theorem Tail.cons {α β : Type} {fs : Array Field} {i o : Nat} {d : Kd α} {d' : Kd β} {Wf : α → Prop} {Wf' : β → Prop} (f : Field) (hf : fs[i]? = some f) (ho : f.offset = o) (h : Opens P f.type d Wf) (k : Tail P fs (i + 1) (o + d.sz) d' Wf') :
    Tail P fs i o (Kd.pair d d') (fun p => Wf p.1 ∧ Wf' p.2) := ⟨by
  intro H enc w base spare held n cs xs hx hl he
  have h1 := he i f hf
  have hi : i < xs.length := by
    have := (Array.getElem?_eq_some_iff.1 hf).1
    omega
  rw [ho, h.sz, List.getElem?_eq_getElem hi] at h1
  obtain ⟨y, hy, hw⟩ := h.opens H enc w base spare held n _ _ h1
  have hl' : cs.length = o + (d.sz + d'.sz) := hl
  obtain ⟨z, hz, hw'⟩ := k.opens H enc w base spare held n cs xs hx (by omega) he
  exact ⟨(y, z), ⟨_, _, by rw [← List.drop_drop]; exact (List.take_append_drop d.sz (cs.drop o)).symm, hy, hz⟩, hw, hw'⟩⟩
theorem Opens.struct {α : Type} {d : Kd α} {Wf : α → Prop} {fs : Array Field} (ht : P.underlying t = some (.struct fs)) (hs : P.cellsOf t = d.sz) (k : Tail P fs 0 0 d Wf) : Opens P t d Wf := ⟨hs, by
  intro H enc w base spare held fuel cs x h
  obtain ⟨xs, n, _, _, hl, hx, he⟩ := DataW.trod_struct ht h
  obtain ⟨y, hy, hw⟩ := k.opens H enc w base spare held n cs xs hx (by omega) he
  exact ⟨y, by simpa using hy, hw⟩⟩
theorem Opens.iso {α β : Type} {d : Kd α} {Wf : α → Prop} (f : β → α) (mk : α → β) (hf : ∀ a, f (mk a) = a) (h : Opens P t d Wf) : Opens P t (Kd.iso d f) (fun y => Wf (f y)) := ⟨h.sz, by
  intro H enc w base spare held fuel cs x hx
  obtain ⟨y, hy, hw⟩ := h.opens H enc w base spare held fuel cs x hx
  exact ⟨mk y, by show d.K w (f (mk y)) cs; rw [hf]; exact hy, by rw [hf]; exact hw⟩⟩
theorem Opens.arg {α : Type} {d : Kd α} {Wf : List α → Prop} {H : Type} {enc : TypeId × Value → H} {w : World} {base : Nat} {spare : Nat → Bool} {held : Bool} {v : Value} {x : DataW H} {p : List MemPlace} (h : Opens P t (Kd.slice e d) Wf)
    (hv : v.cells.toList = [v]) (ht : DataW.Trod enc P w base spare held t v x p) : ∃ (A : Option Addr) (c : Nat) (l : List α), v = .slice A l.length c ∧ d.C w A l.length l ∧ l.length ≤ c ∧ Wf l := by
  obtain ⟨fuel, hf⟩ := ht
  rw [hv] at hf
  obtain ⟨l, ⟨A, c, hc, hl, hC⟩, hw⟩ := h.opens H enc w base spare held fuel _ _ hf
  exact ⟨A, c, l, by simpa using hc, hC, hl, hw⟩
end
end Go.Proofs.Ytkgpnloghmbmlaa.Take
namespace Go.Proofs.Ytkgpnloghmbmlaa.Take
open Go.RowKit Go.Proofs.Ytkgpnloghmbmlaa.Print Go.Proofs.YtkgpnloghmbmlaaW.PrintWords
def W5 (x : Int) : Prop := (Lit.int .u8 x).wf = true
theorem o5 : Opens Try.prog 5 (Kd.int .u8) W5 := Opens.int (by kernel_rfl) (by kernel_rfl)
def W22 (x : (List Int)) : Prop := x.length ≤ maxLen ∧ ∀ y ∈ x, W5 y
theorem o22 : Opens Try.prog 22 (Kd.slice 5 (Kd.int .u8)) W22 := Opens.slice Try.underlying22 (by kernel_rfl) o5
end Go.Proofs.Ytkgpnloghmbmlaa.Take
namespace Go.Proofs.Ytkgpnloghmbmlaa.Print
open Go.RowKit Go.Proofs.YtkgpnloghmbmlaaW.PrintWords Go.Proofs.YtkgpnloghmbmlaaW.PrintLast Go.Proofs.YtkgpnloghmbmlaaW.PrintMore
attribute [local go_sem] max2_int min2_int max_two min_two max_three min_three max_four min_four   -- for this text's walks alone
set_option linter.unusedVariables false
set_option linter.unusedSimpArgs false
end Go.Proofs.Ytkgpnloghmbmlaa.Print
namespace Go.Proofs.Ytkgpnloghmbmlaa.Print
open Go.RowKit Go.Proofs.YtkgpnloghmbmlaaW.PrintWords Go.Proofs.YtkgpnloghmbmlaaW.PrintLast Go.Proofs.YtkgpnloghmbmlaaW.PrintMore
attribute [local go_sem] max2_int min2_int max_two min_two max_three min_three max_four min_four   -- for this text's walks alone
set_option linter.unusedVariables false
set_option linter.unusedSimpArgs false
end Go.Proofs.Ytkgpnloghmbmlaa.Print
namespace Go.Proofs.Ytkgpnloghmbmlaa.Print
open Go.RowKit Go.Proofs.YtkgpnloghmbmlaaW.PrintWords Go.Proofs.YtkgpnloghmbmlaaW.PrintLast Go.Proofs.YtkgpnloghmbmlaaW.PrintMore
attribute [local go_sem] max2_int min2_int max_two min_two max_three min_three max_four min_four   -- for this text's walks alone
set_option linter.unusedVariables false
set_option linter.unusedSimpArgs false
end Go.Proofs.Ytkgpnloghmbmlaa.Print
namespace Go.Proofs.Ytkgpnloghmbmlaa.Print
open Go.RowKit Go.Proofs.YtkgpnloghmbmlaaW.PrintWords Go.Proofs.YtkgpnloghmbmlaaW.PrintLast Go.Proofs.YtkgpnloghmbmlaaW.PrintMore
attribute [local go_sem] max2_int min2_int max_two min_two max_three min_three max_four min_four   -- for this text's walks alone
set_option linter.unusedVariables false
set_option linter.unusedSimpArgs false
end Go.Proofs.Ytkgpnloghmbmlaa.Print
namespace Go.Proofs.Ytkgpnloghmbmlaa.Print
open Go.RowKit Go.Proofs.YtkgpnloghmbmlaaW.PrintWords Go.Proofs.YtkgpnloghmbmlaaW.PrintLast Go.Proofs.YtkgpnloghmbmlaaW.PrintMore
attribute [local go_sem] max2_int min2_int max_two min_two max_three min_three max_four min_four   -- for this text's walks alone
set_option linter.unusedVariables false
set_option linter.unusedSimpArgs false
end Go.Proofs.Ytkgpnloghmbmlaa.Print
namespace Go.Proofs.Ytkgpnloghmbmlaa.Print
open Go.RowKit Go.Proofs.YtkgpnloghmbmlaaW.PrintWords Go.Proofs.YtkgpnloghmbmlaaW.PrintLast Go.Proofs.YtkgpnloghmbmlaaW.PrintMore
attribute [local go_sem] max2_int min2_int max_two min_two max_three min_three max_four min_four   -- for this text's walks alone
set_option linter.unusedVariables false
set_option linter.unusedSimpArgs false
end Go.Proofs.Ytkgpnloghmbmlaa.Print
namespace Go.Proofs.Ytkgpnloghmbmlaa.Print
open Go.RowKit Go.Proofs.YtkgpnloghmbmlaaW.PrintWords Go.Proofs.YtkgpnloghmbmlaaW.PrintLast Go.Proofs.YtkgpnloghmbmlaaW.PrintMore
attribute [local go_sem] max2_int min2_int max_two min_two max_three min_three max_four min_four   -- for this text's walks alone
set_option linter.unusedVariables false
set_option linter.unusedSimpArgs false
def impl_isColumn.f (a0 : ByteArray) : Option (Bool) := some ((a0.size : Int) == 3)
set_option maxHeartbeats 8000000 in
set_option maxRecDepth 100000 in
theorem impl_isColumn.calls (a0 : ByteArray) (r : Bool) (w : World) (h : impl_isColumn.f a0 = some r) :
  Calls Try.prog 94 #[.string a0] w fun e w' => e = .returned (.bool r) ∧ Drawn0 w w' := by
 have H : (some ((a0.size : Int) == 3)) = some r := h
 clear h
 obtain rfl := Option.some.inj H
 go_enter Try.func94, Try.ntmps94
 go_wp2
 go_ret
 exact ⟨by first | rfl | (simp; done) | (simp [*]; done), by repeat (first | exact Drawn0.refl _ | apply Drawn0.step)⟩
end Go.Proofs.Ytkgpnloghmbmlaa.Print
namespace Go.Proofs.Ytkgpnloghmbmlaa.Pure
open Go.RowKit Go.Proofs.Ytkgpnloghmbmlaa.Print Go.Proofs.YtkgpnloghmbmlaaW.PrintWords
theorem Ev.next {α : Type} {g : Nat → Option α} {r : α} (k : Ev (fun n => g (n + 1)) r) : Ev g r := Ev.step (fun _ => rfl) k
theorem rdOf_n {α : Type} (z : α) (l : List α) (i : Nat) : rdOf z l (i : Int) = l.getD i z := by simp [rdOf]
theorem getD_mem {α : Type} {z : α} {l : List α} {i : Nat} (h : i < l.length) : l.getD i z ∈ l := List.mem_of_getElem? (by simp [List.getD, h] : l[i]? = some (l.getD i z))
structure Fits (l1 l2 : List ByteArray) (l3 : List Bool) (n4 : Nat) : Prop where
  h1 : l1.length ≤ 1048576
  h2 : l2.length ≤ 1048576
  h3 : l3.length ≤ 1048576
  h4 : n4 ≤ 1048576
end Go.Proofs.Ytkgpnloghmbmlaa.Pure
namespace Go.Proofs.Ytkgpnloghmbmlaa.Print
open Go.RowKit Go.Proofs.YtkgpnloghmbmlaaW.PrintWords Go.Proofs.YtkgpnloghmbmlaaW.PrintLast Go.Proofs.YtkgpnloghmbmlaaW.PrintMore
attribute [local go_sem] max2_int min2_int max_two min_two max_three min_three max_four min_four   -- for this text's walks alone
set_option linter.unusedVariables false
set_option linter.unusedSimpArgs false
end Go.Proofs.Ytkgpnloghmbmlaa.Print
namespace Go.Proofs.Ytkgpnloghmbmlaa.Print
open Go.RowKit Go.Proofs.YtkgpnloghmbmlaaW.PrintWords Go.Proofs.YtkgpnloghmbmlaaW.PrintLast Go.Proofs.YtkgpnloghmbmlaaW.PrintMore
attribute [local go_sem] max2_int min2_int max_two min_two max_three min_three max_four min_four   -- for this text's walks alone
set_option linter.unusedVariables false
set_option linter.unusedSimpArgs false
end Go.Proofs.Ytkgpnloghmbmlaa.Print
namespace Go.Proofs.Ytkgpnloghmbmlaa.Print
open Go.RowKit Go.Proofs.YtkgpnloghmbmlaaW.PrintWords Go.Proofs.YtkgpnloghmbmlaaW.PrintLast Go.Proofs.YtkgpnloghmbmlaaW.PrintMore
attribute [local go_sem] max2_int min2_int max_two min_two max_three min_three max_four min_four   -- for this text's walks alone
set_option linter.unusedVariables false
set_option linter.unusedSimpArgs false
end Go.Proofs.Ytkgpnloghmbmlaa.Print
namespace Go.Proofs.Ytkgpnloghmbmlaa.Print
open Go.RowKit Go.Proofs.YtkgpnloghmbmlaaW.PrintWords Go.Proofs.YtkgpnloghmbmlaaW.PrintLast Go.Proofs.YtkgpnloghmbmlaaW.PrintMore
attribute [local go_sem] max2_int min2_int max_two min_two max_three min_three max_four min_four   -- for this text's walks alone
set_option linter.unusedVariables false
set_option linter.unusedSimpArgs false
def spec_l6In.f (a0 : Int) (a1 : Int) (a2 : Int) : Option (Bool) := if a0 ≥ a1 then (some (decide (a0 ≤ a2))) else (some false)
set_option maxHeartbeats 8000000 in
set_option maxRecDepth 100000 in
theorem spec_l6In.calls (a0 : Int) (a1 : Int) (a2 : Int) (r : Bool) (w : World) (h : spec_l6In.f a0 a1 a2 = some r) :
  Calls Try.prog 51 #[.int .i64 a0, .int .i64 a1, .int .i64 a2] w fun e w' => e = .returned (.bool r) ∧ Drawn0 w w' := by
 have H : (if a0 ≥ a1 then (some (decide (a0 ≤ a2))) else (some false)) = some r := h
 clear h
 by_cases c4 : a0 ≥ a1
 ·rw [if_pos c4] at H
  have c4b0 : decide (a1 ≤ a0) = true := decide_eq_true c4
  clear c4
  obtain rfl := Option.some.inj H
  go_enter Try.func51, Try.ntmps51
  go_wp2
  go_ret
  exact ⟨by first | rfl | (simp; done) | (simp [*]; done), by repeat (first | exact Drawn0.refl _ | apply Drawn0.step)⟩
 ·rw [if_neg c4] at H
  have c4b0 : decide (a1 ≤ a0) = false := decide_eq_false c4
  clear c4
  obtain rfl := Option.some.inj H
  go_enter Try.func51, Try.ntmps51
  go_wp2
  go_ret
  exact ⟨by first | rfl | (simp; done) | (simp [*]; done), by repeat (first | exact Drawn0.refl _ | apply Drawn0.step)⟩
def spec_l3Put.f (a0_0 : Bool) (a0_1 : Int) (a0_2 : ByteArray) : Option (Bool) := if a0_0 = true then ((spec_l6In.f a0_1 0 1).bind fun t126 => (if t126 = true then (some (decide ((a0_2.size : Int) ≤ 700))) else (some false))) else ((spec_l6In.f a0_1 0 11).bind fun t127 => (if t127 = true then (some ((a0_2.size : Int) == 3)) else (some false)))
set_option maxHeartbeats 8000000 in
set_option maxRecDepth 100000 in
theorem spec_l3Put.calls (a0_0 : Bool) (a0_1 : Int) (a0_2 : ByteArray) (r : Bool) (w : World) (h : spec_l3Put.f a0_0 a0_1 a0_2 = some r) :
  Calls Try.prog 66 #[.agg #[.bool a0_0, .int .i64 a0_1, .string a0_2]] w fun e w' => e = .returned (.bool r) ∧ Below w.heap.size w w' := by
 have hu54 := Try.underlying54
 have HB := Az.mk (Below.refl w.heap.size w)
 have H : (if a0_0 = true then ((spec_l6In.f a0_1 0 1).bind fun t126 => (if t126 = true then (some (decide ((a0_2.size : Int) ≤ 700))) else (some false))) else ((spec_l6In.f a0_1 0 11).bind fun t127 => (if t127 = true then (some ((a0_2.size : Int) == 3)) else (some false)))) = some r := h
 clear h
 by_cases c2 : a0_0 = true
 ·subst c2
  have H1 : ((spec_l6In.f a0_1 0 1).bind fun t126 => (if t126 = true then (some (decide ((a0_2.size : Int) ≤ 700))) else (some false))) = some r := by rw [if_pos rfl] at H; exact H
  clear H
  have H := H1
  clear H1
  replace H := Option.bind_eq_some_iff.mp H
  obtain ⟨t126, A30, H⟩ := H
  replace H : (if t126 = true then (some (decide ((a0_2.size : Int) ≤ 700))) else (some false)) = some r := H
  have A3 := Az.mk A30
  clear A30
  by_cases c4 : t126 = true
  ·subst c4
   have H1 : (some (decide ((a0_2.size : Int) ≤ 700))) = some r := by rw [if_pos rfl] at H; exact H
   clear H
   have H := H1
   clear H1
   obtain rfl := Option.some.inj H
   go_enter Try.func66, Try.ntmps66
   go_wp2_with (first | ((with_reducible refine zqg (N := 1) rfl ?_); (try (refine gate_guard (by rfl) ?_; dsimp only)); refine zqb ?hg (N := 1) ?hd (cs := #[.bool true, .int .i64 a0_1, .string a0_2]) (t := 54) ?hr ?_; (case hd => rfl); (case hg => rfl); (case hr => first | (go_simp; done) | (go_simp; rfl)); intro gb125 hg w5 hbox hb; have n0_ := Az.mk (below_step (by repeat (first | (with_reducible first | exact HB.out | apply zq2 | apply zq1 | apply zqd) | exact HB.out)) hb); have n1_ := Az.mk (hbox); have n2_ := Az.mk ((by rw [hg]; exact (below_size (by repeat (first | (with_reducible first | exact HB.out | apply zq2 | apply zq1 | apply zqd) | exact HB.out))) : w.heap.size ≤ gb125)); have n3_ := Az.mk ((by rw [hg]; exact (below_size (by repeat (first | (with_reducible first | exact HB.out | apply zq2 | apply zq1 | apply zqd) | exact HB.out))) : w.heap.size ≤ gb125)); clear HB; have HB := n0_; have BK125 := n1_; have GW125 := n2_; have GE125 := n3_; clear n0_ n1_ n2_ n3_; clear hb hbox hg; have hcz6_0 : w5.cell? ⟨gb125, 0, none⟩ = some (.bool true) := (zq4 BK125.out 0).trans rfl; have hcz6_1 : w5.cell? ⟨gb125, 1, none⟩ = some (.int .i64 a0_1) := (zq4 BK125.out 1).trans rfl; have hcz6_2 : w5.cell? ⟨gb125, 2, none⟩ = some (.string a0_2) := (zq4 BK125.out 2).trans rfl; have hfz6_0 := zq5 BK125.out 0; have hfz6_1 := zq5 BK125.out 1; have hfz6_2 := zq5 BK125.out 2) | ((with_reducible refine gate_callee (f := 51) rfl ?_); refine zq9 (some 7) rfl rfl Try.func51 (by kernel_rfl) rfl #[.int .i64 a0_1, .int .i64 0, .int .i64 1] rfl (by (try simp only [List.map_toArray, List.map_cons, List.map_nil]); first | done | rfl | (simp only [List.length_drop, List.length_take]; rfl)) ?_; (with_reducible refine (spec_l6In.calls a0_1 0 1 true _ A3.out).mono ?_); rintro e w' ⟨rfl, ⟨nd, rfl⟩⟩; refine ⟨_, rfl, ?_⟩))
   go_ret
   exact ⟨by first | rfl | (simp [errW_none, errW_some] <;> rfl) | (simp [*, errW_none, errW_some] <;> rfl), by repeat (first | (with_reducible first | exact HB.out | apply zq2 | apply zq1 | apply zqd | refine zq3 ?_ GE125.out) | exact HB.out)⟩
  ·replace c4 := Bool.eq_false_iff.mpr c4
   subst c4
   have H1 : (some false) = some r := by rw [if_neg (show ¬ (false = true) by decide)] at H; exact H
   clear H
   have H := H1
   clear H1
   obtain rfl := Option.some.inj H
   go_enter Try.func66, Try.ntmps66
   go_wp2_with (first | ((with_reducible refine zqg (N := 1) rfl ?_); (try (refine gate_guard (by rfl) ?_; dsimp only)); refine zqb ?hg (N := 1) ?hd (cs := #[.bool true, .int .i64 a0_1, .string a0_2]) (t := 54) ?hr ?_; (case hd => rfl); (case hg => rfl); (case hr => first | (go_simp; done) | (go_simp; rfl)); intro gb125 hg w7 hbox hb; have n0_ := Az.mk (below_step (by repeat (first | (with_reducible first | exact HB.out | apply zq2 | apply zq1 | apply zqd) | exact HB.out)) hb); have n1_ := Az.mk (hbox); have n2_ := Az.mk ((by rw [hg]; exact (below_size (by repeat (first | (with_reducible first | exact HB.out | apply zq2 | apply zq1 | apply zqd) | exact HB.out))) : w.heap.size ≤ gb125)); have n3_ := Az.mk ((by rw [hg]; exact (below_size (by repeat (first | (with_reducible first | exact HB.out | apply zq2 | apply zq1 | apply zqd) | exact HB.out))) : w.heap.size ≤ gb125)); clear HB; have HB := n0_; have BK125 := n1_; have GW125 := n2_; have GE125 := n3_; clear n0_ n1_ n2_ n3_; clear hb hbox hg; have hcz8_0 : w7.cell? ⟨gb125, 0, none⟩ = some (.bool true) := (zq4 BK125.out 0).trans rfl; have hcz8_1 : w7.cell? ⟨gb125, 1, none⟩ = some (.int .i64 a0_1) := (zq4 BK125.out 1).trans rfl; have hcz8_2 : w7.cell? ⟨gb125, 2, none⟩ = some (.string a0_2) := (zq4 BK125.out 2).trans rfl; have hfz8_0 := zq5 BK125.out 0; have hfz8_1 := zq5 BK125.out 1; have hfz8_2 := zq5 BK125.out 2) | ((with_reducible refine gate_callee (f := 51) rfl ?_); refine zq9 (some 7) rfl rfl Try.func51 (by kernel_rfl) rfl #[.int .i64 a0_1, .int .i64 0, .int .i64 1] rfl (by (try simp only [List.map_toArray, List.map_cons, List.map_nil]); first | done | rfl | (simp only [List.length_drop, List.length_take]; rfl)) ?_; (with_reducible refine (spec_l6In.calls a0_1 0 1 false _ A3.out).mono ?_); rintro e w' ⟨rfl, ⟨nd, rfl⟩⟩; refine ⟨_, rfl, ?_⟩))
   go_ret
   exact ⟨by first | rfl | (simp [errW_none, errW_some] <;> rfl) | (simp [*, errW_none, errW_some] <;> rfl), by repeat (first | (with_reducible first | exact HB.out | apply zq2 | apply zq1 | apply zqd | refine zq3 ?_ GE125.out) | exact HB.out)⟩
 ·replace c2 := Bool.eq_false_iff.mpr c2
  subst c2
  have H1 : ((spec_l6In.f a0_1 0 11).bind fun t127 => (if t127 = true then (some ((a0_2.size : Int) == 3)) else (some false))) = some r := by rw [if_neg (show ¬ (false = true) by decide)] at H; exact H
  clear H
  have H := H1
  clear H1
  replace H := Option.bind_eq_some_iff.mp H
  obtain ⟨t127, A90, H⟩ := H
  replace H : (if t127 = true then (some ((a0_2.size : Int) == 3)) else (some false)) = some r := H
  have A9 := Az.mk A90
  clear A90
  by_cases c10 : t127 = true
  ·subst c10
   have H1 : (some ((a0_2.size : Int) == 3)) = some r := by rw [if_pos rfl] at H; exact H
   clear H
   have H := H1
   clear H1
   obtain rfl := Option.some.inj H
   go_enter Try.func66, Try.ntmps66
   go_wp2_with (first | ((with_reducible refine zqg (N := 1) rfl ?_); (try (refine gate_guard (by rfl) ?_; dsimp only)); refine zqb ?hg (N := 1) ?hd (cs := #[.bool false, .int .i64 a0_1, .string a0_2]) (t := 54) ?hr ?_; (case hd => rfl); (case hg => rfl); (case hr => first | (go_simp; done) | (go_simp; rfl)); intro gb125 hg w11 hbox hb; have n0_ := Az.mk (below_step (by repeat (first | (with_reducible first | exact HB.out | apply zq2 | apply zq1 | apply zqd) | exact HB.out)) hb); have n1_ := Az.mk (hbox); have n2_ := Az.mk ((by rw [hg]; exact (below_size (by repeat (first | (with_reducible first | exact HB.out | apply zq2 | apply zq1 | apply zqd) | exact HB.out))) : w.heap.size ≤ gb125)); have n3_ := Az.mk ((by rw [hg]; exact (below_size (by repeat (first | (with_reducible first | exact HB.out | apply zq2 | apply zq1 | apply zqd) | exact HB.out))) : w.heap.size ≤ gb125)); clear HB; have HB := n0_; have BK125 := n1_; have GW125 := n2_; have GE125 := n3_; clear n0_ n1_ n2_ n3_; clear hb hbox hg; have hcz12_0 : w11.cell? ⟨gb125, 0, none⟩ = some (.bool false) := (zq4 BK125.out 0).trans rfl; have hcz12_1 : w11.cell? ⟨gb125, 1, none⟩ = some (.int .i64 a0_1) := (zq4 BK125.out 1).trans rfl; have hcz12_2 : w11.cell? ⟨gb125, 2, none⟩ = some (.string a0_2) := (zq4 BK125.out 2).trans rfl; have hfz12_0 := zq5 BK125.out 0; have hfz12_1 := zq5 BK125.out 1; have hfz12_2 := zq5 BK125.out 2) | ((with_reducible refine gate_callee (f := 51) rfl ?_); refine zq9 (some 16) rfl rfl Try.func51 (by kernel_rfl) rfl #[.int .i64 a0_1, .int .i64 0, .int .i64 11] rfl (by (try simp only [List.map_toArray, List.map_cons, List.map_nil]); first | done | rfl | (simp only [List.length_drop, List.length_take]; rfl)) ?_; (with_reducible refine (spec_l6In.calls a0_1 0 11 true _ A9.out).mono ?_); rintro e w' ⟨rfl, ⟨nd, rfl⟩⟩; refine ⟨_, rfl, ?_⟩))
   go_ret
   exact ⟨by first | rfl | (simp [errW_none, errW_some] <;> rfl) | (simp [*, errW_none, errW_some] <;> rfl), by repeat (first | (with_reducible first | exact HB.out | apply zq2 | apply zq1 | apply zqd | refine zq3 ?_ GE125.out) | exact HB.out)⟩
  ·replace c10 := Bool.eq_false_iff.mpr c10
   subst c10
   have H1 : (some false) = some r := by rw [if_neg (show ¬ (false = true) by decide)] at H; exact H
   clear H
   have H := H1
   clear H1
   obtain rfl := Option.some.inj H
   go_enter Try.func66, Try.ntmps66
   go_wp2_with (first | ((with_reducible refine zqg (N := 1) rfl ?_); (try (refine gate_guard (by rfl) ?_; dsimp only)); refine zqb ?hg (N := 1) ?hd (cs := #[.bool false, .int .i64 a0_1, .string a0_2]) (t := 54) ?hr ?_; (case hd => rfl); (case hg => rfl); (case hr => first | (go_simp; done) | (go_simp; rfl)); intro gb125 hg w13 hbox hb; have n0_ := Az.mk (below_step (by repeat (first | (with_reducible first | exact HB.out | apply zq2 | apply zq1 | apply zqd) | exact HB.out)) hb); have n1_ := Az.mk (hbox); have n2_ := Az.mk ((by rw [hg]; exact (below_size (by repeat (first | (with_reducible first | exact HB.out | apply zq2 | apply zq1 | apply zqd) | exact HB.out))) : w.heap.size ≤ gb125)); have n3_ := Az.mk ((by rw [hg]; exact (below_size (by repeat (first | (with_reducible first | exact HB.out | apply zq2 | apply zq1 | apply zqd) | exact HB.out))) : w.heap.size ≤ gb125)); clear HB; have HB := n0_; have BK125 := n1_; have GW125 := n2_; have GE125 := n3_; clear n0_ n1_ n2_ n3_; clear hb hbox hg; have hcz14_0 : w13.cell? ⟨gb125, 0, none⟩ = some (.bool false) := (zq4 BK125.out 0).trans rfl; have hcz14_1 : w13.cell? ⟨gb125, 1, none⟩ = some (.int .i64 a0_1) := (zq4 BK125.out 1).trans rfl; have hcz14_2 : w13.cell? ⟨gb125, 2, none⟩ = some (.string a0_2) := (zq4 BK125.out 2).trans rfl; have hfz14_0 := zq5 BK125.out 0; have hfz14_1 := zq5 BK125.out 1; have hfz14_2 := zq5 BK125.out 2) | ((with_reducible refine gate_callee (f := 51) rfl ?_); refine zq9 (some 16) rfl rfl Try.func51 (by kernel_rfl) rfl #[.int .i64 a0_1, .int .i64 0, .int .i64 11] rfl (by (try simp only [List.map_toArray, List.map_cons, List.map_nil]); first | done | rfl | (simp only [List.length_drop, List.length_take]; rfl)) ?_; (with_reducible refine (spec_l6In.calls a0_1 0 11 false _ A9.out).mono ?_); rintro e w' ⟨rfl, ⟨nd, rfl⟩⟩; refine ⟨_, rfl, ?_⟩))
   go_ret
   exact ⟨by first | rfl | (simp [errW_none, errW_some] <;> rfl) | (simp [*, errW_none, errW_some] <;> rfl), by repeat (first | (with_reducible first | exact HB.out | apply zq2 | apply zq1 | apply zqd | refine zq3 ?_ GE125.out) | exact HB.out)⟩
end Go.Proofs.Ytkgpnloghmbmlaa.Print
namespace Go.Proofs.Ytkgpnloghmbmlaa.Print
open Go.RowKit Go.Proofs.YtkgpnloghmbmlaaW.PrintWords Go.Proofs.YtkgpnloghmbmlaaW.PrintLast Go.Proofs.YtkgpnloghmbmlaaW.PrintMore
attribute [local go_sem] max2_int min2_int max_two min_two max_three min_three max_four min_four   -- for this text's walks alone
set_option linter.unusedVariables false
set_option linter.unusedSimpArgs false
end Go.Proofs.Ytkgpnloghmbmlaa.Print
namespace Go.Proofs.Ytkgpnloghmbmlaa.Print
open Go.RowKit Go.Proofs.YtkgpnloghmbmlaaW.PrintWords Go.Proofs.YtkgpnloghmbmlaaW.PrintLast Go.Proofs.YtkgpnloghmbmlaaW.PrintMore
attribute [local go_sem] max2_int min2_int max_two min_two max_three min_three max_four min_four   -- for this text's walks alone
set_option linter.unusedVariables false
set_option linter.unusedSimpArgs false
end Go.Proofs.Ytkgpnloghmbmlaa.Print
namespace Go.Proofs.Ytkgpnloghmbmlaa.Print
open Go.RowKit Go.Proofs.YtkgpnloghmbmlaaW.PrintWords Go.Proofs.YtkgpnloghmbmlaaW.PrintLast Go.Proofs.YtkgpnloghmbmlaaW.PrintMore
attribute [local go_sem] max2_int min2_int max_two min_two max_three min_three max_four min_four   -- for this text's walks alone
set_option linter.unusedVariables false
set_option linter.unusedSimpArgs false
end Go.Proofs.Ytkgpnloghmbmlaa.Print
namespace Go.Proofs.Ytkgpnloghmbmlaa.Print
open Go.RowKit Go.Proofs.YtkgpnloghmbmlaaW.PrintWords Go.Proofs.YtkgpnloghmbmlaaW.PrintLast Go.Proofs.YtkgpnloghmbmlaaW.PrintMore
attribute [local go_sem] max2_int min2_int max_two min_two max_three min_three max_four min_four   -- for this text's walks alone
set_option linter.unusedVariables false
set_option linter.unusedSimpArgs false
end Go.Proofs.Ytkgpnloghmbmlaa.Print
namespace Go.Proofs.Ytkgpnloghmbmlaa.Print
open Go.RowKit Go.Proofs.YtkgpnloghmbmlaaW.PrintWords Go.Proofs.YtkgpnloghmbmlaaW.PrintLast Go.Proofs.YtkgpnloghmbmlaaW.PrintMore
attribute [local go_sem] max2_int min2_int max_two min_two max_three min_three max_four min_four   -- for this text's walks alone
set_option linter.unusedVariables false
set_option linter.unusedSimpArgs false
def impl_putOk.f (a0_0 : Bool) (a0_1 : Int) (a0_2 : ByteArray) : Option (Bool) := if a0_0 = true then (if a0_1 ≥ 0 then (if a0_1 < 2 then (some (decide ((a0_2.size : Int) ≤ 700))) else (some false)) else (some false)) else (if a0_1 ≥ 0 then (if a0_1 < 12 then ((impl_isColumn.f a0_2).bind fun t174 => (some t174)) else (some false)) else (some false))
set_option maxHeartbeats 8000000 in
set_option maxRecDepth 100000 in
theorem impl_putOk.calls (a0_0 : Bool) (a0_1 : Int) (a0_2 : ByteArray) (r : Bool) (w : World) (h : impl_putOk.f a0_0 a0_1 a0_2 = some r) :
  Calls Try.prog 83 #[.agg #[.bool a0_0, .int .i64 a0_1, .string a0_2]] w fun e w' => e = .returned (.bool r) ∧ Below w.heap.size w w' := by
 have hu54 := Try.underlying54
 have HB := Az.mk (Below.refl w.heap.size w)
 have H : (if a0_0 = true then (if a0_1 ≥ 0 then (if a0_1 < 2 then (some (decide ((a0_2.size : Int) ≤ 700))) else (some false)) else (some false)) else (if a0_1 ≥ 0 then (if a0_1 < 12 then ((impl_isColumn.f a0_2).bind fun t174 => (some t174)) else (some false)) else (some false))) = some r := h
 clear h
 by_cases c2 : a0_0 = true
 ·subst c2
  have H1 : (if a0_1 ≥ 0 then (if a0_1 < 2 then (some (decide ((a0_2.size : Int) ≤ 700))) else (some false)) else (some false)) = some r := by rw [if_pos rfl] at H; exact H
  clear H
  have H := H1
  clear H1
  by_cases c3 : a0_1 ≥ 0
  ·rw [if_pos c3] at H
   have c3b0 : decide (0 ≤ a0_1) = true := decide_eq_true c3
   clear c3
   by_cases c4 : a0_1 < 2
   ·rw [if_pos c4] at H
    have c4b0 : decide (a0_1 < 2) = true := decide_eq_true c4
    clear c4
    obtain rfl := Option.some.inj H
    go_enter Try.func83, Try.ntmps83
    go_wp2_with (first | ((with_reducible refine zqg (N := 1) rfl ?_); (try (refine gate_guard (by rfl) ?_; dsimp only)); refine zqb ?hg (N := 1) ?hd (cs := #[.bool true, .int .i64 a0_1, .string a0_2]) (t := 54) ?hr ?_; (case hd => rfl); (case hg => rfl); (case hr => first | (go_simp; done) | (go_simp; rfl)); intro gb173 hg w5 hbox hb; have n0_ := Az.mk (below_step (by repeat (first | (with_reducible first | exact HB.out | apply zq2 | apply zq1 | apply zqd) | exact HB.out)) hb); have n1_ := Az.mk (hbox); have n2_ := Az.mk ((by rw [hg]; exact (below_size (by repeat (first | (with_reducible first | exact HB.out | apply zq2 | apply zq1 | apply zqd) | exact HB.out))) : w.heap.size ≤ gb173)); have n3_ := Az.mk ((by rw [hg]; exact (below_size (by repeat (first | (with_reducible first | exact HB.out | apply zq2 | apply zq1 | apply zqd) | exact HB.out))) : w.heap.size ≤ gb173)); clear HB; have HB := n0_; have BK173 := n1_; have GW173 := n2_; have GE173 := n3_; clear n0_ n1_ n2_ n3_; clear hb hbox hg; have hcz6_0 : w5.cell? ⟨gb173, 0, none⟩ = some (.bool true) := (zq4 BK173.out 0).trans rfl; have hcz6_1 : w5.cell? ⟨gb173, 1, none⟩ = some (.int .i64 a0_1) := (zq4 BK173.out 1).trans rfl; have hcz6_2 : w5.cell? ⟨gb173, 2, none⟩ = some (.string a0_2) := (zq4 BK173.out 2).trans rfl; have hfz6_0 := zq5 BK173.out 0; have hfz6_1 := zq5 BK173.out 1; have hfz6_2 := zq5 BK173.out 2))
    go_ret
    exact ⟨by first | rfl | (simp [errW_none, errW_some] <;> rfl) | (simp [*, errW_none, errW_some] <;> rfl), by repeat (first | (with_reducible first | exact HB.out | apply zq2 | apply zq1 | apply zqd | refine zq3 ?_ GE173.out) | exact HB.out)⟩
   ·rw [if_neg c4] at H
    have c4b0 : decide (a0_1 < 2) = false := decide_eq_false c4
    clear c4
    obtain rfl := Option.some.inj H
    go_enter Try.func83, Try.ntmps83
    go_wp2_with (first | ((with_reducible refine zqg (N := 1) rfl ?_); (try (refine gate_guard (by rfl) ?_; dsimp only)); refine zqb ?hg (N := 1) ?hd (cs := #[.bool true, .int .i64 a0_1, .string a0_2]) (t := 54) ?hr ?_; (case hd => rfl); (case hg => rfl); (case hr => first | (go_simp; done) | (go_simp; rfl)); intro gb173 hg w7 hbox hb; have n0_ := Az.mk (below_step (by repeat (first | (with_reducible first | exact HB.out | apply zq2 | apply zq1 | apply zqd) | exact HB.out)) hb); have n1_ := Az.mk (hbox); have n2_ := Az.mk ((by rw [hg]; exact (below_size (by repeat (first | (with_reducible first | exact HB.out | apply zq2 | apply zq1 | apply zqd) | exact HB.out))) : w.heap.size ≤ gb173)); have n3_ := Az.mk ((by rw [hg]; exact (below_size (by repeat (first | (with_reducible first | exact HB.out | apply zq2 | apply zq1 | apply zqd) | exact HB.out))) : w.heap.size ≤ gb173)); clear HB; have HB := n0_; have BK173 := n1_; have GW173 := n2_; have GE173 := n3_; clear n0_ n1_ n2_ n3_; clear hb hbox hg; have hcz8_0 : w7.cell? ⟨gb173, 0, none⟩ = some (.bool true) := (zq4 BK173.out 0).trans rfl; have hcz8_1 : w7.cell? ⟨gb173, 1, none⟩ = some (.int .i64 a0_1) := (zq4 BK173.out 1).trans rfl; have hcz8_2 : w7.cell? ⟨gb173, 2, none⟩ = some (.string a0_2) := (zq4 BK173.out 2).trans rfl; have hfz8_0 := zq5 BK173.out 0; have hfz8_1 := zq5 BK173.out 1; have hfz8_2 := zq5 BK173.out 2))
    go_ret
    exact ⟨by first | rfl | (simp [errW_none, errW_some] <;> rfl) | (simp [*, errW_none, errW_some] <;> rfl), by repeat (first | (with_reducible first | exact HB.out | apply zq2 | apply zq1 | apply zqd | refine zq3 ?_ GE173.out) | exact HB.out)⟩
  ·rw [if_neg c3] at H
   have c3b0 : decide (0 ≤ a0_1) = false := decide_eq_false c3
   clear c3
   obtain rfl := Option.some.inj H
   go_enter Try.func83, Try.ntmps83
   go_wp2_with (first | ((with_reducible refine zqg (N := 1) rfl ?_); (try (refine gate_guard (by rfl) ?_; dsimp only)); refine zqb ?hg (N := 1) ?hd (cs := #[.bool true, .int .i64 a0_1, .string a0_2]) (t := 54) ?hr ?_; (case hd => rfl); (case hg => rfl); (case hr => first | (go_simp; done) | (go_simp; rfl)); intro gb173 hg w9 hbox hb; have n0_ := Az.mk (below_step (by repeat (first | (with_reducible first | exact HB.out | apply zq2 | apply zq1 | apply zqd) | exact HB.out)) hb); have n1_ := Az.mk (hbox); have n2_ := Az.mk ((by rw [hg]; exact (below_size (by repeat (first | (with_reducible first | exact HB.out | apply zq2 | apply zq1 | apply zqd) | exact HB.out))) : w.heap.size ≤ gb173)); have n3_ := Az.mk ((by rw [hg]; exact (below_size (by repeat (first | (with_reducible first | exact HB.out | apply zq2 | apply zq1 | apply zqd) | exact HB.out))) : w.heap.size ≤ gb173)); clear HB; have HB := n0_; have BK173 := n1_; have GW173 := n2_; have GE173 := n3_; clear n0_ n1_ n2_ n3_; clear hb hbox hg; have hcz10_0 : w9.cell? ⟨gb173, 0, none⟩ = some (.bool true) := (zq4 BK173.out 0).trans rfl; have hcz10_1 : w9.cell? ⟨gb173, 1, none⟩ = some (.int .i64 a0_1) := (zq4 BK173.out 1).trans rfl; have hcz10_2 : w9.cell? ⟨gb173, 2, none⟩ = some (.string a0_2) := (zq4 BK173.out 2).trans rfl; have hfz10_0 := zq5 BK173.out 0; have hfz10_1 := zq5 BK173.out 1; have hfz10_2 := zq5 BK173.out 2))
   go_ret
   exact ⟨by first | rfl | (simp [errW_none, errW_some] <;> rfl) | (simp [*, errW_none, errW_some] <;> rfl), by repeat (first | (with_reducible first | exact HB.out | apply zq2 | apply zq1 | apply zqd | refine zq3 ?_ GE173.out) | exact HB.out)⟩
 ·replace c2 := Bool.eq_false_iff.mpr c2
  subst c2
  have H1 : (if a0_1 ≥ 0 then (if a0_1 < 12 then ((impl_isColumn.f a0_2).bind fun t174 => (some t174)) else (some false)) else (some false)) = some r := by rw [if_neg (show ¬ (false = true) by decide)] at H; exact H
  clear H
  have H := H1
  clear H1
  by_cases c11 : a0_1 ≥ 0
  ·rw [if_pos c11] at H
   have c11b0 : decide (0 ≤ a0_1) = true := decide_eq_true c11
   clear c11
   by_cases c12 : a0_1 < 12
   ·rw [if_pos c12] at H
    have c12b0 : decide (a0_1 < 12) = true := decide_eq_true c12
    clear c12
    replace H := Option.bind_eq_some_iff.mp H
    obtain ⟨t174, A130, H⟩ := H
    replace H : (some t174) = some r := H
    have A13 := Az.mk A130
    clear A130
    obtain rfl := Option.some.inj H
    go_enter Try.func83, Try.ntmps83
    go_wp2_with (first | ((with_reducible refine zqg (N := 1) rfl ?_); (try (refine gate_guard (by rfl) ?_; dsimp only)); refine zqb ?hg (N := 1) ?hd (cs := #[.bool false, .int .i64 a0_1, .string a0_2]) (t := 54) ?hr ?_; (case hd => rfl); (case hg => rfl); (case hr => first | (go_simp; done) | (go_simp; rfl)); intro gb173 hg w14 hbox hb; have n0_ := Az.mk (below_step (by repeat (first | (with_reducible first | exact HB.out | apply zq2 | apply zq1 | apply zqd) | exact HB.out)) hb); have n1_ := Az.mk (hbox); have n2_ := Az.mk ((by rw [hg]; exact (below_size (by repeat (first | (with_reducible first | exact HB.out | apply zq2 | apply zq1 | apply zqd) | exact HB.out))) : w.heap.size ≤ gb173)); have n3_ := Az.mk ((by rw [hg]; exact (below_size (by repeat (first | (with_reducible first | exact HB.out | apply zq2 | apply zq1 | apply zqd) | exact HB.out))) : w.heap.size ≤ gb173)); clear HB; have HB := n0_; have BK173 := n1_; have GW173 := n2_; have GE173 := n3_; clear n0_ n1_ n2_ n3_; clear hb hbox hg; have hcz15_0 : w14.cell? ⟨gb173, 0, none⟩ = some (.bool false) := (zq4 BK173.out 0).trans rfl; have hcz15_1 : w14.cell? ⟨gb173, 1, none⟩ = some (.int .i64 a0_1) := (zq4 BK173.out 1).trans rfl; have hcz15_2 : w14.cell? ⟨gb173, 2, none⟩ = some (.string a0_2) := (zq4 BK173.out 2).trans rfl; have hfz15_0 := zq5 BK173.out 0; have hfz15_1 := zq5 BK173.out 1; have hfz15_2 := zq5 BK173.out 2) | (go_at_call 94; (with_reducible refine (impl_isColumn.calls a0_2 t174 _ A13.out).mono ?_); rintro e w' ⟨rfl, ⟨nd, rfl⟩⟩))
    go_ret
    exact ⟨by first | rfl | (simp [errW_none, errW_some] <;> rfl) | (simp [*, errW_none, errW_some] <;> rfl), by repeat (first | (with_reducible first | exact HB.out | apply zq2 | apply zq1 | apply zqd | refine zq3 ?_ GE173.out) | exact HB.out)⟩
   ·rw [if_neg c12] at H
    have c12b0 : decide (a0_1 < 12) = false := decide_eq_false c12
    clear c12
    obtain rfl := Option.some.inj H
    go_enter Try.func83, Try.ntmps83
    go_wp2_with (first | ((with_reducible refine zqg (N := 1) rfl ?_); (try (refine gate_guard (by rfl) ?_; dsimp only)); refine zqb ?hg (N := 1) ?hd (cs := #[.bool false, .int .i64 a0_1, .string a0_2]) (t := 54) ?hr ?_; (case hd => rfl); (case hg => rfl); (case hr => first | (go_simp; done) | (go_simp; rfl)); intro gb173 hg w16 hbox hb; have n0_ := Az.mk (below_step (by repeat (first | (with_reducible first | exact HB.out | apply zq2 | apply zq1 | apply zqd) | exact HB.out)) hb); have n1_ := Az.mk (hbox); have n2_ := Az.mk ((by rw [hg]; exact (below_size (by repeat (first | (with_reducible first | exact HB.out | apply zq2 | apply zq1 | apply zqd) | exact HB.out))) : w.heap.size ≤ gb173)); have n3_ := Az.mk ((by rw [hg]; exact (below_size (by repeat (first | (with_reducible first | exact HB.out | apply zq2 | apply zq1 | apply zqd) | exact HB.out))) : w.heap.size ≤ gb173)); clear HB; have HB := n0_; have BK173 := n1_; have GW173 := n2_; have GE173 := n3_; clear n0_ n1_ n2_ n3_; clear hb hbox hg; have hcz17_0 : w16.cell? ⟨gb173, 0, none⟩ = some (.bool false) := (zq4 BK173.out 0).trans rfl; have hcz17_1 : w16.cell? ⟨gb173, 1, none⟩ = some (.int .i64 a0_1) := (zq4 BK173.out 1).trans rfl; have hcz17_2 : w16.cell? ⟨gb173, 2, none⟩ = some (.string a0_2) := (zq4 BK173.out 2).trans rfl; have hfz17_0 := zq5 BK173.out 0; have hfz17_1 := zq5 BK173.out 1; have hfz17_2 := zq5 BK173.out 2))
    go_ret
    exact ⟨by first | rfl | (simp [errW_none, errW_some] <;> rfl) | (simp [*, errW_none, errW_some] <;> rfl), by repeat (first | (with_reducible first | exact HB.out | apply zq2 | apply zq1 | apply zqd | refine zq3 ?_ GE173.out) | exact HB.out)⟩
  ·rw [if_neg c11] at H
   have c11b0 : decide (0 ≤ a0_1) = false := decide_eq_false c11
   clear c11
   obtain rfl := Option.some.inj H
   go_enter Try.func83, Try.ntmps83
   go_wp2_with (first | ((with_reducible refine zqg (N := 1) rfl ?_); (try (refine gate_guard (by rfl) ?_; dsimp only)); refine zqb ?hg (N := 1) ?hd (cs := #[.bool false, .int .i64 a0_1, .string a0_2]) (t := 54) ?hr ?_; (case hd => rfl); (case hg => rfl); (case hr => first | (go_simp; done) | (go_simp; rfl)); intro gb173 hg w18 hbox hb; have n0_ := Az.mk (below_step (by repeat (first | (with_reducible first | exact HB.out | apply zq2 | apply zq1 | apply zqd) | exact HB.out)) hb); have n1_ := Az.mk (hbox); have n2_ := Az.mk ((by rw [hg]; exact (below_size (by repeat (first | (with_reducible first | exact HB.out | apply zq2 | apply zq1 | apply zqd) | exact HB.out))) : w.heap.size ≤ gb173)); have n3_ := Az.mk ((by rw [hg]; exact (below_size (by repeat (first | (with_reducible first | exact HB.out | apply zq2 | apply zq1 | apply zqd) | exact HB.out))) : w.heap.size ≤ gb173)); clear HB; have HB := n0_; have BK173 := n1_; have GW173 := n2_; have GE173 := n3_; clear n0_ n1_ n2_ n3_; clear hb hbox hg; have hcz19_0 : w18.cell? ⟨gb173, 0, none⟩ = some (.bool false) := (zq4 BK173.out 0).trans rfl; have hcz19_1 : w18.cell? ⟨gb173, 1, none⟩ = some (.int .i64 a0_1) := (zq4 BK173.out 1).trans rfl; have hcz19_2 : w18.cell? ⟨gb173, 2, none⟩ = some (.string a0_2) := (zq4 BK173.out 2).trans rfl; have hfz19_0 := zq5 BK173.out 0; have hfz19_1 := zq5 BK173.out 1; have hfz19_2 := zq5 BK173.out 2))
   go_ret
   exact ⟨by first | rfl | (simp [errW_none, errW_some] <;> rfl) | (simp [*, errW_none, errW_some] <;> rfl), by repeat (first | (with_reducible first | exact HB.out | apply zq2 | apply zq1 | apply zqd | refine zq3 ?_ GE173.out) | exact HB.out)⟩
def impl_isState.f (a0 : Int) : Option (Bool) := if a0 ≥ 0 then (some (decide (a0 ≤ 2))) else (some false)
set_option maxHeartbeats 8000000 in
set_option maxRecDepth 100000 in
theorem impl_isState.calls (a0 : Int) (r : Bool) (w : World) (h : impl_isState.f a0 = some r) :
  Calls Try.prog 49 #[.int .i64 a0] w fun e w' => e = .returned (.bool r) ∧ Drawn0 w w' := by
 have H : (if a0 ≥ 0 then (some (decide (a0 ≤ 2))) else (some false)) = some r := h
 clear h
 by_cases c2 : a0 ≥ 0
 ·rw [if_pos c2] at H
  have c2b0 : decide (0 ≤ a0) = true := decide_eq_true c2
  clear c2
  obtain rfl := Option.some.inj H
  go_enter Try.func49, Try.ntmps49
  go_wp2
  go_ret
  exact ⟨by first | rfl | (simp; done) | (simp [*]; done), by repeat (first | exact Drawn0.refl _ | apply Drawn0.step)⟩
 ·rw [if_neg c2] at H
  have c2b0 : decide (0 ≤ a0) = false := decide_eq_false c2
  clear c2
  obtain rfl := Option.some.inj H
  go_enter Try.func49, Try.ntmps49
  go_wp2
  go_ret
  exact ⟨by first | rfl | (simp; done) | (simp [*]; done), by repeat (first | exact Drawn0.refl _ | apply Drawn0.step)⟩
def impl_Disk_shaped.f (a0_0 : Int) (l0_1 : List ByteArray) (l0_2 : List ByteArray) (l0_3 : List Bool) (l0_4 : List (S54)) : Option (Bool) := (impl_isState.f a0_0).bind fun t176 => (if t176 = true then (if (l0_1.length : Int) = 12 then (if (l0_2.length : Int) = 2 then (if (l0_3.length : Int) = 12 then (some (decide ((l0_4.length : Int) ≤ 40))) else (some false)) else (some false)) else (some false)) else (some false))
set_option maxHeartbeats 8000000 in
set_option maxRecDepth 100000 in
theorem impl_Disk_shaped.calls (a0_0 : Int) (A0_1 : Option Addr) (c0_1 : Nat) (l0_1 : List ByteArray) (A0_2 : Option Addr) (c0_2 : Nat) (l0_2 : List ByteArray) (A0_3 : Option Addr) (c0_3 : Nat) (l0_3 : List Bool) (A0_4 : Option Addr) (c0_4 : Nat) (l0_4 : List (S54)) (r : Bool) (w : World) (hr0_1 : Kd.C Kd.string w A0_1 l0_1.length l0_1) (hc0_1 : l0_1.length ≤ c0_1) (hr0_2 : Kd.C Kd.string w A0_2 l0_2.length l0_2) (hc0_2 : l0_2.length ≤ c0_2) (hr0_3 : Kd.C Kd.bool w A0_3 l0_3.length l0_3) (hc0_3 : l0_3.length ≤ c0_3) (hr0_4 : Kd.C k54 w A0_4 l0_4.length l0_4) (hc0_4 : l0_4.length ≤ c0_4) (h : impl_Disk_shaped.f a0_0 l0_1 l0_2 l0_3 l0_4 = some r) :
  Calls Try.prog 91 #[.agg #[.int .i64 a0_0, .slice A0_1 l0_1.length c0_1, .slice A0_2 l0_2.length c0_2, .slice A0_3 l0_3.length c0_3, .slice A0_4 l0_4.length c0_4]] w fun e w' => e = .returned (.bool r) ∧ Below w.heap.size w w' := by
 have hu28 := Try.underlying28
 have HR0_1 := Az.mk hr0_1
 have HC0_1 := Az.mk hc0_1
 clear hr0_1 hc0_1
 have HR0_2 := Az.mk hr0_2
 have HC0_2 := Az.mk hc0_2
 clear hr0_2 hc0_2
 have HR0_3 := Az.mk hr0_3
 have HC0_3 := Az.mk hc0_3
 clear hr0_3 hc0_3
 have HR0_4 := Az.mk hr0_4
 have HC0_4 := Az.mk hc0_4
 clear hr0_4 hc0_4
 have HB := Az.mk (Below.refl w.heap.size w)
 have H : ((impl_isState.f a0_0).bind fun t176 => (if t176 = true then (if (l0_1.length : Int) = 12 then (if (l0_2.length : Int) = 2 then (if (l0_3.length : Int) = 12 then (some (decide ((l0_4.length : Int) ≤ 40))) else (some false)) else (some false)) else (some false)) else (some false))) = some r := h
 clear h
 replace H := Option.bind_eq_some_iff.mp H
 obtain ⟨t176, A20, H⟩ := H
 replace H : (if t176 = true then (if (l0_1.length : Int) = 12 then (if (l0_2.length : Int) = 2 then (if (l0_3.length : Int) = 12 then (some (decide ((l0_4.length : Int) ≤ 40))) else (some false)) else (some false)) else (some false)) else (some false)) = some r := H
 have A2 := Az.mk A20
 clear A20
 by_cases c3 : t176 = true
 ·subst c3
  have H1 : (if (l0_1.length : Int) = 12 then (if (l0_2.length : Int) = 2 then (if (l0_3.length : Int) = 12 then (some (decide ((l0_4.length : Int) ≤ 40))) else (some false)) else (some false)) else (some false)) = some r := by rw [if_pos rfl] at H; exact H
  clear H
  have H := H1
  clear H1
  by_cases c4 : (l0_1.length : Int) = 12
  ·rw [if_pos c4] at H
   have c4b0 : ((l0_1.length : Int) == 12) = true := beq_iff_eq.mpr c4
   have c4b1 : ((l0_1.length : Int) != 12) = false := bne_eq_false_iff_eq.mpr c4
   clear c4
   by_cases c5 : (l0_2.length : Int) = 2
   ·rw [if_pos c5] at H
    have c5b0 : ((l0_2.length : Int) == 2) = true := beq_iff_eq.mpr c5
    have c5b1 : ((l0_2.length : Int) != 2) = false := bne_eq_false_iff_eq.mpr c5
    clear c5
    by_cases c6 : (l0_3.length : Int) = 12
    ·rw [if_pos c6] at H
     have c6b0 : ((l0_3.length : Int) == 12) = true := beq_iff_eq.mpr c6
     have c6b1 : ((l0_3.length : Int) != 12) = false := bne_eq_false_iff_eq.mpr c6
     clear c6
     obtain rfl := Option.some.inj H
     go_enter Try.func91, Try.ntmps91
     go_wp2_with (first | ((with_reducible refine zqg (N := 1) rfl ?_); (try (refine gate_guard (by rfl) ?_; dsimp only)); refine zqb ?hg (N := 1) ?hd (cs := #[.int .i64 a0_0, .slice A0_1 l0_1.length c0_1, .slice A0_2 l0_2.length c0_2, .slice A0_3 l0_3.length c0_3, .slice A0_4 l0_4.length c0_4]) (t := 28) ?hr ?_; (case hd => rfl); (case hg => rfl); (case hr => first | (go_simp; done) | (go_simp; rfl)); intro gb175 hg w7 hbox hb; have n0_ := Az.mk (below_step (by repeat (first | (with_reducible first | exact HB.out | apply zq2 | apply zq1 | apply zqd) | exact HB.out)) hb); have n1_ := Az.mk (hbox); have n2_ := Az.mk ((by rw [hg]; exact (below_size (by repeat (first | (with_reducible first | exact HB.out | apply zq2 | apply zq1 | apply zqd) | exact HB.out))) : w.heap.size ≤ gb175)); have n3_ := Az.mk ((by rw [hg]; exact (below_size (by repeat (first | (with_reducible first | exact HB.out | apply zq2 | apply zq1 | apply zqd) | exact HB.out))) : w.heap.size ≤ gb175)); clear HB; have HB := n0_; have BK175 := n1_; have GW175 := n2_; have GE175 := n3_; clear n0_ n1_ n2_ n3_; clear hb hbox hg; have hcz8_0 : w7.cell? ⟨gb175, 0, none⟩ = some (.int .i64 a0_0) := (zq4 BK175.out 0).trans rfl; have hcz8_1 : w7.cell? ⟨gb175, 1, none⟩ = some (.slice A0_1 l0_1.length c0_1) := (zq4 BK175.out 1).trans rfl; have hcz8_2 : w7.cell? ⟨gb175, 2, none⟩ = some (.slice A0_2 l0_2.length c0_2) := (zq4 BK175.out 2).trans rfl; have hcz8_3 : w7.cell? ⟨gb175, 3, none⟩ = some (.slice A0_3 l0_3.length c0_3) := (zq4 BK175.out 3).trans rfl; have hcz8_4 : w7.cell? ⟨gb175, 4, none⟩ = some (.slice A0_4 l0_4.length c0_4) := (zq4 BK175.out 4).trans rfl; have hfz8_0 := zq5 BK175.out 0; have hfz8_1 := zq5 BK175.out 1; have hfz8_2 := zq5 BK175.out 2; have hfz8_3 := zq5 BK175.out 3; have hfz8_4 := zq5 BK175.out 4) | ((with_reducible refine gate_callee (f := 49) rfl ?_); refine zq9 (some 5) rfl rfl Try.func49 (by kernel_rfl) rfl #[.int .i64 a0_0] rfl (by (try simp only [List.map_toArray, List.map_cons, List.map_nil]); first | done | rfl | (simp only [List.length_drop, List.length_take]; rfl)) ?_; (with_reducible refine (impl_isState.calls a0_0 true _ A2.out).mono ?_); rintro e w' ⟨rfl, ⟨nd, rfl⟩⟩; refine ⟨_, rfl, ?_⟩))
     go_ret
     exact ⟨by first | rfl | (simp [errW_none, errW_some] <;> rfl) | (simp [*, errW_none, errW_some] <;> rfl), by repeat (first | (with_reducible first | exact HB.out | apply zq2 | apply zq1 | apply zqd | refine zq3 ?_ GE175.out) | exact HB.out)⟩
    ·rw [if_neg c6] at H
     have c6b0 : ((l0_3.length : Int) == 12) = false := beq_eq_false_iff_ne.mpr c6
     have c6b1 : ((l0_3.length : Int) != 12) = true := bne_iff_ne.mpr c6
     obtain rfl := Option.some.inj H
     go_enter Try.func91, Try.ntmps91
     go_wp2_with (first | ((with_reducible refine zqg (N := 1) rfl ?_); (try (refine gate_guard (by rfl) ?_; dsimp only)); refine zqb ?hg (N := 1) ?hd (cs := #[.int .i64 a0_0, .slice A0_1 l0_1.length c0_1, .slice A0_2 l0_2.length c0_2, .slice A0_3 l0_3.length c0_3, .slice A0_4 l0_4.length c0_4]) (t := 28) ?hr ?_; (case hd => rfl); (case hg => rfl); (case hr => first | (go_simp; done) | (go_simp; rfl)); intro gb175 hg w9 hbox hb; have n0_ := Az.mk (below_step (by repeat (first | (with_reducible first | exact HB.out | apply zq2 | apply zq1 | apply zqd) | exact HB.out)) hb); have n1_ := Az.mk (hbox); have n2_ := Az.mk ((by rw [hg]; exact (below_size (by repeat (first | (with_reducible first | exact HB.out | apply zq2 | apply zq1 | apply zqd) | exact HB.out))) : w.heap.size ≤ gb175)); have n3_ := Az.mk ((by rw [hg]; exact (below_size (by repeat (first | (with_reducible first | exact HB.out | apply zq2 | apply zq1 | apply zqd) | exact HB.out))) : w.heap.size ≤ gb175)); clear HB; have HB := n0_; have BK175 := n1_; have GW175 := n2_; have GE175 := n3_; clear n0_ n1_ n2_ n3_; clear hb hbox hg; have hcz10_0 : w9.cell? ⟨gb175, 0, none⟩ = some (.int .i64 a0_0) := (zq4 BK175.out 0).trans rfl; have hcz10_1 : w9.cell? ⟨gb175, 1, none⟩ = some (.slice A0_1 l0_1.length c0_1) := (zq4 BK175.out 1).trans rfl; have hcz10_2 : w9.cell? ⟨gb175, 2, none⟩ = some (.slice A0_2 l0_2.length c0_2) := (zq4 BK175.out 2).trans rfl; have hcz10_3 : w9.cell? ⟨gb175, 3, none⟩ = some (.slice A0_3 l0_3.length c0_3) := (zq4 BK175.out 3).trans rfl; have hcz10_4 : w9.cell? ⟨gb175, 4, none⟩ = some (.slice A0_4 l0_4.length c0_4) := (zq4 BK175.out 4).trans rfl; have hfz10_0 := zq5 BK175.out 0; have hfz10_1 := zq5 BK175.out 1; have hfz10_2 := zq5 BK175.out 2; have hfz10_3 := zq5 BK175.out 3; have hfz10_4 := zq5 BK175.out 4) | ((with_reducible refine gate_callee (f := 49) rfl ?_); refine zq9 (some 5) rfl rfl Try.func49 (by kernel_rfl) rfl #[.int .i64 a0_0] rfl (by (try simp only [List.map_toArray, List.map_cons, List.map_nil]); first | done | rfl | (simp only [List.length_drop, List.length_take]; rfl)) ?_; (with_reducible refine (impl_isState.calls a0_0 true _ A2.out).mono ?_); rintro e w' ⟨rfl, ⟨nd, rfl⟩⟩; refine ⟨_, rfl, ?_⟩))
     go_ret
     exact ⟨by first | rfl | (simp [errW_none, errW_some] <;> rfl) | (simp [*, errW_none, errW_some] <;> rfl), by repeat (first | (with_reducible first | exact HB.out | apply zq2 | apply zq1 | apply zqd | refine zq3 ?_ GE175.out) | exact HB.out)⟩
   ·rw [if_neg c5] at H
    have c5b0 : ((l0_2.length : Int) == 2) = false := beq_eq_false_iff_ne.mpr c5
    have c5b1 : ((l0_2.length : Int) != 2) = true := bne_iff_ne.mpr c5
    obtain rfl := Option.some.inj H
    go_enter Try.func91, Try.ntmps91
    go_wp2_with (first | ((with_reducible refine zqg (N := 1) rfl ?_); (try (refine gate_guard (by rfl) ?_; dsimp only)); refine zqb ?hg (N := 1) ?hd (cs := #[.int .i64 a0_0, .slice A0_1 l0_1.length c0_1, .slice A0_2 l0_2.length c0_2, .slice A0_3 l0_3.length c0_3, .slice A0_4 l0_4.length c0_4]) (t := 28) ?hr ?_; (case hd => rfl); (case hg => rfl); (case hr => first | (go_simp; done) | (go_simp; rfl)); intro gb175 hg w11 hbox hb; have n0_ := Az.mk (below_step (by repeat (first | (with_reducible first | exact HB.out | apply zq2 | apply zq1 | apply zqd) | exact HB.out)) hb); have n1_ := Az.mk (hbox); have n2_ := Az.mk ((by rw [hg]; exact (below_size (by repeat (first | (with_reducible first | exact HB.out | apply zq2 | apply zq1 | apply zqd) | exact HB.out))) : w.heap.size ≤ gb175)); have n3_ := Az.mk ((by rw [hg]; exact (below_size (by repeat (first | (with_reducible first | exact HB.out | apply zq2 | apply zq1 | apply zqd) | exact HB.out))) : w.heap.size ≤ gb175)); clear HB; have HB := n0_; have BK175 := n1_; have GW175 := n2_; have GE175 := n3_; clear n0_ n1_ n2_ n3_; clear hb hbox hg; have hcz12_0 : w11.cell? ⟨gb175, 0, none⟩ = some (.int .i64 a0_0) := (zq4 BK175.out 0).trans rfl; have hcz12_1 : w11.cell? ⟨gb175, 1, none⟩ = some (.slice A0_1 l0_1.length c0_1) := (zq4 BK175.out 1).trans rfl; have hcz12_2 : w11.cell? ⟨gb175, 2, none⟩ = some (.slice A0_2 l0_2.length c0_2) := (zq4 BK175.out 2).trans rfl; have hcz12_3 : w11.cell? ⟨gb175, 3, none⟩ = some (.slice A0_3 l0_3.length c0_3) := (zq4 BK175.out 3).trans rfl; have hcz12_4 : w11.cell? ⟨gb175, 4, none⟩ = some (.slice A0_4 l0_4.length c0_4) := (zq4 BK175.out 4).trans rfl; have hfz12_0 := zq5 BK175.out 0; have hfz12_1 := zq5 BK175.out 1; have hfz12_2 := zq5 BK175.out 2; have hfz12_3 := zq5 BK175.out 3; have hfz12_4 := zq5 BK175.out 4) | ((with_reducible refine gate_callee (f := 49) rfl ?_); refine zq9 (some 5) rfl rfl Try.func49 (by kernel_rfl) rfl #[.int .i64 a0_0] rfl (by (try simp only [List.map_toArray, List.map_cons, List.map_nil]); first | done | rfl | (simp only [List.length_drop, List.length_take]; rfl)) ?_; (with_reducible refine (impl_isState.calls a0_0 true _ A2.out).mono ?_); rintro e w' ⟨rfl, ⟨nd, rfl⟩⟩; refine ⟨_, rfl, ?_⟩))
    go_ret
    exact ⟨by first | rfl | (simp [errW_none, errW_some] <;> rfl) | (simp [*, errW_none, errW_some] <;> rfl), by repeat (first | (with_reducible first | exact HB.out | apply zq2 | apply zq1 | apply zqd | refine zq3 ?_ GE175.out) | exact HB.out)⟩
  ·rw [if_neg c4] at H
   have c4b0 : ((l0_1.length : Int) == 12) = false := beq_eq_false_iff_ne.mpr c4
   have c4b1 : ((l0_1.length : Int) != 12) = true := bne_iff_ne.mpr c4
   obtain rfl := Option.some.inj H
   go_enter Try.func91, Try.ntmps91
   go_wp2_with (first | ((with_reducible refine zqg (N := 1) rfl ?_); (try (refine gate_guard (by rfl) ?_; dsimp only)); refine zqb ?hg (N := 1) ?hd (cs := #[.int .i64 a0_0, .slice A0_1 l0_1.length c0_1, .slice A0_2 l0_2.length c0_2, .slice A0_3 l0_3.length c0_3, .slice A0_4 l0_4.length c0_4]) (t := 28) ?hr ?_; (case hd => rfl); (case hg => rfl); (case hr => first | (go_simp; done) | (go_simp; rfl)); intro gb175 hg w13 hbox hb; have n0_ := Az.mk (below_step (by repeat (first | (with_reducible first | exact HB.out | apply zq2 | apply zq1 | apply zqd) | exact HB.out)) hb); have n1_ := Az.mk (hbox); have n2_ := Az.mk ((by rw [hg]; exact (below_size (by repeat (first | (with_reducible first | exact HB.out | apply zq2 | apply zq1 | apply zqd) | exact HB.out))) : w.heap.size ≤ gb175)); have n3_ := Az.mk ((by rw [hg]; exact (below_size (by repeat (first | (with_reducible first | exact HB.out | apply zq2 | apply zq1 | apply zqd) | exact HB.out))) : w.heap.size ≤ gb175)); clear HB; have HB := n0_; have BK175 := n1_; have GW175 := n2_; have GE175 := n3_; clear n0_ n1_ n2_ n3_; clear hb hbox hg; have hcz14_0 : w13.cell? ⟨gb175, 0, none⟩ = some (.int .i64 a0_0) := (zq4 BK175.out 0).trans rfl; have hcz14_1 : w13.cell? ⟨gb175, 1, none⟩ = some (.slice A0_1 l0_1.length c0_1) := (zq4 BK175.out 1).trans rfl; have hcz14_2 : w13.cell? ⟨gb175, 2, none⟩ = some (.slice A0_2 l0_2.length c0_2) := (zq4 BK175.out 2).trans rfl; have hcz14_3 : w13.cell? ⟨gb175, 3, none⟩ = some (.slice A0_3 l0_3.length c0_3) := (zq4 BK175.out 3).trans rfl; have hcz14_4 : w13.cell? ⟨gb175, 4, none⟩ = some (.slice A0_4 l0_4.length c0_4) := (zq4 BK175.out 4).trans rfl; have hfz14_0 := zq5 BK175.out 0; have hfz14_1 := zq5 BK175.out 1; have hfz14_2 := zq5 BK175.out 2; have hfz14_3 := zq5 BK175.out 3; have hfz14_4 := zq5 BK175.out 4) | ((with_reducible refine gate_callee (f := 49) rfl ?_); refine zq9 (some 5) rfl rfl Try.func49 (by kernel_rfl) rfl #[.int .i64 a0_0] rfl (by (try simp only [List.map_toArray, List.map_cons, List.map_nil]); first | done | rfl | (simp only [List.length_drop, List.length_take]; rfl)) ?_; (with_reducible refine (impl_isState.calls a0_0 true _ A2.out).mono ?_); rintro e w' ⟨rfl, ⟨nd, rfl⟩⟩; refine ⟨_, rfl, ?_⟩))
   go_ret
   exact ⟨by first | rfl | (simp [errW_none, errW_some] <;> rfl) | (simp [*, errW_none, errW_some] <;> rfl), by repeat (first | (with_reducible first | exact HB.out | apply zq2 | apply zq1 | apply zqd | refine zq3 ?_ GE175.out) | exact HB.out)⟩
 ·replace c3 := Bool.eq_false_iff.mpr c3
  subst c3
  have H1 : (some false) = some r := by rw [if_neg (show ¬ (false = true) by decide)] at H; exact H
  clear H
  have H := H1
  clear H1
  obtain rfl := Option.some.inj H
  go_enter Try.func91, Try.ntmps91
  go_wp2_with (first | ((with_reducible refine zqg (N := 1) rfl ?_); (try (refine gate_guard (by rfl) ?_; dsimp only)); refine zqb ?hg (N := 1) ?hd (cs := #[.int .i64 a0_0, .slice A0_1 l0_1.length c0_1, .slice A0_2 l0_2.length c0_2, .slice A0_3 l0_3.length c0_3, .slice A0_4 l0_4.length c0_4]) (t := 28) ?hr ?_; (case hd => rfl); (case hg => rfl); (case hr => first | (go_simp; done) | (go_simp; rfl)); intro gb175 hg w15 hbox hb; have n0_ := Az.mk (below_step (by repeat (first | (with_reducible first | exact HB.out | apply zq2 | apply zq1 | apply zqd) | exact HB.out)) hb); have n1_ := Az.mk (hbox); have n2_ := Az.mk ((by rw [hg]; exact (below_size (by repeat (first | (with_reducible first | exact HB.out | apply zq2 | apply zq1 | apply zqd) | exact HB.out))) : w.heap.size ≤ gb175)); have n3_ := Az.mk ((by rw [hg]; exact (below_size (by repeat (first | (with_reducible first | exact HB.out | apply zq2 | apply zq1 | apply zqd) | exact HB.out))) : w.heap.size ≤ gb175)); clear HB; have HB := n0_; have BK175 := n1_; have GW175 := n2_; have GE175 := n3_; clear n0_ n1_ n2_ n3_; clear hb hbox hg; have hcz16_0 : w15.cell? ⟨gb175, 0, none⟩ = some (.int .i64 a0_0) := (zq4 BK175.out 0).trans rfl; have hcz16_1 : w15.cell? ⟨gb175, 1, none⟩ = some (.slice A0_1 l0_1.length c0_1) := (zq4 BK175.out 1).trans rfl; have hcz16_2 : w15.cell? ⟨gb175, 2, none⟩ = some (.slice A0_2 l0_2.length c0_2) := (zq4 BK175.out 2).trans rfl; have hcz16_3 : w15.cell? ⟨gb175, 3, none⟩ = some (.slice A0_3 l0_3.length c0_3) := (zq4 BK175.out 3).trans rfl; have hcz16_4 : w15.cell? ⟨gb175, 4, none⟩ = some (.slice A0_4 l0_4.length c0_4) := (zq4 BK175.out 4).trans rfl; have hfz16_0 := zq5 BK175.out 0; have hfz16_1 := zq5 BK175.out 1; have hfz16_2 := zq5 BK175.out 2; have hfz16_3 := zq5 BK175.out 3; have hfz16_4 := zq5 BK175.out 4) | ((with_reducible refine gate_callee (f := 49) rfl ?_); refine zq9 (some 5) rfl rfl Try.func49 (by kernel_rfl) rfl #[.int .i64 a0_0] rfl (by (try simp only [List.map_toArray, List.map_cons, List.map_nil]); first | done | rfl | (simp only [List.length_drop, List.length_take]; rfl)) ?_; (with_reducible refine (impl_isState.calls a0_0 false _ A2.out).mono ?_); rintro e w' ⟨rfl, ⟨nd, rfl⟩⟩; refine ⟨_, rfl, ?_⟩))
  go_ret
  exact ⟨by first | rfl | (simp [errW_none, errW_some] <;> rfl) | (simp [*, errW_none, errW_some] <;> rfl), by repeat (first | (with_reducible first | exact HB.out | apply zq2 | apply zq1 | apply zqd | refine zq3 ?_ GE175.out) | exact HB.out)⟩
end Go.Proofs.Ytkgpnloghmbmlaa.Print
namespace Go.Proofs.Ytkgpnloghmbmlaa.Print
open Go.RowKit Go.Proofs.YtkgpnloghmbmlaaW.PrintWords Go.Proofs.YtkgpnloghmbmlaaW.PrintLast Go.Proofs.YtkgpnloghmbmlaaW.PrintMore
set_option linter.unusedVariables false
set_option linter.unusedSimpArgs false
def putB (x : S54) : Bool := if x.f0 = true then decide (0 ≤ x.f1 ∧ x.f1 < 2 ∧ x.f2.size ≤ 700) else decide (0 ≤ x.f1 ∧ x.f1 < 12 ∧ x.f2.size = 3)
theorem putB_eq (x : S54) : impl_putOk.f x.f0 x.f1 x.f2 = some (putB x) := by
  unfold impl_putOk.f impl_isColumn.f putB
  by_cases h0 : x.f0 = true
  · rw [if_pos h0, if_pos h0]
    by_cases h1 : x.f1 ≥ 0
    · rw [if_pos h1]
      by_cases h2 : x.f1 < 2
      · rw [if_pos h2]
        congr 1
        rw [Bool.eq_iff_iff, decide_eq_true_iff, decide_eq_true_iff]
        omega
      · rw [if_neg h2, decide_eq_false (by omega)]
    · rw [if_neg h1, decide_eq_false (by omega)]
  · rw [if_neg h0, if_neg h0]
    by_cases h1 : x.f1 ≥ 0
    · rw [if_pos h1]
      by_cases h2 : x.f1 < 12
      · rw [if_pos h2]
        simp only [Option.bind_some]
        congr 1
        rw [Bool.eq_iff_iff, decide_eq_true_iff, beq_iff_eq]
        omega
      · rw [if_neg h2, decide_eq_false (by omega)]
    · rw [if_neg h1, decide_eq_false (by omega)]
set_option maxHeartbeats 1000000 in
theorem putPred (x : S54) (w : World) :
    Calls Try.prog 93 #[.agg #[.bool x.f0, .int .i64 x.f1, .string x.f2]] w fun e w' => e = .returned (.bool (!putB x)) ∧ Below w.heap.size w w' := by
  have hu54 := Try.underlying54
  have HB := Az.mk (Below.refl w.heap.size w)
  have HP := Az.mk (putB_eq x)
  go_enter Try.func93, Try.ntmps93
  go_wp2_with (first | ((with_reducible refine zqg (N := 1) rfl ?_); refine zqb ?hg (N := 1) ?hd (cs := #[.bool x.f0, .int .i64 x.f1, .string x.f2]) (t := 54) ?hr ?_; (case hd => rfl); (case hg => rfl); (case hr => first | (go_simp; done) | (go_simp; rfl)); intro gb hg w5 hbox hb; have n0_ := Az.mk (below_step (by repeat (first | (with_reducible first | exact HB.out | apply zq2 | apply zq1 | apply zqd) | exact HB.out)) hb); have n1_ := Az.mk hbox; clear HB; have HB := n0_; have BK := n1_; clear n0_ n1_; clear hb hbox hg; have hcz_0 : w5.cell? ⟨gb, 0, none⟩ = some (.bool x.f0) := (zq4 BK.out 0).trans rfl; have hcz_1 : w5.cell? ⟨gb, 1, none⟩ = some (.int .i64 x.f1) := (zq4 BK.out 1).trans rfl; have hcz_2 : w5.cell? ⟨gb, 2, none⟩ = some (.string x.f2) := (zq4 BK.out 2).trans rfl) | (go_at_call 83; refine (impl_putOk.calls _ _ _ _ _ HP.out).mono ?_; rintro e w9 ⟨rfl, hb⟩; have n0_ := Az.mk (below_step (by repeat (first | (with_reducible first | exact HB.out | apply zq2 | apply zq1 | apply zqd) | exact HB.out)) hb); clear HB; have HB := n0_; clear n0_ hb))
  go_ret
  exact ⟨rfl, (by repeat (first | (with_reducible first | exact HB.out | apply zq2 | apply zq1 | apply zqd) | exact HB.out))⟩
set_option maxHeartbeats 1000000 in
theorem textPred (x : ByteArray) (w : World) :
    Calls Try.prog 96 #[.string x] w fun e w' => e = .returned (.bool (decide ((x.size : Int) > 700))) ∧ Below w.heap.size w w' := by
  have HB := Az.mk (Below.refl w.heap.size w)
  go_enter Try.func96, Try.ntmps96
  go_wp2
  go_ret
  exact ⟨rfl, (by repeat (first | (with_reducible first | exact HB.out | apply zq2 | apply zq1 | apply zqd) | exact HB.out))⟩
def findIxG {α : Type} (p : α → Bool) (l : List α) : Int := match l.findIdx? p with | some i => (i : Int) | none => -1
theorem findIxG_at {α : Type} {z : α} {p : α → Bool} {l : List α} {i : Nat} (h : ∀ j, j < i → p (l.getD j z) = false) (hi : i < l.length) (hp : p (l.getD i z) = true) : findIxG p l = (i : Int) := by
  have e : l.findIdx? p = some i := by
    rw [List.findIdx?_eq_some_iff_getElem]
    refine ⟨hi, ?_, fun j hj => ?_⟩
    · simpa [List.getD, hi] using hp
    · have := h j hj
      have hjl : j < l.length := by omega
      simpa [List.getD, hjl] using this
  rw [findIxG, e]
theorem findIxG_none {α : Type} {z : α} {p : α → Bool} {l : List α} (h : ∀ j, j < l.length → p (l.getD j z) = false) : findIxG p l = -1 := by
  have e : l.findIdx? p = none := by
    rw [List.findIdx?_eq_none_iff]
    intro x hx
    obtain ⟨j, hj, rfl⟩ := List.getElem_of_mem hx
    have := h j hj
    simpa [List.getD, hj] using this
  rw [findIxG, e]
theorem findIxG_any {α : Type} (p : α → Bool) (l : List α) : decide (findIxG p l ≥ 0) = l.any p := by
  unfold findIxG
  rw [Bool.eq_iff_iff, decide_eq_true_iff, List.any_eq_true]
  cases e : l.findIdx? p with
  | none =>
    rw [List.findIdx?_eq_none_iff] at e
    simp only [ge_iff_le]
    constructor
    · intro h; omega
    · rintro ⟨x, hx, hp⟩
      rw [e x hx] at hp
      cases hp
  | some i =>
    obtain ⟨hi, hp, _⟩ := List.findIdx?_eq_some_iff_getElem.1 e
    simp only [ge_iff_le]
    exact ⟨fun _ => ⟨_, List.getElem_mem hi, hp⟩, fun _ => by omega⟩
set_option maxHeartbeats 4000000 in
set_option maxRecDepth 100000 in
theorem indexPut (A0 : Option Addr) (c0 : Nat) (l0 : List S54) (w : World) (hr0 : Kd.C k54 w A0 l0.length l0) (hc0 : l0.length ≤ c0) :
    Calls Try.prog 104 #[.slice A0 l0.length c0, .func (.func 93) #[] #[]] w fun e w' => e = .returned (.int .i64 (findIxG (fun x => !putB x) l0)) ∧ Below w.heap.size w w' := by
  have HR0 := Az.mk hr0
  have HC0 := Az.mk hc0
  have HM := Az.mk (Kd.C_max hr0)
  clear hr0 hc0
  go_enter Try.func104, Try.ntmps104
  go_wp2
  repeat (go_quiet (fail); try go_wp2)
  go_loopg [8] l0.length (fun kq v8 w' => ∃ (i : Nat), v8 = .int .i64 (i : Int) ∧ Az (i + kq = l0.length) ∧ Az (∀ j, j < i → (fun x => !putB x) (l0.getD j z54) = false) ∧ Az (Below w.heap.size w w'))
  case atStart => exact ⟨0, rfl, ⟨Nat.zero_add _⟩, ⟨fun j hj => by omega⟩, ⟨by repeat (first | exact Below.refl _ _ | apply zq2 | apply zq1 | apply zqd)⟩⟩
  case round =>
    obtain ⟨i, rfl, HI, HF, HB⟩ := hrel
    by_cases c1 : i < l0.length
    · have c1b0 : decide ((i : Int) < (l0.length : Int)) = true := decide_eq_true (by omega)
      have p1 : (0 : Int) ≤ (i : Int) := by omega
      have q1 : (i : Int) < (l0.length : Int) := by omega
      have hm := HM.out
      have hw1 : wrap64 ((i : Int) + 1) = ((i + 1 : Nat) : Int) := by unfold wrap64; omega
      have HW := Az.mk hw1
      clear hm hw1
      obtain ⟨ad, e1, hx_0, hx_1, hx_2⟩ := at_T54 HR0.out (i : Int) p1 q1
      cases e1
      simp only [Int.toNat_natCast, rd_T54] at hx_0 hx_1 hx_2
      replace hx_0 := (HB.out.cell (World.block_lt_of_cell? w _ hx_0)).trans hx_0
      replace hx_1 := (HB.out.cell (World.block_lt_of_cell? w _ hx_1)).trans hx_1
      replace hx_2 := (HB.out.cell (World.block_lt_of_cell? w _ hx_2)).trans hx_2
      replace p1 := eq_true p1
      replace q1 := eq_true q1
      obtain ⟨x, hE⟩ : ∃ x, x = l0.getD i z54 := ⟨_, rfl⟩
      rw [← hE] at hx_0 hx_1 hx_2
      have HE := Az.mk hE
      clear hE
      by_cases c2 : (!putB x) = true
      · have hfin := findIxG_at (p := (fun x => !putB x)) (z := z54) HF.out c1 (by rw [← HE.out]; exact c2)
        have HFIN := Az.mk hfin
        have HC := Az.mk c2
        clear hfin c2
        go_wp2_with (first | (go_at_call 93; refine (putPred x _).mono ?_; rintro e w9 ⟨rfl, hb⟩; rw [HC.out]; have n0_ := Az.mk (below_step (by repeat (first | (with_reducible first | exact HB.out | apply zq2 | apply zq1 | apply zqd) | exact HB.out)) hb); clear HB; have HB := n0_; clear n0_ hb))
        go_ret
        exact ⟨by rw [HFIN.out]; rfl, (by repeat (first | (with_reducible first | exact HB.out | apply zq2 | apply zq1 | apply zqd) | exact HB.out))⟩
      · have c2 : (!putB x) = false := by simpa using c2
        have HF1 : Az (∀ j, j < i + 1 → (fun x => !putB x) (l0.getD j z54) = false) := ⟨fun j hj => by
          by_cases e : j = i
          · rw [e, ← HE.out]; exact c2
          · exact HF.out j (by omega)⟩
        have HC := Az.mk c2
        clear c2
        go_wp2_with (first | (go_at_call 93; refine (putPred x _).mono ?_; rintro e w9 ⟨rfl, hb⟩; rw [HC.out]; have n0_ := Az.mk (below_step (by repeat (first | (with_reducible first | exact HB.out | apply zq2 | apply zq1 | apply zqd) | exact HB.out)) hb); clear HB; have HB := n0_; clear n0_ hb))
        go_roundg (gk - 1)
        case measure => have := HI.out; omega
        case rel => exact ⟨i + 1, by rw [← HW.out], ⟨by have := HI.out; omega⟩, HF1, ⟨(by repeat (first | (with_reducible first | exact HB.out | apply zq2 | apply zq1 | apply zqd) | exact HB.out))⟩⟩
    · have c1b0 : decide ((i : Int) < (l0.length : Int)) = false := decide_eq_false (by omega)
      have hfin := findIxG_none (p := (fun x => !putB x)) (l := l0) (z := z54) (fun j hj => HF.out j (by omega))
      have HFIN := Az.mk hfin
      clear hfin
      go_wp2
      go_ret
      exact ⟨by rw [HFIN.out]; rfl, (by repeat (first | (with_reducible first | exact HB.out | apply zq2 | apply zq1 | apply zqd) | exact HB.out))⟩
set_option maxHeartbeats 4000000 in
theorem containsPut (A0 : Option Addr) (c0 : Nat) (l0 : List S54) (w : World) (hr0 : Kd.C k54 w A0 l0.length l0) (hc0 : l0.length ≤ c0) :
    Calls Try.prog 92 #[.slice A0 l0.length c0, .func (.func 93) #[] #[]] w fun e w' => e = .returned (.bool (l0.any (fun x => !putB x))) ∧ Below w.heap.size w w' := by
  have HI := Az.mk (indexPut A0 c0 l0 w hr0 hc0)
  have HR := Az.mk (findIxG_any (fun x => !putB x) l0)
  clear hr0 hc0
  go_enter Try.func92, Try.ntmps92
  go_wp2_with (first | (go_at_call 104; refine HI.out.mono ?_; rintro e w9 ⟨rfl, hb⟩; have HB := Az.mk hb; clear hb))
  go_ret
  exact ⟨by have hr := HR.out; simp only [ge_iff_le] at hr; first | (rw [← hr]; rfl) | (simp [← hr]; done), (by repeat (first | (with_reducible first | exact HB.out | apply zq2 | apply zq1 | apply zqd) | exact HB.out))⟩
set_option maxHeartbeats 4000000 in
set_option maxRecDepth 100000 in
theorem indexText (A0 : Option Addr) (c0 : Nat) (l0 : List ByteArray) (w : World) (hr0 : Kd.C Kd.string w A0 l0.length l0) (hc0 : l0.length ≤ c0) :
    Calls Try.prog 105 #[.slice A0 l0.length c0, .func (.func 96) #[] #[]] w fun e w' => e = .returned (.int .i64 (findIxG (fun x : ByteArray => decide ((x.size : Int) > 700)) l0)) ∧ Below w.heap.size w w' := by
  have HR0 := Az.mk hr0
  have HC0 := Az.mk hc0
  have HM := Az.mk (Kd.C_max hr0)
  clear hr0 hc0
  go_enter Try.func105, Try.ntmps105
  go_wp2
  repeat (go_quiet (fail); try go_wp2)
  go_loopg [8] l0.length (fun kq v8 w' => ∃ (i : Nat), v8 = .int .i64 (i : Int) ∧ Az (i + kq = l0.length) ∧ Az (∀ j, j < i → (fun x : ByteArray => decide ((x.size : Int) > 700)) (l0.getD j ByteArray.empty) = false) ∧ Az (Below w.heap.size w w'))
  case atStart => exact ⟨0, rfl, ⟨Nat.zero_add _⟩, ⟨fun j hj => by omega⟩, ⟨by repeat (first | exact Below.refl _ _ | apply zq2 | apply zq1 | apply zqd)⟩⟩
  case round =>
    obtain ⟨i, rfl, HI, HF, HB⟩ := hrel
    by_cases c1 : i < l0.length
    · have c1b0 : decide ((i : Int) < (l0.length : Int)) = true := decide_eq_true (by omega)
      have p1 : (0 : Int) ≤ (i : Int) := by omega
      have q1 : (i : Int) < (l0.length : Int) := by omega
      have hm := HM.out
      have hw1 : wrap64 ((i : Int) + 1) = ((i + 1 : Nat) : Int) := by unfold wrap64; omega
      have HW := Az.mk hw1
      clear hm hw1
      obtain ⟨ad, e1, hx_0⟩ := Kd.at_string HR0.out (i : Int) p1 q1
      cases e1
      simp only [Int.toNat_natCast, rdOf] at hx_0
      replace hx_0 := (HB.out.cell (World.block_lt_of_cell? w _ hx_0)).trans hx_0
      replace p1 := eq_true p1
      replace q1 := eq_true q1
      obtain ⟨x, hE⟩ : ∃ x, x = l0.getD i ByteArray.empty := ⟨_, rfl⟩
      rw [← hE] at hx_0
      have HE := Az.mk hE
      clear hE
      by_cases c2 : decide ((x.size : Int) > 700) = true
      · have hfin := findIxG_at (p := (fun x : ByteArray => decide ((x.size : Int) > 700))) (z := ByteArray.empty) HF.out c1 (by rw [← HE.out]; exact c2)
        have HFIN := Az.mk hfin
        have HC := Az.mk c2
        clear hfin c2
        go_wp2_with (first | (go_at_call 96; refine (textPred x _).mono ?_; rintro e w9 ⟨rfl, hb⟩; rw [HC.out]; have n0_ := Az.mk (below_step (by repeat (first | (with_reducible first | exact HB.out | apply zq2 | apply zq1 | apply zqd) | exact HB.out)) hb); clear HB; have HB := n0_; clear n0_ hb))
        go_ret
        exact ⟨by rw [HFIN.out]; rfl, (by repeat (first | (with_reducible first | exact HB.out | apply zq2 | apply zq1 | apply zqd) | exact HB.out))⟩
      · have c2 : decide ((x.size : Int) > 700) = false := by simpa using c2
        have HF1 : Az (∀ j, j < i + 1 → (fun x : ByteArray => decide ((x.size : Int) > 700)) (l0.getD j ByteArray.empty) = false) := ⟨fun j hj => by
          by_cases e : j = i
          · rw [e, ← HE.out]; exact c2
          · exact HF.out j (by omega)⟩
        have HC := Az.mk c2
        clear c2
        go_wp2_with (first | (go_at_call 96; refine (textPred x _).mono ?_; rintro e w9 ⟨rfl, hb⟩; rw [HC.out]; have n0_ := Az.mk (below_step (by repeat (first | (with_reducible first | exact HB.out | apply zq2 | apply zq1 | apply zqd) | exact HB.out)) hb); clear HB; have HB := n0_; clear n0_ hb))
        go_roundg (gk - 1)
        case measure => have := HI.out; omega
        case rel => exact ⟨i + 1, by rw [← HW.out], ⟨by have := HI.out; omega⟩, HF1, ⟨(by repeat (first | (with_reducible first | exact HB.out | apply zq2 | apply zq1 | apply zqd) | exact HB.out))⟩⟩
    · have c1b0 : decide ((i : Int) < (l0.length : Int)) = false := decide_eq_false (by omega)
      have hfin := findIxG_none (p := (fun x : ByteArray => decide ((x.size : Int) > 700))) (l := l0) (z := ByteArray.empty) (fun j hj => HF.out j (by omega))
      have HFIN := Az.mk hfin
      clear hfin
      go_wp2
      go_ret
      exact ⟨by rw [HFIN.out]; rfl, (by repeat (first | (with_reducible first | exact HB.out | apply zq2 | apply zq1 | apply zqd) | exact HB.out))⟩
set_option maxHeartbeats 4000000 in
theorem containsText (A0 : Option Addr) (c0 : Nat) (l0 : List ByteArray) (w : World) (hr0 : Kd.C Kd.string w A0 l0.length l0) (hc0 : l0.length ≤ c0) :
    Calls Try.prog 95 #[.slice A0 l0.length c0, .func (.func 96) #[] #[]] w fun e w' => e = .returned (.bool (l0.any (fun x : ByteArray => decide ((x.size : Int) > 700)))) ∧ Below w.heap.size w w' := by
  have HI := Az.mk (indexText A0 c0 l0 w hr0 hc0)
  have HR := Az.mk (findIxG_any (fun x : ByteArray => decide ((x.size : Int) > 700)) l0)
  clear hr0 hc0
  go_enter Try.func95, Try.ntmps95
  go_wp2_with (first | (go_at_call 105; refine HI.out.mono ?_; rintro e w9 ⟨rfl, hb⟩; have HB := Az.mk hb; clear hb))
  go_ret
  exact ⟨by have hr := HR.out; simp only [ge_iff_le] at hr; first | (rw [← hr]; rfl) | (simp [← hr]; done), (by repeat (first | (with_reducible first | exact HB.out | apply zq2 | apply zq1 | apply zqd) | exact HB.out))⟩
end Go.Proofs.Ytkgpnloghmbmlaa.Print
namespace Go.Proofs.Ytkgpnloghmbmlaa.Drv
open Go.RowKit Go.Proofs.Ytkgpnloghmbmlaa.Print Go.Proofs.YtkgpnloghmbmlaaW.PrintWords
set_option linter.unusedVariables false
abbrev Pt := S54
def Node (w : World) (b : Nat) (p : Pt) (nx : Value) : Prop := w.heap[b]? = some (.cells #[.bool p.f0, .int .i64 p.f1, .string p.f2, nx] 112 (0, 0))
def toN : List (Nat × Pt) → Value → Value
  | [], e => e
  | x :: _, _ => .pointer (some ⟨x.1, 0, none⟩)
theorem toN_append (a b : List (Nat × Pt)) (e : Value) : toN (a ++ b) e = toN a (toN b e) := by cases a <;> rfl
def Seg (w : World) : Nat → List (Nat × Pt) → Value → Prop
  | _, [], _ => True
  | lo, x :: r, e => lo < x.1 ∧ Node w x.1 x.2 (toN r e) ∧ Seg w x.1 r e
def lastN : Nat → List (Nat × Pt) → Nat
  | lo, [] => lo
  | _, x :: r => lastN x.1 r
theorem lastN_snoc (x : Nat × Pt) : ∀ (lo : Nat) (ns : List (Nat × Pt)), lastN lo (ns ++ [x]) = x.1
  | _, [] => rfl
  | _, y :: r => lastN_snoc x y.1 r
theorem Seg.le {w : World} {e : Value} : ∀ {lo : Nat} {ns : List (Nat × Pt)}, Seg w lo ns e → lo ≤ lastN lo ns
  | _, [], _ => Nat.le_refl _
  | lo, x :: r, h => Nat.le_trans (Nat.le_of_lt h.1) (Seg.le h.2.2)
theorem Seg.lt {w : World} {e : Value} : ∀ {lo : Nat} {ns : List (Nat × Pt)}, Seg w lo ns e → lo < w.heap.size → lastN lo ns < w.heap.size
  | _, [], _, h => h
  | lo, x :: r, h, _ => (Seg.lt (lo := x.1) (ns := r) h.2.2 (blk_lt h.2.1) : lastN x.1 r < w.heap.size)
theorem Seg.mono {w : World} {e : Value} {lo lo' : Nat} {ns : List (Nat × Pt)} (h : Seg w lo ns e) (hl : lo' ≤ lo) : Seg w lo' ns e := by
  cases ns with
  | nil => trivial
  | cons x r => exact ⟨Nat.lt_of_le_of_lt hl h.1, h.2⟩
theorem Seg.keep {w w' : World} {e : Value} : ∀ {lo : Nat} {ns : List (Nat × Pt)}, Seg w lo ns e → (∀ k, lo < k → k ≤ lastN lo ns → w'.heap[k]? = w.heap[k]?) → Seg w' lo ns e
  | _, [], _, _ => trivial
  | lo, x :: r, h, hk => ⟨h.1, (hk _ h.1 (Seg.le h.2.2)).trans h.2.1, Seg.keep h.2.2 fun k h1 h2 => hk k (Nat.lt_trans h.1 h1) h2⟩
theorem Seg.append {w : World} {e : Value} {ms : List (Nat × Pt)} : ∀ {lo : Nat} {ns : List (Nat × Pt)}, Seg w lo (ns ++ ms) e ↔ Seg w lo ns (toN ms e) ∧ Seg w (lastN lo ns) ms e
  | _, [] => ⟨fun h => ⟨trivial, h⟩, fun h => h.2⟩
  | lo, x :: r => by
    simp only [List.cons_append, Seg, lastN, toN_append, Seg.append (lo := x.1) (ns := r)]
    exact ⟨fun h => ⟨⟨h.1, h.2.1, h.2.2.1⟩, h.2.2.2⟩, fun h => ⟨h.1.1, h.1.2.1, h.1.2.2, h.2⟩⟩
def dcells (st : Int) (sp : List Bool) (sl rg : List ByteArray) (fi : Value) : Array Value :=
  (.int .i64 st :: (sp.map Value.bool ++ (sl.map Value.string ++ (rg.map Value.string ++ [fi])))).toArray
structure Drv (w : World) (g : Nat) (st : Int) (sp : List Bool) (sl rg : List ByteArray) (ns : List (Nat × Pt)) : Prop where
  blk : w.heap[g]? = some (.cells (dcells st sp sl rg (toN ns (.pointer none))) 80 (0, 0))
  seg : Seg w g ns (.pointer none)
  lsp : sp.length = 12
  lsl : sl.length = 12
  lrg : rg.length = 2
section
variable {st : Int} {sp : List Bool} {sl rg : List ByteArray} {fi : Value}
theorem dc_st : (dcells st sp sl rg fi)[0]? = some (.int .i64 st) := by simp [dcells]
theorem dc_sp (hsp : sp.length = 12) {i : Nat} (hi : i < 12) : (dcells st sp sl rg fi)[1 + i]? = some (.bool (sp.getD i false)) := by
  have : i < sp.length := by omega
  simp [dcells, Nat.add_comm 1 i, List.getElem?_append, this, List.getD]
theorem dc_sl (hsp : sp.length = 12) (hsl : sl.length = 12) {i : Nat} (hi : i < 12) : (dcells st sp sl rg fi)[13 + i]? = some (.string (sl.getD i ByteArray.empty)) := by
  have h1 : i < sl.length := by omega
  have e : 13 + i = (12 + i) + 1 := by omega
  have h3 : ¬ 12 + i < sp.length := by omega
  have h4 : 12 + i - sp.length = i := by omega
  rw [e]
  simp [dcells, List.getElem?_append, h1, h3, h4, List.getD]
theorem dc_rg (hsp : sp.length = 12) (hsl : sl.length = 12) (hrg : rg.length = 2) {i : Nat} (hi : i < 2) : (dcells st sp sl rg fi)[25 + i]? = some (.string (rg.getD i ByteArray.empty)) := by
  have h1 : i < rg.length := by omega
  have e : 25 + i = (24 + i) + 1 := by omega
  have h3 : ¬ 24 + i < sp.length := by omega
  have h4 : 24 + i - sp.length = 12 + i := by omega
  have h5 : ¬ 12 + i < sl.length := by omega
  have h6 : 12 + i - sl.length = i := by omega
  rw [e]
  simp [dcells, List.getElem?_append, h1, h3, h4, h5, h6, List.getD]
theorem dc_fi (hsp : sp.length = 12) (hsl : sl.length = 12) (hrg : rg.length = 2) : (dcells st sp sl rg fi)[27]? = some fi := by
  simp [dcells, hsp, hsl, hrg]
theorem set_fi (hsp : sp.length = 12) (hsl : sl.length = 12) (hrg : rg.length = 2) (v : Value) : (dcells st sp sl rg fi).setIfInBounds 27 v = dcells st sp sl rg v := by
  simp [dcells, hsp, hsl, hrg]
theorem set_sp (hsp : sp.length = 12) {i : Nat} (hi : i < 12) (b : Bool) : (dcells st sp sl rg fi).setIfInBounds (1 + i) (.bool b) = dcells st (sp.set i b) sl rg fi := by
  simp [dcells, Nat.add_comm 1 i, hsp, hi, List.map_set]
theorem set_sl (hsp : sp.length = 12) (hsl : sl.length = 12) {i : Nat} (hi : i < 12) (s : ByteArray) : (dcells st sp sl rg fi).setIfInBounds (13 + i) (.string s) = dcells st sp (sl.set i s) rg fi := by
  have e : 13 + i = (12 + i) + 1 := by omega
  have h3 : ¬ 12 + i < sp.length := by omega
  have h4 : 12 + i - sp.length = i := by omega
  rw [e]
  simp [dcells, List.set_append, h3, h4, hsl, hi, List.map_set]
theorem set_rg (hsp : sp.length = 12) (hsl : sl.length = 12) (hrg : rg.length = 2) {i : Nat} (hi : i < 2) (s : ByteArray) : (dcells st sp sl rg fi).setIfInBounds (25 + i) (.string s) = dcells st sp sl (rg.set i s) fi := by
  have e : 25 + i = (24 + i) + 1 := by omega
  have h3 : ¬ 24 + i < sp.length := by omega
  have h4 : 24 + i - sp.length = 12 + i := by omega
  have h5 : ¬ 12 + i < sl.length := by omega
  have h6 : 12 + i - sl.length = i := by omega
  rw [e]
  simp [dcells, List.set_append, h3, h4, h5, h6, hrg, hi, List.map_set]
end
def linkOf (g : Nat) : List (Nat × Pt) → Addr
  | [] => ⟨g, 27, none⟩
  | x :: r => ⟨lastN x.1 r, 3, none⟩
theorem Drv.keep {w w' : World} {g : Nat} {st : Int} {sp : List Bool} {sl rg : List ByteArray} {ns : List (Nat × Pt)} (h : Drv w g st sp sl rg ns) (hk : ∀ k, g ≤ k → k < w.heap.size → w'.heap[k]? = w.heap[k]?) : Drv w' g st sp sl rg ns :=
  ⟨(hk g (Nat.le_refl _) (blk_lt h.blk)).trans h.blk, h.seg.keep (fun k h1 h2 => hk k (Nat.le_of_lt h1) (Nat.lt_of_le_of_lt h2 (h.seg.lt (blk_lt h.blk)))), h.lsp, h.lsl, h.lrg⟩
theorem Drv.below {w w' : World} {g : Nat} {st : Int} {sp : List Bool} {sl rg : List ByteArray} {ns : List (Nat × Pt)} (h : Drv w g st sp sl rg ns) (hk : Below w.heap.size w w') : Drv w' g st sp sl rg ns :=
  h.keep fun k _ h2 => hk.block k h2
theorem Drv.own {w : World} {g : Nat} {st : Int} {sp : List Bool} {sl rg : List ByteArray} {ns : List (Nat × Pt)} (h : Drv w g st sp sl rg ns) {j : Nat} {v : Value} {sp' : List Bool} {sl' rg' : List ByteArray} {ms : List (Nat × Pt)}
    (e : (dcells st sp sl rg (toN ns (.pointer none))).setIfInBounds j v = dcells st sp' sl' rg' (toN ms (.pointer none))) (hs : Seg w g ms (.pointer none)) (h1 : sp'.length = 12) (h2 : sl'.length = 12) (h3 : rg'.length = 2) :
    Drv (w.setCell ⟨g, j, none⟩ v) g st sp' sl' rg' ms :=
  ⟨e ▸ blk_set h.blk j v, hs.keep (fun k h1 _ => Below.heap_setCell w ⟨g, j, none⟩ v k (by show k ≠ g; omega)), h1, h2, h3⟩
theorem Drv.putRing {w : World} {g : Nat} {st : Int} {sp : List Bool} {sl rg : List ByteArray} {ns : List (Nat × Pt)} (h : Drv w g st sp sl rg ns) {i : Nat} (hi : i < 2) (s : ByteArray) : Drv (w.setCell ⟨g, 25 + i, none⟩ (.string s)) g st sp sl (rg.set i s) ns :=
  h.own (set_rg h.lsp h.lsl h.lrg hi s) h.seg h.lsp h.lsl (by simpa using h.lrg)
theorem Drv.putSlot {w : World} {g : Nat} {st : Int} {sp : List Bool} {sl rg : List ByteArray} {ns : List (Nat × Pt)} (h : Drv w g st sp sl rg ns) {i : Nat} (hi : i < 12) (s : ByteArray) : Drv (w.setCell ⟨g, 13 + i, none⟩ (.string s)) g st sp (sl.set i s) rg ns :=
  h.own (set_sl h.lsp h.lsl hi s) h.seg h.lsp (by simpa using h.lsl) h.lrg
theorem Drv.putSpoilt {w : World} {g : Nat} {st : Int} {sp : List Bool} {sl rg : List ByteArray} {ns : List (Nat × Pt)} (h : Drv w g st sp sl rg ns) {i : Nat} (hi : i < 12) (b : Bool) : Drv (w.setCell ⟨g, 1 + i, none⟩ (.bool b)) g st (sp.set i b) sl rg ns :=
  h.own (set_sp h.lsp hi b) h.seg (by simpa using h.lsp) h.lsl h.lrg
theorem Drv.drop {w : World} {g : Nat} {st : Int} {sp : List Bool} {sl rg : List ByteArray} {x : Nat × Pt} {ns : List (Nat × Pt)} (h : Drv w g st sp sl rg (x :: ns)) : Drv (w.setCell ⟨g, 27, none⟩ (toN ns (.pointer none))) g st sp sl rg ns :=
  h.own (set_fi h.lsp h.lsl h.lrg _) (h.seg.2.2.mono (Nat.le_of_lt h.seg.1)) h.lsp h.lsl h.lrg
theorem Drv.link {w : World} {g : Nat} {st : Int} {sp : List Bool} {sl rg : List ByteArray} {ns ms : List (Nat × Pt)} (h : Drv w g st sp sl rg (ns ++ ms)) : w.cell? (linkOf g ns) = some (toN ms (.pointer none)) := by
  rcases List.eq_nil_or_concat ns with rfl | ⟨r, x, rfl⟩
  · exact (zq4 h.blk 27).trans (dc_fi h.lsp h.lsl h.lrg)
  · have hs := (Seg.append.1 h.seg).1
    have hx := (Seg.append.1 (by simpa using hs : Seg w g (r ++ [x]) _)).2
    have e : linkOf g (r ++ [x]) = ⟨x.1, 3, none⟩ := by
      cases r with
      | nil => rfl
      | cons y r => exact congrArg (fun b => (⟨b, 3, none⟩ : Addr)) (lastN_snoc x y.1 r)
    simp only [List.concat_eq_append, e]
    exact (zq4 hx.2.1 3).trans rfl
theorem Drv.linkFree {w : World} {g : Nat} {st : Int} {sp : List Bool} {sl rg : List ByteArray} {ns ms : List (Nat × Pt)} (h : Drv w g st sp sl rg (ns ++ ms)) : w.frozen? (linkOf g ns) = false := by
  rcases List.eq_nil_or_concat ns with rfl | ⟨r, x, rfl⟩
  · exact zq5 h.blk 27
  · have hs := (Seg.append.1 h.seg).1
    have hx := (Seg.append.1 (by simpa using hs : Seg w g (r ++ [x]) _)).2
    have e : linkOf g (r ++ [x]) = ⟨x.1, 3, none⟩ := by
      cases r with
      | nil => rfl
      | cons y r => exact congrArg (fun b => (⟨b, 3, none⟩ : Addr)) (lastN_snoc x y.1 r)
    simp only [List.concat_eq_append, e]
    exact zq5 hx.2.1 3
theorem Drv.hang {w : World} {g n : Nat} {p : Pt} {st : Int} {sp : List Bool} {sl rg : List ByteArray} {ns : List (Nat × Pt)} (h : Drv w g st sp sl rg ns) (hn : Node w n p (.pointer none)) (hl : lastN g ns < n) :
    Drv (w.setCell (linkOf g ns) (.pointer (some ⟨n, 0, none⟩))) g st sp sl rg (ns ++ [(n, p)]) := by
  rcases List.eq_nil_or_concat ns with rfl | ⟨r, x, rfl⟩
  · refine ⟨?_, ⟨hl, (Below.heap_setCell w _ _ n (by show n ≠ g; have : g < n := hl; omega)).trans hn, trivial⟩, h.lsp, h.lsl, h.lrg⟩
    have := blk_set h.blk 27 (.pointer (some ⟨n, 0, none⟩))
    rw [set_fi h.lsp h.lsl h.lrg] at this
    exact this
  · simp only [List.concat_eq_append] at h hl ⊢
    have e : linkOf g (r ++ [x]) = ⟨x.1, 3, none⟩ := by
      cases r with
      | nil => rfl
      | cons y r => exact congrArg (fun b => (⟨b, 3, none⟩ : Addr)) (lastN_snoc x y.1 r)
    rw [lastN_snoc] at hl
    obtain ⟨h1, h2⟩ := Seg.append.1 h.seg
    have hg : g ≤ lastN g r := h1.le
    have hx : lastN g r < x.1 := h2.1
    have far : ∀ k, k ≠ x.1 → (w.setCell (linkOf g (r ++ [x])) (.pointer (some ⟨n, 0, none⟩))).heap[k]? = w.heap[k]? := fun k hk => by
      rw [e]
      exact Below.heap_setCell w _ _ k hk
    refine ⟨(far g (by omega)).trans ?_, Seg.append.2 ⟨Seg.append.2 ⟨h1.keep fun k _ hk => far k (by omega), hx, ?_, trivial⟩, ?_, (far n (by omega)).trans hn, trivial⟩, h.lsp, h.lsl, h.lrg⟩
    · have := h.blk
      simp only [toN_append] at this ⊢
      exact this
    · rw [e]
      exact blk_set h2.2.1 3 _
    · rw [lastN_snoc]
      exact hl
theorem linkOf_block (g : Nat) (ns : List (Nat × Pt)) : (linkOf g ns).block = lastN g ns := by cases ns <;> rfl
theorem linkOf_snoc (g n : Nat) (p : Pt) (ns : List (Nat × Pt)) : linkOf g (ns ++ [(n, p)]) = ⟨n, 3, none⟩ := by
  cases ns with
  | nil => rfl
  | cons y r => exact congrArg (fun b => (⟨b, 3, none⟩ : Addr)) (lastN_snoc (n, p) y.1 r)
theorem Drv.keepL {w w' : World} {g : Nat} {st : Int} {sp : List Bool} {sl rg : List ByteArray} {ns : List (Nat × Pt)} (h : Drv w g st sp sl rg ns) (hk : ∀ k, g ≤ k → k ≤ lastN g ns → w'.heap[k]? = w.heap[k]?) : Drv w' g st sp sl rg ns :=
  ⟨(hk g (Nat.le_refl _) h.seg.le).trans h.blk, h.seg.keep (fun k h1 h2 => hk k (Nat.le_of_lt h1) h2), h.lsp, h.lsl, h.lrg⟩
theorem Drv.far {w : World} {g : Nat} {st : Int} {sp : List Bool} {sl rg : List ByteArray} {ns : List (Nat × Pt)} (h : Drv w g st sp sl rg ns) {p : Addr} (hp : lastN g ns < p.block) (v : Value) : Drv (w.setCell p v) g st sp sl rg ns :=
  h.keepL fun k _ hk => Below.heap_setCell w p v k (by omega)
theorem Drv.last_lt {w : World} {g : Nat} {st : Int} {sp : List Bool} {sl rg : List ByteArray} {ns : List (Nat × Pt)} (h : Drv w g st sp sl rg ns) : lastN g ns < w.heap.size := h.seg.lt (blk_lt h.blk)
theorem Drv.linkE {w : World} {g : Nat} {st : Int} {sp : List Bool} {sl rg : List ByteArray} {ns : List (Nat × Pt)} (h : Drv w g st sp sl rg ns) : w.cell? (linkOf g ns) = some (.pointer none) := Drv.link (ms := []) (by rw [List.append_nil]; exact h)
theorem Drv.linkFreeE {w : World} {g : Nat} {st : Int} {sp : List Bool} {sl rg : List ByteArray} {ns : List (Nat × Pt)} (h : Drv w g st sp sl rg ns) : w.frozen? (linkOf g ns) = false := Drv.linkFree (ms := []) (by rw [List.append_nil]; exact h)
theorem eqItems_strs {P : Program} {e : TypeId} (he : P.underlying e = some .string) (hc : P.cellsOf e = 1) (d : Nat) (w : World) (xs ys : List ByteArray) : ∀ is : List Nat, (∀ i ∈ is, i < xs.length ∧ i < ys.length) →
    (Op.eqItems (d + 1) e (P.cellsOf e) (xs.map Value.string).toArray (ys.map Value.string).toArray is).run P w = .ok (is.all fun i => (xs.getD i ByteArray.empty).toList == (ys.getD i ByteArray.empty).toList) w
  | [], _ => by simp [Op.eqItems]
  | i :: is, h => by
    obtain ⟨h1, h2⟩ := h i (by simp)
    have hk : P.plainKey e = true := by simp [Program.plainKey, he]
    have p1 : (part e (xs.map Value.string).toArray (i * P.cellsOf e)).run P w = .ok (.string (xs.getD i ByteArray.empty)) w := run_part_plain w hk (by simp [hc, h1, List.getD])
    have p2 : (part e (ys.map Value.string).toArray (i * P.cellsOf e)).run P w = .ok (.string (ys.getD i ByteArray.empty)) w := run_part_plain w hk (by simp [hc, h2, List.getD])
    simp only [Op.eqItems, Sem.run_bind, p1, p2, Result.andThen_ok, run_equalIn_string w d e _ _ he, List.all_cons]
    generalize hb : ((xs.getD i ByteArray.empty).toList == (ys.getD i ByteArray.empty).toList) = b
    cases b
    · simp
    · simpa using eqItems_strs he hc d w xs ys is (fun j hj => h j (by simp [hj]))
theorem equal_strs {P : Program} {t e : TypeId} {n : Nat} (ht : P.underlying t = some (.array n e)) (he : P.underlying e = some .string) (hc : P.cellsOf e = 1) (w : World) (xs : List ByteArray) (hx : xs.length = n) :
    (Op.equalIn 10000 t (.agg (xs.map Value.string).toArray) (.agg ((List.replicate n ByteArray.empty).map Value.string).toArray)).run P w = .ok (xs.all fun s => s.size == 0) w := by
  obtain ⟨i, hi⟩ := info_of_underlying he
  rw [run_equalIn_array w 9999 _ _ ht hi, eqItems_strs he hc 9998 w xs _ (List.range n) (fun i hi => by simp at hi; simp; omega)]
  congr 1
  rw [Bool.eq_iff_iff, List.all_eq_true, List.all_eq_true]
  constructor
  · intro h s hs
    obtain ⟨j, hj, rfl⟩ := List.getElem_of_mem hs
    have := h j (by simp; omega)
    have hj2 : j < n := by omega
    simp [List.getD, hj, hj2, ByteArray.toList_eq] at this
    simp [ByteArray.size, this]
  · intro h j hj
    simp only [List.mem_range] at hj
    have hj1 : j < xs.length := by omega
    have := h _ (List.getElem_mem hj1)
    have h2 : xs[j] = ByteArray.empty := by
      have : xs[j].size = 0 := by simpa using this
      exact ByteArray.ext (Array.eq_empty_of_size_eq_zero this)
    simp [List.getD, hj1, hj, h2]
end Go.Proofs.Ytkgpnloghmbmlaa.Drv
namespace Go.Proofs.Ytkgpnloghmbmlaa.Print
open Go.RowKit Go.Proofs.YtkgpnloghmbmlaaW.PrintWords Go.Proofs.YtkgpnloghmbmlaaW.PrintLast Go.Proofs.YtkgpnloghmbmlaaW.PrintMore Go.Proofs.Ytkgpnloghmbmlaa.Drv
set_option linter.unusedVariables false
set_option linter.unusedSimpArgs false
def Shaped (st : Int) (sl rg : List ByteArray) (sp : List Bool) (wt : List S54) : Prop := (0 ≤ st ∧ st ≤ 2) ∧ sl.length = 12 ∧ rg.length = 2 ∧ sp.length = 12 ∧ wt.length ≤ 40
instance (st : Int) (sl rg : List ByteArray) (sp : List Bool) (wt : List S54) : Decidable (Shaped st sl rg sp wt) := by unfold Shaped; infer_instance
theorem shaped_eq (st : Int) (sl rg : List ByteArray) (sp : List Bool) (wt : List S54) : impl_Disk_shaped.f st sl rg sp wt = some (decide (Shaped st sl rg sp wt)) := by
  unfold impl_Disk_shaped.f impl_isState.f
  by_cases h0 : st ≥ 0
  · rw [if_pos h0]
    simp only [Option.bind_some]
    by_cases h1 : st ≤ 2
    · rw [if_pos (decide_eq_true h1)]
      by_cases h2 : (sl.length : Int) = 12
      · rw [if_pos h2]
        by_cases h3 : (rg.length : Int) = 2
        · rw [if_pos h3]
          by_cases h4 : (sp.length : Int) = 12
          · rw [if_pos h4]
            congr 1
            rw [Bool.eq_iff_iff, decide_eq_true_iff, decide_eq_true_iff]
            unfold Shaped
            omega
          · rw [if_neg h4, decide_eq_false (by unfold Shaped; omega)]
        · rw [if_neg h3, decide_eq_false (by unfold Shaped; omega)]
      · rw [if_neg h2, decide_eq_false (by unfold Shaped; omega)]
    · rw [decide_eq_false h1, if_neg (by decide), decide_eq_false (by unfold Shaped; omega)]
  · rw [if_neg h0]
    simp only [Option.bind_some]
    rw [if_neg (by decide), decide_eq_false (by unfold Shaped; omega)]
def badSlot (t : ByteArray) (s : Bool) : Bool := if t.size = 0 then s else decide (t.size ≠ 3)
structure Good (st : Int) (sl rg : List ByteArray) (sp : List Bool) (wt : List S54) : Prop where
  sh : Shaped st sl rg sp wt
  wa : wt.any (fun x => !putB x) = false
  so : ∀ i, i < 12 → badSlot (sl.getD i ByteArray.empty) (sp.getD i false) = false
  ro : rg.any (fun x : ByteArray => decide ((x.size : Int) > 700)) = false
  go : st = 1 → sl.all (fun x => x.size == 0) = true ∧ rg.all (fun x => x.size == 0) = true ∧ wt.length = 0
set_option maxHeartbeats 4000000 in
set_option maxRecDepth 100000 in
theorem readDisk_shape (st : Int) (A1 : Option Addr) (c1 : Nat) (sl : List ByteArray) (A2 : Option Addr) (c2 : Nat) (rg : List ByteArray) (A3 : Option Addr) (c3 : Nat) (sp : List Bool) (A4 : Option Addr) (c4 : Nat) (wt : List S54) (w : World) (hr1 : Kd.C Kd.string w A1 sl.length sl) (hc1 : sl.length ≤ c1) (hr2 : Kd.C Kd.string w A2 rg.length rg) (hc2 : rg.length ≤ c2) (hr3 : Kd.C Kd.bool w A3 sp.length sp) (hc3 : sp.length ≤ c3) (hr4 : Kd.C k54 w A4 wt.length wt) (hc4 : wt.length ≤ c4) (hbad : ¬ Shaped st sl rg sp wt) :
    Calls Try.prog 52 #[.agg #[.int .i64 st, .slice A1 sl.length c1, .slice A2 rg.length c2, .slice A3 sp.length c3, .slice A4 wt.length c4]] w fun e w' => e = .returned (.tuple #[.pointer none, .bool false]) ∧ Below w.heap.size w w' := by
  have hu28 := Try.underlying28
  have HS := Az.mk (fun (W : World) (hb : Below w.heap.size w W) => impl_Disk_shaped.calls st _ _ sl _ _ rg _ _ sp _ _ wt _ W (Kd.C_below hr1 hb) hc1 (Kd.C_below hr2 hb) hc2 (Kd.C_below hr3 hb) hc3 (Kd.C_below hr4 hb) hc4 (shaped_eq st sl rg sp wt))
  have HW := Az.mk (fun (W : World) (hb : Below w.heap.size w W) => containsPut A4 c4 wt W (Kd.C_below hr4 hb) hc4)
  have HG := Az.mk (fun (W : World) (hb : Below w.heap.size w W) => containsText A2 c2 rg W (Kd.C_below hr2 hb) hc2)
  have HR1 := Az.mk hr1
  have HR2 := Az.mk hr2
  have HR3 := Az.mk hr3
  have HR4 := Az.mk hr4
  have HM := Az.mk (Kd.C_max hr4)
  clear hr1 hr2 hr3 hr4 hc1 hc2 hc3 hc4
  have HB := Az.mk (Below.refl w.heap.size w)
  rw [decide_eq_false hbad] at HS
  clear hbad
  go_enter Try.func52, Try.ntmps52
  go_wp2_with (first | ((with_reducible refine zqg (N := 1) rfl ?_); refine zqb ?hg (N := 1) ?hd (cs := #[.int .i64 st, .slice A1 sl.length c1, .slice A2 rg.length c2, .slice A3 sp.length c3, .slice A4 wt.length c4]) (t := 28) ?hr ?_; (case hd => rfl); (case hg => rfl); (case hr => first | (go_simp; done) | (go_simp; rfl)); intro gb hg w1 hbox hb; have n0_ := Az.mk (below_step (by repeat (first | (with_reducible first | exact HB.out | apply zq2 | apply zq1 | apply zqd) | exact HB.out)) hb); have n1_ := Az.mk hbox; clear HB; have HB := n0_; have BK := n1_; clear n0_ n1_ hb hbox hg; have hcz_0 : w1.cell? ⟨gb, 0, none⟩ = some (.int .i64 st) := (zq4 BK.out 0).trans rfl; have hcz_1 : w1.cell? ⟨gb, 1, none⟩ = some (.slice A1 sl.length c1) := (zq4 BK.out 1).trans rfl; have hcz_2 : w1.cell? ⟨gb, 2, none⟩ = some (.slice A2 rg.length c2) := (zq4 BK.out 2).trans rfl; have hcz_3 : w1.cell? ⟨gb, 3, none⟩ = some (.slice A3 sp.length c3) := (zq4 BK.out 3).trans rfl; have hcz_4 : w1.cell? ⟨gb, 4, none⟩ = some (.slice A4 wt.length c4) := (zq4 BK.out 4).trans rfl) | (go_at_call 91; refine (HS.out _ (by repeat (first | (with_reducible first | exact HB.out | apply zq2 | apply zq1 | apply zqd) | exact HB.out))).mono ?_; rintro e w9 ⟨rfl, hb⟩; have n0_ := Az.mk (below_step (by repeat (first | (with_reducible first | exact HB.out | apply zq2 | apply zq1 | apply zqd) | exact HB.out)) hb); have n1_ := Az.mk (blk_below (g := gb) (o := .cells #[.int .i64 st, .slice A1 sl.length c1, .slice A2 rg.length c2, .slice A3 sp.length c3, .slice A4 wt.length c4] 28 (0, 0)) (by (with_reducible repeat (first | refine zq6 ?_ _ | refine zq8 ?_ | refine zq7 ?_ _)); exact BK.out) hb); clear HB BK; have HB := n0_; have BK := n1_; clear n0_ n1_ hb; have hcz_0 : w9.cell? ⟨gb, 0, none⟩ = some (.int .i64 st) := (zq4 BK.out 0).trans rfl; have hcz_1 : w9.cell? ⟨gb, 1, none⟩ = some (.slice A1 sl.length c1) := (zq4 BK.out 1).trans rfl; have hcz_2 : w9.cell? ⟨gb, 2, none⟩ = some (.slice A2 rg.length c2) := (zq4 BK.out 2).trans rfl; have hcz_3 : w9.cell? ⟨gb, 3, none⟩ = some (.slice A3 sp.length c3) := (zq4 BK.out 3).trans rfl; have hcz_4 : w9.cell? ⟨gb, 4, none⟩ = some (.slice A4 wt.length c4) := (zq4 BK.out 4).trans rfl))
  go_ret2
  exact ⟨rfl, (by repeat (first | (with_reducible first | exact HB.out | apply zq2 | apply zq1 | apply zqd) | exact HB.out))⟩
set_option maxHeartbeats 4000000 in
set_option maxRecDepth 100000 in
theorem readDisk_wait (st : Int) (A1 : Option Addr) (c1 : Nat) (sl : List ByteArray) (A2 : Option Addr) (c2 : Nat) (rg : List ByteArray) (A3 : Option Addr) (c3 : Nat) (sp : List Bool) (A4 : Option Addr) (c4 : Nat) (wt : List S54) (w : World) (hr1 : Kd.C Kd.string w A1 sl.length sl) (hc1 : sl.length ≤ c1) (hr2 : Kd.C Kd.string w A2 rg.length rg) (hc2 : rg.length ≤ c2) (hr3 : Kd.C Kd.bool w A3 sp.length sp) (hc3 : sp.length ≤ c3) (hr4 : Kd.C k54 w A4 wt.length wt) (hc4 : wt.length ≤ c4) (hs : Shaped st sl rg sp wt) (hbad : wt.any (fun x => !putB x) = true) :
    Calls Try.prog 52 #[.agg #[.int .i64 st, .slice A1 sl.length c1, .slice A2 rg.length c2, .slice A3 sp.length c3, .slice A4 wt.length c4]] w fun e w' => e = .returned (.tuple #[.pointer none, .bool false]) ∧ Below w.heap.size w w' := by
  have hu28 := Try.underlying28
  have HS := Az.mk (fun (W : World) (hb : Below w.heap.size w W) => impl_Disk_shaped.calls st _ _ sl _ _ rg _ _ sp _ _ wt _ W (Kd.C_below hr1 hb) hc1 (Kd.C_below hr2 hb) hc2 (Kd.C_below hr3 hb) hc3 (Kd.C_below hr4 hb) hc4 (shaped_eq st sl rg sp wt))
  have HW := Az.mk (fun (W : World) (hb : Below w.heap.size w W) => containsPut A4 c4 wt W (Kd.C_below hr4 hb) hc4)
  have HG := Az.mk (fun (W : World) (hb : Below w.heap.size w W) => containsText A2 c2 rg W (Kd.C_below hr2 hb) hc2)
  have HR1 := Az.mk hr1
  have HR2 := Az.mk hr2
  have HR3 := Az.mk hr3
  have HR4 := Az.mk hr4
  have HM := Az.mk (Kd.C_max hr4)
  clear hr1 hr2 hr3 hr4 hc1 hc2 hc3 hc4
  have HB := Az.mk (Below.refl w.heap.size w)
  rw [decide_eq_true hs] at HS
  rw [hbad] at HW
  clear hbad hs
  go_enter Try.func52, Try.ntmps52
  go_wp2_with (first | ((with_reducible refine zqg (N := 1) rfl ?_); refine zqb ?hg (N := 1) ?hd (cs := #[.int .i64 st, .slice A1 sl.length c1, .slice A2 rg.length c2, .slice A3 sp.length c3, .slice A4 wt.length c4]) (t := 28) ?hr ?_; (case hd => rfl); (case hg => rfl); (case hr => first | (go_simp; done) | (go_simp; rfl)); intro gb hg w1 hbox hb; have n0_ := Az.mk (below_step (by repeat (first | (with_reducible first | exact HB.out | apply zq2 | apply zq1 | apply zqd) | exact HB.out)) hb); have n1_ := Az.mk hbox; clear HB; have HB := n0_; have BK := n1_; clear n0_ n1_ hb hbox hg; have hcz_0 : w1.cell? ⟨gb, 0, none⟩ = some (.int .i64 st) := (zq4 BK.out 0).trans rfl; have hcz_1 : w1.cell? ⟨gb, 1, none⟩ = some (.slice A1 sl.length c1) := (zq4 BK.out 1).trans rfl; have hcz_2 : w1.cell? ⟨gb, 2, none⟩ = some (.slice A2 rg.length c2) := (zq4 BK.out 2).trans rfl; have hcz_3 : w1.cell? ⟨gb, 3, none⟩ = some (.slice A3 sp.length c3) := (zq4 BK.out 3).trans rfl; have hcz_4 : w1.cell? ⟨gb, 4, none⟩ = some (.slice A4 wt.length c4) := (zq4 BK.out 4).trans rfl) | (go_at_call 91; refine (HS.out _ (by repeat (first | (with_reducible first | exact HB.out | apply zq2 | apply zq1 | apply zqd) | exact HB.out))).mono ?_; rintro e w9 ⟨rfl, hb⟩; have n0_ := Az.mk (below_step (by repeat (first | (with_reducible first | exact HB.out | apply zq2 | apply zq1 | apply zqd) | exact HB.out)) hb); have n1_ := Az.mk (blk_below (g := gb) (o := .cells #[.int .i64 st, .slice A1 sl.length c1, .slice A2 rg.length c2, .slice A3 sp.length c3, .slice A4 wt.length c4] 28 (0, 0)) (by (with_reducible repeat (first | refine zq6 ?_ _ | refine zq8 ?_ | refine zq7 ?_ _)); exact BK.out) hb); clear HB BK; have HB := n0_; have BK := n1_; clear n0_ n1_ hb; have hcz_0 : w9.cell? ⟨gb, 0, none⟩ = some (.int .i64 st) := (zq4 BK.out 0).trans rfl; have hcz_1 : w9.cell? ⟨gb, 1, none⟩ = some (.slice A1 sl.length c1) := (zq4 BK.out 1).trans rfl; have hcz_2 : w9.cell? ⟨gb, 2, none⟩ = some (.slice A2 rg.length c2) := (zq4 BK.out 2).trans rfl; have hcz_3 : w9.cell? ⟨gb, 3, none⟩ = some (.slice A3 sp.length c3) := (zq4 BK.out 3).trans rfl; have hcz_4 : w9.cell? ⟨gb, 4, none⟩ = some (.slice A4 wt.length c4) := (zq4 BK.out 4).trans rfl) | (go_at_call 92; refine (HW.out _ (by repeat (first | (with_reducible first | exact HB.out | apply zq2 | apply zq1 | apply zqd) | exact HB.out))).mono ?_; rintro e w10 ⟨rfl, hb⟩; have n0_ := Az.mk (below_step (by repeat (first | (with_reducible first | exact HB.out | apply zq2 | apply zq1 | apply zqd) | exact HB.out)) hb); have n1_ := Az.mk (blk_below (g := gb) (o := .cells #[.int .i64 st, .slice A1 sl.length c1, .slice A2 rg.length c2, .slice A3 sp.length c3, .slice A4 wt.length c4] 28 (0, 0)) (by (with_reducible repeat (first | refine zq6 ?_ _ | refine zq8 ?_ | refine zq7 ?_ _)); exact BK.out) hb); clear HB BK; have HB := n0_; have BK := n1_; clear n0_ n1_ hb; have hcz_0 : w10.cell? ⟨gb, 0, none⟩ = some (.int .i64 st) := (zq4 BK.out 0).trans rfl; have hcz_1 : w10.cell? ⟨gb, 1, none⟩ = some (.slice A1 sl.length c1) := (zq4 BK.out 1).trans rfl; have hcz_2 : w10.cell? ⟨gb, 2, none⟩ = some (.slice A2 rg.length c2) := (zq4 BK.out 2).trans rfl; have hcz_3 : w10.cell? ⟨gb, 3, none⟩ = some (.slice A3 sp.length c3) := (zq4 BK.out 3).trans rfl; have hcz_4 : w10.cell? ⟨gb, 4, none⟩ = some (.slice A4 wt.length c4) := (zq4 BK.out 4).trans rfl))
  go_ret2
  exact ⟨rfl, (by repeat (first | (with_reducible first | exact HB.out | apply zq2 | apply zq1 | apply zqd) | exact HB.out))⟩
theorem loadAt_list {P : Program} (W : World) (ad : Addr) (ty : TypeId) (cs : List Value) (d : TypeDesc) (hc : ∀ j v, cs[j]? = some v → W.cell? (ad.add j) = some v)
    (hu : P.underlying ty = some d) (hd : (match d with | .struct _ | .array _ _ => true | _ => false) = true) (hi : (P.info? ty).map (·.size) = some cs.length) :
    (Instr.loadAt ty (.pointer (some ad))).run P W = .ok (.agg cs.toArray) W := by
  have hl : (loadCells ad cs.length).run P W = .ok cs.toArray W := run_loadCells_list (P := P) W ad cs hc
  cases hq : P.info? ty with
  | none => simp [hq] at hi
  | some i =>
    have hs : i.size = cs.length := by simpa [hq] using hi
    have hagg : (isAgg ty).run P W = .ok true W := by
      unfold isAgg
      rw [Sem.run_bind, run_underlying hu W]
      cases d <;> simp_all
    simp [Instr.loadAt, Instr.sureAddr, loadVar, Sem.run_bind, hagg, sizeOf, typeInfo, hq, hs, hl]
theorem strs_at {w : World} {A : Option Addr} {l : List ByteArray} (h : Kd.C Kd.string w A l.length l) (h0 : 0 < l.length) : ∃ ad, A = some ad ∧ ∀ j v, (l.map Value.string)[j]? = some v → w.cell? (ad.add j) = some v := by
  obtain ⟨ad, e, _⟩ := Kd.at_string h 0 (by omega) (by omega)
  refine ⟨ad, e, fun j v hv => ?_⟩
  simp only [List.getElem?_map, Option.map_eq_some_iff] at hv
  obtain ⟨s, hs, rfl⟩ := hv
  have hj := (List.getElem?_eq_some_iff.1 hs).1
  obtain ⟨ad', e', hx⟩ := Kd.at_string h (j : Int) (by omega) (by omega)
  obtain rfl : ad = ad' := by rw [e] at e'; exact Option.some.inj e'
  simpa [rdOf, List.getD, hs] using hx
theorem bools_at {w : World} {A : Option Addr} {l : List Bool} (h : Kd.C Kd.bool w A l.length l) (h0 : 0 < l.length) : ∃ ad, A = some ad ∧ ∀ j v, (l.map Value.bool)[j]? = some v → w.cell? (ad.add j) = some v := by
  obtain ⟨ad, e, _⟩ := Kd.at_bool h 0 (by omega) (by omega)
  refine ⟨ad, e, fun j v hv => ?_⟩
  simp only [List.getElem?_map, Option.map_eq_some_iff] at hv
  obtain ⟨s, hs, rfl⟩ := hv
  have hj := (List.getElem?_eq_some_iff.1 hs).1
  obtain ⟨ad', e', hx⟩ := Kd.at_bool h (j : Int) (by omega) (by omega)
  obtain rfl : ad = ad' := by rw [e] at e'; exact Option.some.inj e'
  simpa [rdOf, List.getD, hs] using hx
theorem run_arrayAt {P : Program} {arr e : TypeId} {n : Nat} (hu : P.underlying arr = some (.array n e)) (ad : Addr) (len c : Nat) (h : n ≤ len) (w : World) : (Instr.arrayAt arr (.slice (some ad) len c)).run P w = .ok (.pointer (some ad)) w := by
  simp [Instr.arrayAt, run_underlying hu, Nat.not_lt.2 h]
theorem yields_load {P : Program} {op : Oper} {a : Act} {w : World} (ty : TypeId) (x : Operand) (ho : op.op = .load ty x) (ad : Addr) (hx : a.eval x = .pointer (some ad)) (v : Value)
    (hS : (Instr.loadAt ty (.pointer (some ad))).run P w = .ok v w) : (execOp a.eval op).run P w = .ok (.value v) w := by
  unfold execOp
  simp only [ho, hx, Sem.run_bind, hS, Result.andThen_ok, Sem.run_pure]
def ReadPost (st : Int) (sl rg : List ByteArray) (sp : List Bool) (wt : List S54) (w : World) (e : Ending) (w' : World) : Prop :=
  (¬ Good st sl rg sp wt ∧ e = .returned (.tuple #[.pointer none, .bool false]) ∧ Below w.heap.size w w') ∨ (Good st sl rg sp wt ∧ ∃ g ns, e = .returned (.tuple #[.pointer (some ⟨g, 0, none⟩), .bool true]) ∧ w.heap.size ≤ g ∧ Drv w' g st sp sl rg ns ∧ ns.map (·.2) = wt ∧ Below w.heap.size w w')
theorem neq_ev {P : Program} {ops : Array Oper} {rest : List Oper} {o : Oper} {a : Act} {w : World} {Q : Exit → Act → World → Prop} {t rt : TypeId} {x y : Operand} {xs ys : Array Value} {b : Bool} (hgd : o.guard = none) (ho : o.op = .binOp .neq t x y rt)
    (hx : a.eval x = .agg xs) (hy : a.eval y = .agg ys) (hg : P.eqGuardType P.depth t = false) (he : (Op.equalIn 10000 t (.agg xs) (.agg ys)).run P w = .ok b w) (h : wpList P ops Q rest (a.put o.dst (.bool (!b))) w) : wpList P ops Q (o :: rest) a w :=
  Kd.event_run hgd (by unfold execOp; simp only [ho, hx, hy, Sem.run_bind, run_eqGuard_agg w .neq t x y xs ys hg, Result.andThen_ok, run_neq_struct, he, Sem.run_pure]) h
theorem drv_load {W : World} {g : Nat} {st : Int} {sp : List Bool} {sl rg : List ByteArray} {ns : List (Nat × Pt)} (h : Drv W g st sp sl rg ns) {o : Nat} {l : List ByteArray} {ty : TypeId} {d : TypeDesc}
    (hc : ∀ i, i < l.length → W.cell? ⟨g, o + i, none⟩ = some (.string (l.getD i ByteArray.empty))) (hu : Try.prog.underlying ty = some d) (hd : d.isRow = true) (hi : (Try.prog.info? ty).map (·.size) = some l.length) :
    (Instr.loadAt ty (.pointer (some ⟨g, o, none⟩))).run Try.prog W = .ok (.agg (l.map Value.string).toArray) W :=
  loadAt_list W ⟨g, o, none⟩ ty (l.map Value.string) d (fun j v hv => by
    simp only [List.getElem?_map, Option.map_eq_some_iff] at hv
    obtain ⟨s, hs, rfl⟩ := hv
    rw [show (⟨g, o, none⟩ : Addr).add j = ⟨g, o + j, none⟩ by (unfold Addr.add; split <;> simp_all), hc j (List.getElem?_eq_some_iff.1 hs).1]
    simp [List.getD, hs]) hu (by cases d <;> simp_all [TypeDesc.isRow]) (by simpa using hi)
theorem load_ev {P : Program} {ops : Array Oper} {rest : List Oper} {o : Oper} {a : Act} {w : World} {Q : Exit → Act → World → Prop} {ty : TypeId} {x : Operand} {ad : Addr} (hgd : o.guard = none) (ho : o.op = .load ty x) (v : Value)
    (hl : (Instr.loadAt ty (.pointer (some ad))).run P w = .ok v w) (hx : a.eval x = .pointer (some ad)) (h : wpList P ops Q rest (a.put o.dst v) w) : wpList P ops Q (o :: rest) a w :=
  Kd.event_run hgd (yields_load ty x ho ad hx v hl) h
theorem _root_.ByteArray.size_toList_x (x : ByteArray) : x.toList.length = x.size := by rw [ByteArray.toList_eq, Array.length_toList]; rfl
theorem drv_drewN {W : World} {g : Nat} {st : Int} {sp : List Bool} {sl rg : List ByteArray} {ns : List (Nat × Pt)} (h : Drv W g st sp sl rg ns) (n : Nat) : Drv (W.drewN n) g st sp sl rg ns := h.keep fun _ _ _ => rfl
theorem drv_drew {W : World} {g : Nat} {st : Int} {sp : List Bool} {sl rg : List ByteArray} {ns : List (Nat × Pt)} (h : Drv W g st sp sl rg ns) : Drv W.drew g st sp sl rg ns := h.keep fun _ _ _ => rfl
set_option maxHeartbeats 8000000 in
set_option maxRecDepth 100000 in
theorem readDisk_main (st : Int) (ad1 ad2 ad3 : Addr) (A4 : Option Addr) (c1 c2 c3 c4 : Nat) (s0 s1 s2 s3 s4 s5 s6 s7 s8 s9 s10 s11 : ByteArray) (r0 r1 : ByteArray) (b0 b1 b2 b3 b4 b5 b6 b7 b8 b9 b10 b11 : Bool) (sl rg : List ByteArray) (sp : List Bool) (wt : List S54) (w : World) (esl : sl = [s0, s1, s2, s3, s4, s5, s6, s7, s8, s9, s10, s11]) (erg : rg = [r0, r1]) (esp : sp = [b0, b1, b2, b3, b4, b5, b6, b7, b8, b9, b10, b11])
    (hl1 : ∀ W : World, Below w.heap.size w W → (Instr.loadAt 76 (.pointer (some ad1))).run Try.prog W = .ok (.agg #[.string s0, .string s1, .string s2, .string s3, .string s4, .string s5, .string s6, .string s7, .string s8, .string s9, .string s10, .string s11]) W)
    (hl2 : ∀ W : World, Below w.heap.size w W → (Instr.loadAt 77 (.pointer (some ad2))).run Try.prog W = .ok (.agg #[.string r0, .string r1]) W)
    (hl3 : ∀ W : World, Below w.heap.size w W → (Instr.loadAt 73 (.pointer (some ad3))).run Try.prog W = .ok (.agg #[.bool b0, .bool b1, .bool b2, .bool b3, .bool b4, .bool b5, .bool b6, .bool b7, .bool b8, .bool b9, .bool b10, .bool b11]) W)
    (hcs : ∀ W : World, Below w.heap.size w W → Calls Try.prog 91 #[.agg #[.int .i64 st, .slice (some ad1) 12 c1, .slice (some ad2) 2 c2, .slice (some ad3) 12 c3, .slice A4 wt.length c4]] W fun e w' => e = .returned (.bool true) ∧ Below W.heap.size W w')
    (hcw : ∀ W : World, Below w.heap.size w W → Calls Try.prog 92 #[.slice A4 wt.length c4, .func (.func 93) #[] #[]] W fun e w' => e = .returned (.bool false) ∧ Below W.heap.size W w')
    (hcg : ∀ W : World, Below w.heap.size w W → Calls Try.prog 95 #[.slice (some ad2) 2 c2, .func (.func 96) #[] #[]] W fun e w' => e = .returned (.bool (rg.any fun x => decide ((x.size : Int) > 700))) ∧ Below W.heap.size W w')
    (hr1 : Kd.C Kd.string w (some ad1) 12 sl) (hr3 : Kd.C Kd.bool w (some ad3) 12 sp) (hr4 : Kd.C k54 w A4 wt.length wt) (hs : Shaped st sl rg sp wt) (hw : wt.any (fun x => !putB x) = false) :
    Calls Try.prog 52 #[.agg #[.int .i64 st, .slice (some ad1) 12 c1, .slice (some ad2) 2 c2, .slice (some ad3) 12 c3, .slice A4 wt.length c4]] w fun e w' => ReadPost st sl rg sp wt w e w' := by
  have hu28 := Try.underlying28
  have HS := Az.mk hcs
  have HW := Az.mk hcw
  have HG := Az.mk hcg
  have HL1 := Az.mk hl1
  have HL2 := Az.mk hl2
  have HL3 := Az.mk hl3
  have HR1 := Az.mk hr1
  have HR3 := Az.mk hr3
  have HR4 := Az.mk hr4
  have HM := Az.mk (Kd.C_max hr4)
  have HSH := Az.mk hs
  have HWA := Az.mk hw
  have ESL := Az.mk esl
  have ERG := Az.mk erg
  have ESP := Az.mk esp
  clear hr1 hr3 hr4 hl1 hl2 hl3 hs hw hcs hcw hcg esl erg esp
  have HB := Az.mk (Below.refl w.heap.size w)
  go_enter Try.func52, Try.ntmps52
  go_wp2_with (first | ((with_reducible refine zqg (N := 1) rfl ?_); refine zqb ?hg (N := 1) ?hd (cs := #[.int .i64 st, .slice (some ad1) 12 c1, .slice (some ad2) 2 c2, .slice (some ad3) 12 c3, .slice A4 wt.length c4]) (t := 28) ?hr ?_; (case hd => rfl); (case hg => rfl); (case hr => first | (go_simp; done) | (go_simp; rfl)); intro gb hg w1 hbox hb; have n0_ := Az.mk (below_step (by repeat (first | (with_reducible first | exact HB.out | apply zq2 | apply zq1 | apply zqd) | exact HB.out)) hb); have n1_ := Az.mk hbox; clear HB; have HB := n0_; have BK := n1_; clear n0_ n1_ hb hbox hg; have hcz_0 : w1.cell? ⟨gb, 0, none⟩ = some (.int .i64 st) := (zq4 BK.out 0).trans rfl; have hcz_1 : w1.cell? ⟨gb, 1, none⟩ = some (.slice (some ad1) 12 c1) := (zq4 BK.out 1).trans rfl; have hcz_2 : w1.cell? ⟨gb, 2, none⟩ = some (.slice (some ad2) 2 c2) := (zq4 BK.out 2).trans rfl; have hcz_3 : w1.cell? ⟨gb, 3, none⟩ = some (.slice (some ad3) 12 c3) := (zq4 BK.out 3).trans rfl; have hcz_4 : w1.cell? ⟨gb, 4, none⟩ = some (.slice A4 wt.length c4) := (zq4 BK.out 4).trans rfl) | (go_at_call 91; refine (HS.out _ (by repeat (first | (with_reducible first | exact HB.out | apply zq2 | apply zq1 | apply zqd) | exact HB.out))).mono ?_; rintro e w9 ⟨rfl, hb⟩; have n0_ := Az.mk (below_step (by repeat (first | (with_reducible first | exact HB.out | apply zq2 | apply zq1 | apply zqd) | exact HB.out)) hb); have n1_ := Az.mk (blk_below (g := gb) (o := .cells #[.int .i64 st, .slice (some ad1) 12 c1, .slice (some ad2) 2 c2, .slice (some ad3) 12 c3, .slice A4 wt.length c4] 28 (0, 0)) (by (with_reducible repeat (first | refine zq6 ?_ _ | refine zq8 ?_ | refine zq7 ?_ _)); exact BK.out) hb); clear HB BK; have HB := n0_; have BK := n1_; clear n0_ n1_ hb; have hcz_0 : w9.cell? ⟨gb, 0, none⟩ = some (.int .i64 st) := (zq4 BK.out 0).trans rfl; have hcz_1 : w9.cell? ⟨gb, 1, none⟩ = some (.slice (some ad1) 12 c1) := (zq4 BK.out 1).trans rfl; have hcz_2 : w9.cell? ⟨gb, 2, none⟩ = some (.slice (some ad2) 2 c2) := (zq4 BK.out 2).trans rfl; have hcz_3 : w9.cell? ⟨gb, 3, none⟩ = some (.slice (some ad3) 12 c3) := (zq4 BK.out 3).trans rfl; have hcz_4 : w9.cell? ⟨gb, 4, none⟩ = some (.slice A4 wt.length c4) := (zq4 BK.out 4).trans rfl) | (go_at_call 92; refine (HW.out _ (by repeat (first | (with_reducible first | exact HB.out | apply zq2 | apply zq1 | apply zqd) | exact HB.out))).mono ?_; rintro e w10 ⟨rfl, hb⟩; have n0_ := Az.mk (below_step (by repeat (first | (with_reducible first | exact HB.out | apply zq2 | apply zq1 | apply zqd) | exact HB.out)) hb); have n1_ := Az.mk (blk_below (g := gb) (o := .cells #[.int .i64 st, .slice (some ad1) 12 c1, .slice (some ad2) 2 c2, .slice (some ad3) 12 c3, .slice A4 wt.length c4] 28 (0, 0)) (by (with_reducible repeat (first | refine zq6 ?_ _ | refine zq8 ?_ | refine zq7 ?_ _)); exact BK.out) hb); clear HB BK; have HB := n0_; have BK := n1_; clear n0_ n1_ hb; have hcz_0 : w10.cell? ⟨gb, 0, none⟩ = some (.int .i64 st) := (zq4 BK.out 0).trans rfl; have hcz_1 : w10.cell? ⟨gb, 1, none⟩ = some (.slice (some ad1) 12 c1) := (zq4 BK.out 1).trans rfl; have hcz_2 : w10.cell? ⟨gb, 2, none⟩ = some (.slice (some ad2) 2 c2) := (zq4 BK.out 2).trans rfl; have hcz_3 : w10.cell? ⟨gb, 3, none⟩ = some (.slice (some ad3) 12 c3) := (zq4 BK.out 3).trans rfl; have hcz_4 : w10.cell? ⟨gb, 4, none⟩ = some (.slice A4 wt.length c4) := (zq4 BK.out 4).trans rfl; have hl1 := HL1.out w10 (by repeat (first | (with_reducible first | exact HB.out | apply zq2 | apply zq1 | apply zqd) | exact HB.out)); have hl2 := HL2.out w10 (by repeat (first | (with_reducible first | exact HB.out | apply zq2 | apply zq1 | apply zqd) | exact HB.out)); have hl3 := HL3.out w10 (by repeat (first | (with_reducible first | exact HB.out | apply zq2 | apply zq1 | apply zqd) | exact HB.out))))
  have hB10 : Az (Below w.heap.size w w10.drew) := ⟨(by repeat (first | (with_reducible first | exact HB.out | apply zq2 | apply zq1 | apply zqd) | exact HB.out))⟩
  refine start_ (n := 18) (S := fun w' => w'.cell? ⟨gb, 0, none⟩ = some (.int .i64 st) ∧ w'.cell? ⟨gb, 1, none⟩ = some (.slice (some ad1) 12 c1) ∧ w'.cell? ⟨gb, 2, none⟩ = some (.slice (some ad2) 2 c2) ∧ w'.cell? ⟨gb, 3, none⟩ = some (.slice (some ad3) 12 c3) ∧ w'.cell? ⟨gb, 4, none⟩ = some (.slice A4 wt.length c4) ∧ (Instr.loadAt 76 (.pointer (some ad1))).run Try.prog w' = .ok (.agg #[.string s0, .string s1, .string s2, .string s3, .string s4, .string s5, .string s6, .string s7, .string s8, .string s9, .string s10, .string s11]) w' ∧ (Instr.loadAt 77 (.pointer (some ad2))).run Try.prog w' = .ok (.agg #[.string r0, .string r1]) w' ∧ (Instr.loadAt 73 (.pointer (some ad3))).run Try.prog w' = .ok (.agg #[.bool b0, .bool b1, .bool b2, .bool b3, .bool b4, .bool b5, .bool b6, .bool b7, .bool b8, .bool b9, .bool b10, .bool b11]) w') (ds := [16]) #[false, false, false, false, false, false, false, false, false, false, false, false, false, false, false, false, false, false] (by kernel_rfl) rfl rfl ⟨(zq4 BK.out 0).trans rfl, (zq4 BK.out 1).trans rfl, (zq4 BK.out 2).trans rfl, (zq4 BK.out 3).trans rfl, (zq4 BK.out 4).trans rfl, HL1.out _ hB10.out, HL2.out _ hB10.out, HL3.out _ hB10.out⟩ (fun hHeld => ?_)
  clear hl1 hl2 hl3
  refine zqp (i := 0) (N := (some 18)) (v := ?_) (a' := ?_) #[true, false, false, false, false, false, false, false, false, false, false, false, false, false, false, false, false, false] rfl rfl (by kernel_rfl) (fun _ _ _ h => h) (Or.inl ⟨by rfl, ?_⟩) ?_ ?_
  rotate_left
  · intro w'
    go_simp
    with_reducible rfl
  rotate_left
  · simp only [Act.put, List.setIfInBounds_toArray, List.set_cons_zero, List.set_cons_succ]
    rfl
  refine zqt (i := 1) (N := (some 19)) (v := ?_) (a' := ?_) #[true, true, false, false, false, false, false, false, false, false, false, false, false, false, false, false, false, false] rfl rfl (by kernel_rfl) (fun _ _ _ h => h) (Or.inl ⟨by rfl, ?_⟩) hHeld ?_ ?_
  rotate_left
  · intro w' hS_
    obtain ⟨s0_, s1_, s2_, s3_, s4_, t1_, t2_, t3_⟩ := hS_
    clear t1_ t2_ t3_
    go_simp
    with_reducible rfl
  rotate_left
  · simp only [Act.put, List.setIfInBounds_toArray, List.set_cons_zero, List.set_cons_succ]
    rfl
  refine zqp (i := 2) (N := (some 20)) (v := ?_) (a' := ?_) #[true, true, true, false, false, false, false, false, false, false, false, false, false, false, false, false, false, false] rfl rfl (by kernel_rfl) (fun _ _ _ h => h) (Or.inl ⟨by rfl, ?_⟩) ?_ ?_
  rotate_left
  · intro w'
    go_simp
    with_reducible rfl
  rotate_left
  · simp only [Act.put, List.setIfInBounds_toArray, List.set_cons_zero, List.set_cons_succ]
    rfl
  refine zqt (i := 3) (N := (some 21)) (v := ?_) (a' := ?_) #[true, true, true, true, false, false, false, false, false, false, false, false, false, false, false, false, false, false] rfl rfl (by kernel_rfl) (fun _ _ _ h => h) (Or.inl ⟨by rfl, ?_⟩) hHeld ?_ ?_
  rotate_left
  · intro w' hS_
    obtain ⟨s0_, s1_, s2_, s3_, s4_, t1_, t2_, t3_⟩ := hS_
    clear t1_ t2_ t3_
    go_simp
    with_reducible rfl
  rotate_left
  · simp only [Act.put, List.setIfInBounds_toArray, List.set_cons_zero, List.set_cons_succ]
    rfl
  refine zqp (i := 4) (N := (some 22)) (v := ?_) (a' := ?_) #[true, true, true, true, true, false, false, false, false, false, false, false, false, false, false, false, false, false] rfl rfl (by kernel_rfl) (fun _ _ _ h => h) (Or.inl ⟨by rfl, ?_⟩) ?_ ?_
  rotate_left
  · intro w'
    go_simp
    rw [run_arrayAt Try.underlying73 _ _ _ (by decide)]
    rfl
  rotate_left
  · simp only [Act.put, List.setIfInBounds_toArray, List.set_cons_zero, List.set_cons_succ]
    rfl
  refine zqt (i := 5) (N := (some 23)) (v := .agg #[.bool b0, .bool b1, .bool b2, .bool b3, .bool b4, .bool b5, .bool b6, .bool b7, .bool b8, .bool b9, .bool b10, .bool b11]) (a' := ?_) #[true, true, true, true, true, true, false, false, false, false, false, false, false, false, false, false, false, false] rfl rfl (by kernel_rfl) (fun _ _ _ h => h) (Or.inl ⟨by rfl, fun w' hS_ => yields_load 73 (.tmp 22) rfl ad3 rfl _ hS_.2.2.2.2.2.2.2⟩) hHeld ?_ ?_
  rotate_left
  · simp only [Act.put, List.setIfInBounds_toArray, List.set_cons_zero, List.set_cons_succ]
    rfl
  refine zqp (i := 6) (N := (some 24)) (v := ?_) (a' := ?_) #[true, true, true, true, true, true, true, false, false, false, false, false, false, false, false, false, false, false] rfl rfl (by kernel_rfl) (fun _ _ _ h => h) (Or.inl ⟨by rfl, ?_⟩) ?_ ?_
  rotate_left
  · intro w'
    have hu73 := Try.underlying73
    have hu75 := Try.underlying75
    go_simp
    with_reducible rfl
  rotate_left
  · simp only [Act.put, List.setIfInBounds_toArray, List.set_cons_zero, List.set_cons_succ]
    rfl
  refine zqp (i := 7) (N := (some 25)) (v := ?_) (a' := ?_) #[true, true, true, true, true, true, true, true, false, false, false, false, false, false, false, false, false, false] rfl rfl (by kernel_rfl) (fun _ _ _ h => h) (Or.inl ⟨by rfl, ?_⟩) ?_ ?_
  rotate_left
  · intro w'
    go_simp
    with_reducible rfl
  rotate_left
  · simp only [Act.put, List.setIfInBounds_toArray, List.set_cons_zero, List.set_cons_succ]
    rfl
  refine zqt (i := 8) (N := (some 26)) (v := ?_) (a' := ?_) #[true, true, true, true, true, true, true, true, true, false, false, false, false, false, false, false, false, false] rfl rfl (by kernel_rfl) (fun _ _ _ h => h) (Or.inl ⟨by rfl, ?_⟩) hHeld ?_ ?_
  rotate_left
  · intro w' hS_
    obtain ⟨s0_, s1_, s2_, s3_, s4_, t1_, t2_, t3_⟩ := hS_
    clear t1_ t2_ t3_
    go_simp
    with_reducible rfl
  rotate_left
  · simp only [Act.put, List.setIfInBounds_toArray, List.set_cons_zero, List.set_cons_succ]
    rfl
  refine zqp (i := 9) (N := (some 27)) (v := ?_) (a' := ?_) #[true, true, true, true, true, true, true, true, true, true, false, false, false, false, false, false, false, false] rfl rfl (by kernel_rfl) (fun _ _ _ h => h) (Or.inl ⟨by rfl, ?_⟩) ?_ ?_
  rotate_left
  · intro w'
    go_simp
    rw [run_arrayAt Try.underlying76 _ _ _ (by decide)]
    rfl
  rotate_left
  · simp only [Act.put, List.setIfInBounds_toArray, List.set_cons_zero, List.set_cons_succ]
    rfl
  refine zqt (i := 10) (N := (some 28)) (v := .agg #[.string s0, .string s1, .string s2, .string s3, .string s4, .string s5, .string s6, .string s7, .string s8, .string s9, .string s10, .string s11]) (a' := ?_) #[true, true, true, true, true, true, true, true, true, true, true, false, false, false, false, false, false, false] rfl rfl (by kernel_rfl) (fun _ _ _ h => h) (Or.inl ⟨by rfl, fun w' hS_ => yields_load 76 (.tmp 27) rfl ad1 rfl _ hS_.2.2.2.2.2.1⟩) hHeld ?_ ?_
  rotate_left
  · simp only [Act.put, List.setIfInBounds_toArray, List.set_cons_zero, List.set_cons_succ]
    rfl
  refine zqp (i := 11) (N := (some 29)) (v := ?_) (a' := ?_) #[true, true, true, true, true, true, true, true, true, true, true, true, false, false, false, false, false, false] rfl rfl (by kernel_rfl) (fun _ _ _ h => h) (Or.inl ⟨by rfl, ?_⟩) ?_ ?_
  rotate_left
  · intro w'
    go_simp
    with_reducible rfl
  rotate_left
  · simp only [Act.put, List.setIfInBounds_toArray, List.set_cons_zero, List.set_cons_succ]
    rfl
  refine zqt (i := 12) (N := (some 30)) (v := ?_) (a' := ?_) #[true, true, true, true, true, true, true, true, true, true, true, true, true, false, false, false, false, false] rfl rfl (by kernel_rfl) (fun _ _ _ h => h) (Or.inl ⟨by rfl, ?_⟩) hHeld ?_ ?_
  rotate_left
  · intro w' hS_
    obtain ⟨s0_, s1_, s2_, s3_, s4_, t1_, t2_, t3_⟩ := hS_
    clear t1_ t2_ t3_
    go_simp
    with_reducible rfl
  rotate_left
  · simp only [Act.put, List.setIfInBounds_toArray, List.set_cons_zero, List.set_cons_succ]
    rfl
  refine zqp (i := 13) (N := (some 31)) (v := ?_) (a' := ?_) #[true, true, true, true, true, true, true, true, true, true, true, true, true, true, false, false, false, false] rfl rfl (by kernel_rfl) (fun _ _ _ h => h) (Or.inl ⟨by rfl, ?_⟩) ?_ ?_
  rotate_left
  · intro w'
    go_simp
    rw [run_arrayAt Try.underlying77 _ _ _ (by decide)]
    rfl
  rotate_left
  · simp only [Act.put, List.setIfInBounds_toArray, List.set_cons_zero, List.set_cons_succ]
    rfl
  refine zqt (i := 14) (N := (some 32)) (v := .agg #[.string r0, .string r1]) (a' := ?_) #[true, true, true, true, true, true, true, true, true, true, true, true, true, true, true, false, false, false] rfl rfl (by kernel_rfl) (fun _ _ _ h => h) (Or.inl ⟨by rfl, fun w' hS_ => yields_load 77 (.tmp 31) rfl ad2 rfl _ hS_.2.2.2.2.2.2.1⟩) hHeld ?_ ?_
  rotate_left
  · simp only [Act.put, List.setIfInBounds_toArray, List.set_cons_zero, List.set_cons_succ]
    rfl
  refine zqp (i := 15) (N := (some 33)) (v := ?_) (a' := ?_) #[true, true, true, true, true, true, true, true, true, true, true, true, true, true, true, true, false, false] rfl rfl (by kernel_rfl) (fun _ _ _ h => h) (Or.inl ⟨by rfl, ?_⟩) ?_ ?_
  rotate_left
  · intro w'
    have hu80 := Try.underlying80
    go_simp
    with_reducible rfl
  rotate_left
  · simp only [Act.put, List.setIfInBounds_toArray, List.set_cons_zero, List.set_cons_succ]
    rfl
  refine last_ (i := 16) (N := (some 34)) #[true, true, true, true, true, true, true, true, true, true, true, true, true, true, true, true, true, false] rfl rfl (by kernel_rfl) (by decide) (fun K hK => ?_)
  refine box_step (by rfl) (N := 34) rfl (cs := #[.int .i64 st, .bool b0, .bool b1, .bool b2, .bool b3, .bool b4, .bool b5, .bool b6, .bool b7, .bool b8, .bool b9, .bool b10, .bool b11, .string s0, .string s1, .string s2, .string s3, .string s4, .string s5, .string s6, .string s7, .string s8, .string s9, .string s10, .string s11, .string r0, .string r1, .pointer none]) (t := 80) ?hr ?_
  case hr => first | (go_simp; done) | (go_simp; rfl)
  intro gd hg w11 hbox hb
  have HGG := Az.mk hg
  clear hg
  refine hK.out _ _ ?_
  clear hK K
  refine zqp (i := 17) (N := (some 4)) (v := ?_) (a' := ?_) #[true, true, true, true, true, true, true, true, true, true, true, true, true, true, true, true, true, true] rfl rfl (by kernel_rfl) (fun _ _ _ h => h) (Or.inl ⟨by rfl, ?_⟩) ?_ ?_
  rotate_left
  · intro w'
    go_simp
    with_reducible rfl
  rotate_left
  · simp only [Act.put, List.setIfInBounds_toArray, List.set_cons_zero, List.set_cons_succ]
    rfl
  refine done_ (by kernel_rfl) ?_
  have HD : Az (Drv w11 gd st sp sl rg []) := ⟨⟨by rw [hbox, ESL.out, ERG.out, ESP.out]; rfl, trivial, HSH.out.2.2.2.1, HSH.out.2.1, HSH.out.2.2.1⟩⟩
  have HGD : Az (w.heap.size ≤ gd) := ⟨by rw [HGG.out]; exact hB10.out.size⟩
  have n0_ := Az.mk (below_step hB10.out hb)
  have n1_ := Az.mk (blk_below (g := gb) (o := .cells #[.int .i64 st, .slice (some ad1) 12 c1, .slice (some ad2) 2 c2, .slice (some ad3) 12 c3, .slice A4 wt.length c4] 28 (0, 0)) (by (with_reducible repeat (first | refine zq6 ?_ _ | refine zq8 ?_ | refine zq7 ?_ _)); exact BK.out) hb)
  clear HB BK hHeld
  have HB := n0_
  have BK := n1_
  clear n0_ n1_ hb hbox HGG hB10
  have hcz_0 : w11.cell? ⟨gb, 0, none⟩ = some (.int .i64 st) := (zq4 BK.out 0).trans rfl; have hcz_1 : w11.cell? ⟨gb, 1, none⟩ = some (.slice (some ad1) 12 c1) := (zq4 BK.out 1).trans rfl; have hcz_2 : w11.cell? ⟨gb, 2, none⟩ = some (.slice (some ad2) 2 c2) := (zq4 BK.out 2).trans rfl; have hcz_3 : w11.cell? ⟨gb, 3, none⟩ = some (.slice (some ad3) 12 c3) := (zq4 BK.out 3).trans rfl; have hcz_4 : w11.cell? ⟨gb, 4, none⟩ = some (.slice A4 wt.length c4) := (zq4 BK.out 4).trans rfl
  go_wp2
  go_loopg [38] 12 (fun kq v38 w' => ∃ (i : Nat), v38 = .int .i64 (i : Int) ∧ Az (i + kq = 12) ∧ Az (∀ j, j < i → badSlot (sl.getD j ByteArray.empty) (sp.getD j false) = false) ∧ Az (Below w.heap.size w w') ∧ Az (w'.heap[gb]? = some (.cells #[.int .i64 st, .slice (some ad1) 12 c1, .slice (some ad2) 2 c2, .slice (some ad3) 12 c3, .slice A4 wt.length c4] 28 (0, 0))) ∧ Az (Drv w' gd st sp sl rg []))
  case atStart => exact ⟨0, rfl, ⟨Nat.zero_add _⟩, ⟨fun j hj => by omega⟩, ⟨(by repeat (first | (with_reducible first | exact HB.out | apply zq2 | apply zq1 | apply zqd) | exact HB.out))⟩, ⟨by (with_reducible repeat (first | refine zq6 ?_ _ | refine zq8 ?_ | refine zq7 ?_ _)); exact BK.out⟩, ⟨by (with_reducible repeat (first | refine drv_drewN ?_ _ | refine drv_drew ?_)); exact HD.out⟩⟩
  case round =>
    obtain ⟨i, rfl, HI, HF, HB, BK, HD⟩ := hrel
    have hcz_0 : wr.cell? ⟨gb, 0, none⟩ = some (.int .i64 st) := (zq4 BK.out 0).trans rfl; have hcz_1 : wr.cell? ⟨gb, 1, none⟩ = some (.slice (some ad1) 12 c1) := (zq4 BK.out 1).trans rfl; have hcz_2 : wr.cell? ⟨gb, 2, none⟩ = some (.slice (some ad2) 2 c2) := (zq4 BK.out 2).trans rfl; have hcz_3 : wr.cell? ⟨gb, 3, none⟩ = some (.slice (some ad3) 12 c3) := (zq4 BK.out 3).trans rfl; have hcz_4 : wr.cell? ⟨gb, 4, none⟩ = some (.slice A4 wt.length c4) := (zq4 BK.out 4).trans rfl
    by_cases c1 : i < 12
    · have c1b0 : decide ((i : Int) < 12) = true := decide_eq_true (by omega)
      have p1 : (0 : Int) ≤ (i : Int) := by omega
      have q1 : (i : Int) < ((12 : Nat) : Int) := by omega
      have HWR := Az.mk (show wrap64 ((i : Int) + 1) = ((i + 1 : Nat) : Int) by unfold wrap64; omega)
      have HC1 := Az.mk c1
      obtain ⟨ad, e1, hx_0⟩ := Kd.at_string HR1.out (i : Int) p1 q1
      cases e1
      obtain ⟨ad, e1, hy_0⟩ := Kd.at_bool HR3.out (i : Int) p1 q1
      cases e1
      simp only [Int.toNat_natCast, rdOf] at hx_0 hy_0
      replace hx_0 := (HB.out.cell (World.block_lt_of_cell? w _ hx_0)).trans hx_0
      replace hy_0 := (HB.out.cell (World.block_lt_of_cell? w _ hy_0)).trans hy_0
      replace p1 := eq_true p1
      replace q1 := eq_true q1
      have q2 := eq_true (show (i : Int) < 12 by omega)
      clear c1
      obtain ⟨x, hE⟩ : ∃ x, x = sl.getD i ByteArray.empty := ⟨_, rfl⟩
      rw [← hE] at hx_0
      have HE := Az.mk hE
      clear hE
      obtain ⟨y, hE⟩ : ∃ y, y = sp.getD i false := ⟨_, rfl⟩
      rw [← hE] at hy_0
      have HY := Az.mk hE
      clear hE
      have HNB : badSlot x y = false → Az (∀ j, j < i + 1 → badSlot (sl.getD j ByteArray.empty) (sp.getD j false) = false) := fun h => ⟨fun j hj => by
          by_cases e : j = i
          · rw [e, ← HE.out, ← HY.out]; exact h
          · exact HF.out j (by omega)⟩
      have HBG : badSlot x y = true → Az (¬ Good st sl rg sp wt) := fun h => ⟨fun hg => by
          have := hg.so i HC1.out
          rw [← HE.out, ← HY.out, h] at this
          cases this⟩
      by_cases hx0 : x.size = 0
      · obtain rfl : x = ByteArray.empty := ByteArray.ext (Array.eq_empty_of_size_eq_zero hx0)
        clear hx0
        cases y with
        | true =>
          have HN := HBG rfl
          clear HBG HNB
          go_wp2
          go_ret2
          exact Or.inl ⟨HN.out, rfl, (by repeat (first | (with_reducible first | exact HB.out | apply zq2 | apply zq1 | apply zqd) | exact HB.out))⟩
        | false =>
          have HF1 := HNB rfl
          clear HBG HNB
          go_wp2
          go_roundg (gk - 1)
          case measure => have := HI.out; have := HC1.out; omega
          case rel => exact ⟨i + 1, by rw [← HWR.out], ⟨by have := HI.out; have := HC1.out; omega⟩, HF1, ⟨(by repeat (first | (with_reducible first | exact HB.out | apply zq2 | apply zq1 | apply zqd) | exact HB.out))⟩, ⟨by (with_reducible repeat (first | refine zq6 ?_ _ | refine zq8 ?_ | refine zq7 ?_ _)); exact BK.out⟩, ⟨by (with_reducible repeat (first | refine drv_drewN ?_ _ | refine drv_drew ?_)); exact HD.out⟩⟩
      · have hz := Az.mk hx0
        have hx1 : x.toList ≠ [] := fun h => hx0 (by rw [← ByteArray.size_toList_x, h]; rfl)
        clear hx0
        by_cases hx3 : x.size = 3
        · have HF1 := HNB (by unfold badSlot; rw [if_neg hz.out]; exact decide_eq_false (by omega))
          clear HBG HNB
          have hx3 : ((x.size : Int) == 3) = true := by rw [beq_iff_eq]; omega
          go_wp2_with (first | (go_at_call 94; refine (impl_isColumn.calls x _ _ rfl).mono ?_; rintro e w9 ⟨rfl, ⟨nd, rfl⟩⟩; rw [hx3]))
          go_roundg (gk - 1)
          case measure => have := HI.out; have := HC1.out; omega
          case rel => exact ⟨i + 1, by rw [← HWR.out], ⟨by have := HI.out; have := HC1.out; omega⟩, HF1, ⟨(by repeat (first | (with_reducible first | exact HB.out | apply zq2 | apply zq1 | apply zqd) | exact HB.out))⟩, ⟨by (with_reducible repeat (first | refine zq6 ?_ _ | refine zq8 ?_ | refine zq7 ?_ _)); exact BK.out⟩, ⟨by (with_reducible repeat (first | refine drv_drewN ?_ _ | refine drv_drew ?_)); exact HD.out⟩⟩
        · have HN := HBG (by unfold badSlot; rw [if_neg hz.out]; exact decide_eq_true hx3)
          clear HBG HNB
          have hx3 : ((x.size : Int) == 3) = false := by rw [beq_eq_false_iff_ne]; omega
          go_wp2_with (first | (go_at_call 94; refine (impl_isColumn.calls x _ _ rfl).mono ?_; rintro e w9 ⟨rfl, ⟨nd, rfl⟩⟩; rw [hx3]))
          go_ret2
          exact Or.inl ⟨HN.out, rfl, (by repeat (first | (with_reducible first | exact HB.out | apply zq2 | apply zq1 | apply zqd) | exact HB.out))⟩
    · have c1b0 : decide ((i : Int) < 12) = false := decide_eq_false (by omega)
      have HSO : Az (∀ j, j < 12 → badSlot (sl.getD j ByteArray.empty) (sp.getD j false) = false) := ⟨fun j hj => HF.out j (by omega)⟩
      clear c1 HF
      by_cases hrg : rg.any (fun x : ByteArray => decide ((x.size : Int) > 700)) = true
      · have HN : Az (¬ Good st sl rg sp wt) := ⟨fun hg => by have := hg.ro; rw [hrg] at this; cases this⟩
        have HRG := Az.mk hrg
        clear hrg
        go_wp2_with (first | (go_at_call 95; refine (HG.out _ (by repeat (first | (with_reducible first | exact HB.out | apply zq2 | apply zq1 | apply zqd) | exact HB.out))).mono ?_; rintro e w12 ⟨rfl, hb⟩; rw [HRG.out]; have n0_ := Az.mk (below_step (by repeat (first | (with_reducible first | exact HB.out | apply zq2 | apply zq1 | apply zqd) | exact HB.out)) hb); have n1_ := Az.mk (blk_below (g := gb) (o := .cells #[.int .i64 st, .slice (some ad1) 12 c1, .slice (some ad2) 2 c2, .slice (some ad3) 12 c3, .slice A4 wt.length c4] 28 (0, 0)) (by (with_reducible repeat (first | refine zq6 ?_ _ | refine zq8 ?_ | refine zq7 ?_ _)); exact BK.out) hb); have n2_ := Az.mk (Drv.below (g := gd) (st := st) (sp := sp) (sl := sl) (rg := rg) (ns := []) (by (with_reducible repeat (first | refine drv_drewN ?_ _ | refine drv_drew ?_)); exact HD.out) hb); clear HB BK HD; have HB := n0_; have BK := n1_; have HD := n2_; clear n0_ n1_ n2_ hb; have hcz_0 : w12.cell? ⟨gb, 0, none⟩ = some (.int .i64 st) := (zq4 BK.out 0).trans rfl; have hcz_1 : w12.cell? ⟨gb, 1, none⟩ = some (.slice (some ad1) 12 c1) := (zq4 BK.out 1).trans rfl; have hcz_2 : w12.cell? ⟨gb, 2, none⟩ = some (.slice (some ad2) 2 c2) := (zq4 BK.out 2).trans rfl; have hcz_3 : w12.cell? ⟨gb, 3, none⟩ = some (.slice (some ad3) 12 c3) := (zq4 BK.out 3).trans rfl; have hcz_4 : w12.cell? ⟨gb, 4, none⟩ = some (.slice A4 wt.length c4) := (zq4 BK.out 4).trans rfl))
        go_ret2
        exact Or.inl ⟨HN.out, rfl, (by repeat (first | (with_reducible first | exact HB.out | apply zq2 | apply zq1 | apply zqd) | exact HB.out))⟩
      · have HRG : Az (rg.any (fun x : ByteArray => decide ((x.size : Int) > 700)) = false) := ⟨by simpa using hrg⟩
        clear hrg
        go_upto_region 12 with (first | (go_at_call 95; refine (HG.out _ (by repeat (first | (with_reducible first | exact HB.out | apply zq2 | apply zq1 | apply zqd) | exact HB.out))).mono ?_; rintro e w12 ⟨rfl, hb⟩; rw [HRG.out]; have n0_ := Az.mk (below_step (by repeat (first | (with_reducible first | exact HB.out | apply zq2 | apply zq1 | apply zqd) | exact HB.out)) hb); have n1_ := Az.mk (blk_below (g := gb) (o := .cells #[.int .i64 st, .slice (some ad1) 12 c1, .slice (some ad2) 2 c2, .slice (some ad3) 12 c3, .slice A4 wt.length c4] 28 (0, 0)) (by (with_reducible repeat (first | refine zq6 ?_ _ | refine zq8 ?_ | refine zq7 ?_ _)); exact BK.out) hb); have n2_ := Az.mk (Drv.below (g := gd) (st := st) (sp := sp) (sl := sl) (rg := rg) (ns := []) (by (with_reducible repeat (first | refine drv_drewN ?_ _ | refine drv_drew ?_)); exact HD.out) hb); clear HB BK HD; have HB := n0_; have BK := n1_; have HD := n2_; clear n0_ n1_ n2_ hb; have hcz_0 : w12.cell? ⟨gb, 0, none⟩ = some (.int .i64 st) := (zq4 BK.out 0).trans rfl; have hcz_1 : w12.cell? ⟨gb, 1, none⟩ = some (.slice (some ad1) 12 c1) := (zq4 BK.out 1).trans rfl; have hcz_2 : w12.cell? ⟨gb, 2, none⟩ = some (.slice (some ad2) 2 c2) := (zq4 BK.out 2).trans rfl; have hcz_3 : w12.cell? ⟨gb, 3, none⟩ = some (.slice (some ad3) 12 c3) := (zq4 BK.out 3).trans rfl; have hcz_4 : w12.cell? ⟨gb, 4, none⟩ = some (.slice A4 wt.length c4) := (zq4 BK.out 4).trans rfl))
        (try simp only [Act.put, List.setIfInBounds_toArray, List.set_cons_zero, List.set_cons_succ])
        go_cut [89] (fun v89 wc => ∃ b : Bool, v89 = .bool b ∧ Az (b = true → ¬ Good st sl rg sp wt) ∧ Az (b = false → Good st sl rg sp wt) ∧ Az (Below w.heap.size w wc) ∧ Az (wc.heap[gb]? = some (.cells #[.int .i64 st, .slice (some ad1) 12 c1, .slice (some ad2) 2 c2, .slice (some ad3) 12 c3, .slice A4 wt.length c4] 28 (0, 0))) ∧ Az (Drv wc gd st sp sl rg []))
        case first =>
          by_cases hst : st = 1
          · subst hst
            have hl1 : ∀ W : World, Drv W gd 1 sp sl rg [] → (Instr.loadAt 76 (.pointer (some ⟨gd, 13, none⟩))).run Try.prog W = .ok (.agg #[.string s0, .string s1, .string s2, .string s3, .string s4, .string s5, .string s6, .string s7, .string s8, .string s9, .string s10, .string s11]) W := fun W h => (by have := drv_load h (o := 13) (l := sl) (ty := 76) (fun i hi => by rw [zq4 h.blk]; exact dc_sl h.lsp h.lsl (by rw [ESL.out] at hi; exact hi)) Try.underlying76 rfl (by rw [ESL.out]; kernel_rfl); rw [ESL.out] at this; exact this)
            have hl2 : ∀ W : World, Drv W gd 1 sp sl rg [] → (Instr.loadAt 77 (.pointer (some ⟨gd, 25, none⟩))).run Try.prog W = .ok (.agg #[.string r0, .string r1]) W := fun W h => (by have := drv_load h (o := 25) (l := rg) (ty := 77) (fun i hi => by rw [zq4 h.blk]; exact dc_rg h.lsp h.lsl h.lrg (by rw [ERG.out] at hi; exact hi)) Try.underlying77 rfl (by rw [ERG.out]; kernel_rfl); rw [ERG.out] at this; exact this)
            have HL4 := Az.mk (hl1 _ HD.out)
            have HL5 := Az.mk (hl2 _ HD.out)
            have he1 : ∀ W : World, (Op.equalIn 10000 76 (.agg #[.string s0, .string s1, .string s2, .string s3, .string s4, .string s5, .string s6, .string s7, .string s8, .string s9, .string s10, .string s11]) (.agg #[.string ByteArray.empty, .string ByteArray.empty, .string ByteArray.empty, .string ByteArray.empty, .string ByteArray.empty, .string ByteArray.empty, .string ByteArray.empty, .string ByteArray.empty, .string ByteArray.empty, .string ByteArray.empty, .string ByteArray.empty, .string ByteArray.empty])).run Try.prog W = .ok (sl.all fun s => s.size == 0) W := fun W => by
              have := equal_strs (P := Try.prog) (t := 76) (e := 9) (n := 12) Try.underlying76 Try.underlying9 (by kernel_rfl) W sl HSH.out.2.1
              rw [ESL.out] at this ⊢
              exact this
            have he2 : ∀ W : World, (Op.equalIn 10000 77 (.agg #[.string r0, .string r1]) (.agg #[.string ByteArray.empty, .string ByteArray.empty])).run Try.prog W = .ok (rg.all fun s => s.size == 0) W := fun W => by
              have := equal_strs (P := Try.prog) (t := 77) (e := 9) (n := 2) Try.underlying77 Try.underlying9 (by kernel_rfl) W rg HSH.out.2.2.1
              rw [ERG.out] at this ⊢
              exact this
            have HE1 := Az.mk he1
            have HE2 := Az.mk he2
            clear hl1 hl2 he1 he2
            by_cases hz1 : sl.all (fun s => s.size == 0) = true
            · rw [hz1] at HE1
              have HZ1 := Az.mk hz1
              clear hz1
              by_cases hz2 : rg.all (fun s => s.size == 0) = true
              · rw [hz2] at HE2
                have HZ2 := Az.mk hz2
                clear hz2
                by_cases hz3 : wt.length = 0
                · have hz4 : decide ((wt.length : Int) > 0) = false := decide_eq_false (by omega)
                  have HZ3 := Az.mk hz3
                  clear hz3
                  go_wp2_with (first | ((refine gate_guard (by rfl) ?_); dsimp only; refine load_ev rfl rfl (.agg #[.string s0, .string s1, .string s2, .string s3, .string s4, .string s5, .string s6, .string s7, .string s8, .string s9, .string s10, .string s11]) HL4.out rfl ?_) | ((refine gate_guard (by rfl) ?_); dsimp only; refine neq_ev (t := 76) rfl rfl rfl rfl (by kernel_rfl) (HE1.out _) ?_) | ((refine gate_guard (by rfl) ?_); dsimp only; refine load_ev rfl rfl (.agg #[.string r0, .string r1]) HL5.out rfl ?_) | ((refine gate_guard (by rfl) ?_); dsimp only; refine neq_ev (t := 77) rfl rfl rfl rfl (by kernel_rfl) (HE2.out _) ?_))
                  go_meet
                  case rel => exact ⟨false, by rw [decide_eq_false (by have := HZ3.out; omega)], ⟨fun h => by cases h⟩, ⟨fun _ => ⟨HSH.out, HWA.out, HSO.out, HRG.out, fun _ => ⟨HZ1.out, HZ2.out, HZ3.out⟩⟩⟩, ⟨(by repeat (first | (with_reducible first | exact HB.out | apply zq2 | apply zq1 | apply zqd) | exact HB.out))⟩, ⟨by (with_reducible repeat (first | refine zq6 ?_ _ | refine zq8 ?_ | refine zq7 ?_ _)); exact BK.out⟩, ⟨by (with_reducible repeat (first | refine drv_drewN ?_ _ | refine drv_drew ?_)); exact HD.out⟩⟩
                · have hz4 : decide ((wt.length : Int) > 0) = true := decide_eq_true (by omega)
                  have HZ3 := Az.mk hz3
                  clear hz3
                  go_wp2_with (first | ((refine gate_guard (by rfl) ?_); dsimp only; refine load_ev rfl rfl (.agg #[.string s0, .string s1, .string s2, .string s3, .string s4, .string s5, .string s6, .string s7, .string s8, .string s9, .string s10, .string s11]) HL4.out rfl ?_) | ((refine gate_guard (by rfl) ?_); dsimp only; refine neq_ev (t := 76) rfl rfl rfl rfl (by kernel_rfl) (HE1.out _) ?_) | ((refine gate_guard (by rfl) ?_); dsimp only; refine load_ev rfl rfl (.agg #[.string r0, .string r1]) HL5.out rfl ?_) | ((refine gate_guard (by rfl) ?_); dsimp only; refine neq_ev (t := 77) rfl rfl rfl rfl (by kernel_rfl) (HE2.out _) ?_))
                  go_meet
                  case rel => exact ⟨true, by rw [decide_eq_true (by have := HZ3.out; omega)], ⟨fun _ hg => HZ3.out (hg.go rfl).2.2⟩, ⟨fun h => by cases h⟩, ⟨(by repeat (first | (with_reducible first | exact HB.out | apply zq2 | apply zq1 | apply zqd) | exact HB.out))⟩, ⟨by (with_reducible repeat (first | refine zq6 ?_ _ | refine zq8 ?_ | refine zq7 ?_ _)); exact BK.out⟩, ⟨by (with_reducible repeat (first | refine drv_drewN ?_ _ | refine drv_drew ?_)); exact HD.out⟩⟩
              · have hz2 : rg.all (fun s => s.size == 0) = false := by simpa using hz2
                rw [hz2] at HE2
                have HZ2 := Az.mk hz2
                clear hz2
                go_wp2_with (first | ((refine gate_guard (by rfl) ?_); dsimp only; refine load_ev rfl rfl (.agg #[.string s0, .string s1, .string s2, .string s3, .string s4, .string s5, .string s6, .string s7, .string s8, .string s9, .string s10, .string s11]) HL4.out rfl ?_) | ((refine gate_guard (by rfl) ?_); dsimp only; refine neq_ev (t := 76) rfl rfl rfl rfl (by kernel_rfl) (HE1.out _) ?_) | ((refine gate_guard (by rfl) ?_); dsimp only; refine load_ev rfl rfl (.agg #[.string r0, .string r1]) HL5.out rfl ?_) | ((refine gate_guard (by rfl) ?_); dsimp only; refine neq_ev (t := 77) rfl rfl rfl rfl (by kernel_rfl) (HE2.out _) ?_))
                go_meet
                case rel => exact ⟨true, rfl, ⟨fun _ hg => by have := (hg.go rfl).2.1; rw [HZ2.out] at this; cases this⟩, ⟨fun h => by cases h⟩, ⟨(by repeat (first | (with_reducible first | exact HB.out | apply zq2 | apply zq1 | apply zqd) | exact HB.out))⟩, ⟨by (with_reducible repeat (first | refine zq6 ?_ _ | refine zq8 ?_ | refine zq7 ?_ _)); exact BK.out⟩, ⟨by (with_reducible repeat (first | refine drv_drewN ?_ _ | refine drv_drew ?_)); exact HD.out⟩⟩
            · have hz1 : sl.all (fun s => s.size == 0) = false := by simpa using hz1
              rw [hz1] at HE1
              have HZ1 := Az.mk hz1
              clear hz1
              go_wp2_with (first | ((refine gate_guard (by rfl) ?_); dsimp only; refine load_ev rfl rfl (.agg #[.string s0, .string s1, .string s2, .string s3, .string s4, .string s5, .string s6, .string s7, .string s8, .string s9, .string s10, .string s11]) HL4.out rfl ?_) | ((refine gate_guard (by rfl) ?_); dsimp only; refine neq_ev (t := 76) rfl rfl rfl rfl (by kernel_rfl) (HE1.out _) ?_))
              go_meet
              case rel => exact ⟨true, rfl, ⟨fun _ hg => by have := (hg.go rfl).1; rw [HZ1.out] at this; cases this⟩, ⟨fun h => by cases h⟩, ⟨(by repeat (first | (with_reducible first | exact HB.out | apply zq2 | apply zq1 | apply zqd) | exact HB.out))⟩, ⟨by (with_reducible repeat (first | refine zq6 ?_ _ | refine zq8 ?_ | refine zq7 ?_ _)); exact BK.out⟩, ⟨by (with_reducible repeat (first | refine drv_drewN ?_ _ | refine drv_drew ?_)); exact HD.out⟩⟩
          · have hst1 : (st == 1) = false := by rw [beq_eq_false_iff_ne]; exact hst
            have HN : Az (Good st sl rg sp wt) := ⟨⟨HSH.out, HWA.out, HSO.out, HRG.out, fun h => absurd h hst⟩⟩
            clear hst
            go_wp2
            go_meet
            case rel => exact ⟨false, rfl, ⟨fun h => by cases h⟩, ⟨fun _ => HN.out⟩, ⟨(by repeat (first | (with_reducible first | exact HB.out | apply zq2 | apply zq1 | apply zqd) | exact HB.out))⟩, ⟨by (with_reducible repeat (first | refine zq6 ?_ _ | refine zq8 ?_ | refine zq7 ?_ _)); exact BK.out⟩, ⟨by (with_reducible repeat (first | refine drv_drewN ?_ _ | refine drv_drew ?_)); exact HD.out⟩⟩
        case rest =>
          obtain ⟨b, rfl, HT, HFA, HB, BK, HD⟩ := hcut
          have hcz_0 : wc.cell? ⟨gb, 0, none⟩ = some (.int .i64 st) := (zq4 BK.out 0).trans rfl; have hcz_1 : wc.cell? ⟨gb, 1, none⟩ = some (.slice (some ad1) 12 c1) := (zq4 BK.out 1).trans rfl; have hcz_2 : wc.cell? ⟨gb, 2, none⟩ = some (.slice (some ad2) 2 c2) := (zq4 BK.out 2).trans rfl; have hcz_3 : wc.cell? ⟨gb, 3, none⟩ = some (.slice (some ad3) 12 c3) := (zq4 BK.out 3).trans rfl; have hcz_4 : wc.cell? ⟨gb, 4, none⟩ = some (.slice A4 wt.length c4) := (zq4 BK.out 4).trans rfl
          cases b with
          | true =>
            have HN := HT.out rfl
            have HN := Az.mk HN
            clear HT HFA
            go_wp2
            go_ret2
            exact Or.inl ⟨HN.out, rfl, (by repeat (first | (with_reducible first | exact HB.out | apply zq2 | apply zq1 | apply zqd) | exact HB.out))⟩
          | false =>
            have HGO := Az.mk (HFA.out rfl)
            clear HT HFA
            go_wp2
            go_loopg [96, 7] wt.length (fun kq v96 v7 w' => ∃ (i : Nat) (ns : List (Nat × Pt)), v96 = .int .i64 (i : Int) ∧ v7 = .pointer (some (linkOf gd ns)) ∧ Az (i + kq = wt.length) ∧ Az (ns.map (·.2) = wt.take i) ∧ Az (Below w.heap.size w w') ∧ Az (Drv w' gd st sp sl rg ns))
            case atStart => exact ⟨0, [], rfl, rfl, ⟨Nat.zero_add _⟩, ⟨rfl⟩, ⟨(by repeat (first | (with_reducible first | exact HB.out | apply zq2 | apply zq1 | apply zqd) | exact HB.out))⟩, ⟨by (with_reducible repeat (first | refine drv_drewN ?_ _ | refine drv_drew ?_)); exact HD.out⟩⟩
            case round =>
              obtain ⟨i, ns, rfl, rfl, HI, HM1, HB, HD⟩ := hrel
              by_cases c1 : i < wt.length
              · have c1b0 : decide ((i : Int) < (wt.length : Int)) = true := decide_eq_true (by omega)
                have p1 : (0 : Int) ≤ (i : Int) := by omega
                have q1 : (i : Int) < (wt.length : Int) := by omega
                have hm := HM.out
                have HWR := Az.mk (show wrap64 ((i : Int) + 1) = ((i + 1 : Nat) : Int) by unfold wrap64; omega)
                have HC1 := Az.mk c1
                clear hm
                obtain ⟨ad, e1, hx_0, hx_1, hx_2⟩ := at_T54 HR4.out (i : Int) p1 q1
                cases e1
                simp only [Int.toNat_natCast, rd_T54] at hx_0 hx_1 hx_2
                replace hx_0 := (HB.out.cell (World.block_lt_of_cell? w _ hx_0)).trans hx_0
                replace hx_1 := (HB.out.cell (World.block_lt_of_cell? w _ hx_1)).trans hx_1
                replace hx_2 := (HB.out.cell (World.block_lt_of_cell? w _ hx_2)).trans hx_2
                replace p1 := eq_true p1
                replace q1 := eq_true q1
                clear c1
                obtain ⟨x, hE⟩ : ∃ x, x = wt.getD i z54 := ⟨_, rfl⟩
                rw [← hE] at hx_0 hx_1 hx_2
                have HE := Az.mk hE
                clear hE
                have hu54 := Try.underlying54
                have hu112 := Try.underlying112
                obtain ⟨lb, lo, hlk0⟩ : ∃ lb lo, (⟨lb, lo, none⟩ : Addr) = linkOf gd ns := by cases ns <;> exact ⟨_, _, rfl⟩
                rw [← hlk0]
                have HLK0 := Az.mk hlk0
                have hlk1 : lb = lastN gd ns := (congrArg Addr.block hlk0).trans (linkOf_block gd ns)
                have HLK := Az.mk hlk1
                clear hlk1
                clear hlk0
                go_wp2_with (first | ((with_reducible refine zqg (N := 9) rfl ?_); refine zqb ?hg (N := 9) ?hd (cs := #[.bool false, .int .i64 0, .string ⟨#[]⟩]) (t := 54) ?hr ?_; (case hd => rfl); (case hg => rfl); (case hr => first | (go_simp; done) | (go_simp; rfl)); intro gp hg w20 hbox hb; have n0_ := Az.mk (below_step (by repeat (first | (with_reducible first | exact HB.out | apply zq2 | apply zq1 | apply zqd) | exact HB.out)) hb); have n2_ := Az.mk (Drv.below (g := gd) (st := st) (sp := sp) (sl := sl) (rg := rg) (ns := ns) (by (with_reducible repeat (first | refine drv_drewN ?_ _ | refine drv_drew ?_)); exact HD.out) hb); have HLP : Az (lastN gd ns < gp) := ⟨by rw [hg]; exact Drv.last_lt (st := st) (sp := sp) (sl := sl) (rg := rg) (by (with_reducible repeat (first | refine drv_drewN ?_ _ | refine drv_drew ?_)); exact HD.out)⟩; have HGP : Az (w.heap.size ≤ gp) := ⟨by rw [hg]; exact (below_size (by repeat (first | (with_reducible first | exact HB.out | apply zq2 | apply zq1 | apply zqd) | exact HB.out)))⟩; clear HB HD; have HB := n0_; have HD := n2_; have BP := Az.mk hbox; clear n0_ n2_ hb hbox hg; have hcp_0 : w20.cell? ⟨gp, 0, none⟩ = some (.bool false) := (zq4 BP.out 0).trans rfl; have hcp_1 : w20.cell? ⟨gp, 1, none⟩ = some (.int .i64 0) := (zq4 BP.out 1).trans rfl; have hcp_2 : w20.cell? ⟨gp, 2, none⟩ = some (.string ⟨#[]⟩) := (zq4 BP.out 2).trans rfl; have hfp_0 := zq5 BP.out 0; have hfp_1 := zq5 BP.out 1; have hfp_2 := zq5 BP.out 2) | ((with_reducible refine zqg (N := 103) rfl ?_); refine zqb ?hg (N := 103) ?hd (cs := #[.bool x.f0, .int .i64 x.f1, .string x.f2, .pointer none]) (t := 112) ?hr ?_; (case hd => rfl); (case hg => rfl); (case hr => first | (go_simp; done) | (go_simp; rfl)); intro gn hg w21 hbox hb; have n0_ := Az.mk (below_step (by repeat (first | (with_reducible first | exact HB.out | apply zq2 | apply zq1 | apply zqd | refine zq3 ?_ HGP.out) | exact HB.out)) hb); have n2_ := Az.mk (Drv.below (g := gd) (st := st) (sp := sp) (sl := sl) (rg := rg) (ns := ns) (by (with_reducible repeat (first | refine drv_drewN ?_ _ | refine drv_drew ?_ | refine Drv.far ?_ HLP.out _)); exact HD.out) hb); have HLN : Az (lastN gd ns < gn) := ⟨by rw [hg]; exact Drv.last_lt (st := st) (sp := sp) (sl := sl) (rg := rg) (by (with_reducible repeat (first | refine drv_drewN ?_ _ | refine drv_drew ?_ | refine Drv.far ?_ HLP.out _)); exact HD.out)⟩; clear HB HD; have HB := n0_; have HD := n2_; have BN : Az (Go.Proofs.Ytkgpnloghmbmlaa.Drv.Node w21 gn x (.pointer none)) := ⟨hbox⟩; clear n0_ n2_ hb hbox hg; have HLB : Az (w.heap.size ≤ lb) := ⟨by rw [HLK.out]; exact Nat.le_trans HGD.out HD.out.seg.le⟩; have hlk : w21.cell? ⟨lb, lo, none⟩ = some (.pointer none) := (HLK0.out.symm ▸ HD.out.linkE); have hlf : w21.frozen? ⟨lb, lo, none⟩ = false := (HLK0.out.symm ▸ HD.out.linkFreeE)))
                go_roundg (gk - 1)
                case measure => have := HI.out; have := HC1.out; omega
                case rel =>
                  exact ⟨i + 1, ns ++ [(gn, x)], by rw [← HWR.out], by rw [linkOf_snoc], ⟨by have := HI.out; have := HC1.out; omega⟩, ⟨by rw [List.map_append, HM1.out, List.take_succ_eq_append_getElem HC1.out]; have h1 := HC1.out; simp [HE.out, List.getD, h1]⟩,
                    ⟨by repeat (first | exact HB.out | refine Below.setCell ?_ HLB.out _ | apply zq1 | apply zqd)⟩, ⟨by (with_reducible repeat (first | refine drv_drewN ?_ _ | refine drv_drew ?_)); rw [HLK0.out]; exact Drv.hang HD.out BN.out HLN.out⟩⟩
              · have c1b0 : decide ((i : Int) < (wt.length : Int)) = false := decide_eq_false (by omega)
                have HI2 : Az (ns.map (·.2) = wt) := ⟨by rw [HM1.out, show i = wt.length by have := HI.out; omega, List.take_length]⟩
                have c1b1 : decide (i < wt.length) = false := decide_eq_false c1
                have c1b2 : ((i : Int) < (wt.length : Int)) = False := eq_false (by omega)
                go_wp2
                go_ret2
                exact Or.inr ⟨HGO.out, gd, ns, rfl, HGD.out, by (with_reducible repeat (first | refine drv_drewN ?_ _ | refine drv_drew ?_)); exact HD.out, HI2.out, (by repeat (first | (with_reducible first | exact HB.out | apply zq2 | apply zq1 | apply zqd) | exact HB.out))⟩
theorem list12 {α : Type} (l : List α) (h : l.length = 12) : ∃ a0 a1 a2 a3 a4 a5 a6 a7 a8 a9 a10 a11, l = [a0, a1, a2, a3, a4, a5, a6, a7, a8, a9, a10, a11] := by
  match l, h with
  | [a0, a1, a2, a3, a4, a5, a6, a7, a8, a9, a10, a11], _ => exact ⟨a0, a1, a2, a3, a4, a5, a6, a7, a8, a9, a10, a11, rfl⟩
theorem list2 {α : Type} (l : List α) (h : l.length = 2) : ∃ a0 a1, l = [a0, a1] := by
  match l, h with
  | [a0, a1], _ => exact ⟨a0, a1, rfl⟩
theorem readDisk_calls (st : Int) (A1 : Option Addr) (c1 : Nat) (sl : List ByteArray) (A2 : Option Addr) (c2 : Nat) (rg : List ByteArray) (A3 : Option Addr) (c3 : Nat) (sp : List Bool) (A4 : Option Addr) (c4 : Nat) (wt : List S54) (w : World) (hr1 : Kd.C Kd.string w A1 sl.length sl) (hc1 : sl.length ≤ c1) (hr2 : Kd.C Kd.string w A2 rg.length rg) (hc2 : rg.length ≤ c2) (hr3 : Kd.C Kd.bool w A3 sp.length sp) (hc3 : sp.length ≤ c3) (hr4 : Kd.C k54 w A4 wt.length wt) (hc4 : wt.length ≤ c4) :
    Calls Try.prog 52 #[.agg #[.int .i64 st, .slice A1 sl.length c1, .slice A2 rg.length c2, .slice A3 sp.length c3, .slice A4 wt.length c4]] w fun e w' => ReadPost st sl rg sp wt w e w' := by
  by_cases hs : Shaped st sl rg sp wt
  · by_cases hw : wt.any (fun x => !putB x) = true
    · refine (readDisk_wait st A1 c1 sl A2 c2 rg A3 c3 sp A4 c4 wt w hr1 hc1 hr2 hc2 hr3 hc3 hr4 hc4 hs hw).mono fun e w' h => Or.inl ⟨fun hg => ?_, h⟩
      have := hg.wa
      rw [hw] at this
      cases this
    · have hw : wt.any (fun x => !putB x) = false := by simpa using hw
      obtain ⟨s0, s1, s2, s3, s4, s5, s6, s7, s8, s9, s10, s11, esl⟩ := list12 sl hs.2.1
      obtain ⟨r0, r1, erg⟩ := list2 rg hs.2.2.1
      obtain ⟨b0, b1, b2, b3, b4, b5, b6, b7, b8, b9, b10, b11, esp⟩ := list12 sp hs.2.2.2.1
      obtain ⟨ad1, rfl, h1⟩ := strs_at hr1 (by rw [hs.2.1]; omega)
      obtain ⟨ad2, rfl, h2⟩ := strs_at hr2 (by rw [hs.2.2.1]; omega)
      obtain ⟨ad3, rfl, h3⟩ := bools_at hr3 (by rw [hs.2.2.2.1]; omega)
      have l1 : ∀ W : World, Below w.heap.size w W → (Instr.loadAt 76 (.pointer (some ad1))).run Try.prog W = .ok (.agg (sl.map Value.string).toArray) W := fun W hb =>
        loadAt_list W ad1 76 _ _ (fun j v hv => (hb.cell (World.block_lt_of_cell? w _ (h1 j v hv))).trans (h1 j v hv)) Try.underlying76 rfl (by rw [List.length_map, hs.2.1]; kernel_rfl)
      have l2 : ∀ W : World, Below w.heap.size w W → (Instr.loadAt 77 (.pointer (some ad2))).run Try.prog W = .ok (.agg (rg.map Value.string).toArray) W := fun W hb =>
        loadAt_list W ad2 77 _ _ (fun j v hv => (hb.cell (World.block_lt_of_cell? w _ (h2 j v hv))).trans (h2 j v hv)) Try.underlying77 rfl (by rw [List.length_map, hs.2.2.1]; kernel_rfl)
      have l3 : ∀ W : World, Below w.heap.size w W → (Instr.loadAt 73 (.pointer (some ad3))).run Try.prog W = .ok (.agg (sp.map Value.bool).toArray) W := fun W hb =>
        loadAt_list W ad3 73 _ _ (fun j v hv => (hb.cell (World.block_lt_of_cell? w _ (h3 j v hv))).trans (h3 j v hv)) Try.underlying73 rfl (by rw [List.length_map, hs.2.2.2.1]; kernel_rfl)
      have cs : ∀ W : World, Below w.heap.size w W → Calls Try.prog 91 #[.agg #[.int .i64 st, .slice (some ad1) 12 c1, .slice (some ad2) 2 c2, .slice (some ad3) 12 c3, .slice A4 wt.length c4]] W fun e w' => e = .returned (.bool true) ∧ Below W.heap.size W w' := fun W hb => by
        have := impl_Disk_shaped.calls st _ _ sl _ _ rg _ _ sp _ _ wt _ W (Kd.C_below hr1 hb) hc1 (Kd.C_below hr2 hb) hc2 (Kd.C_below hr3 hb) hc3 (Kd.C_below hr4 hb) hc4 (shaped_eq st sl rg sp wt)
        rw [decide_eq_true hs, hs.2.1, hs.2.2.1, hs.2.2.2.1] at this
        exact this
      have cw : ∀ W : World, Below w.heap.size w W → Calls Try.prog 92 #[.slice A4 wt.length c4, .func (.func 93) #[] #[]] W fun e w' => e = .returned (.bool false) ∧ Below W.heap.size W w' := fun W hb => by
        have := containsPut A4 c4 wt W (Kd.C_below hr4 hb) hc4
        rw [hw] at this
        exact this
      have cg : ∀ W : World, Below w.heap.size w W → Calls Try.prog 95 #[.slice (some ad2) 2 c2, .func (.func 96) #[] #[]] W fun e w' => e = .returned (.bool (rg.any fun x => decide ((x.size : Int) > 700))) ∧ Below W.heap.size W w' := fun W hb => by
        have := containsText (some ad2) c2 rg W (Kd.C_below hr2 hb) hc2
        rw [hs.2.2.1] at this
        exact this
      have g1 : Kd.C Kd.string w (some ad1) 12 sl := hs.2.1 ▸ hr1
      have g3 : Kd.C Kd.bool w (some ad3) 12 sp := hs.2.2.2.1 ▸ hr3
      rw [hs.2.1, hs.2.2.1, hs.2.2.2.1]
      exact readDisk_main st ad1 ad2 ad3 A4 c1 c2 c3 c4 s0 s1 s2 s3 s4 s5 s6 s7 s8 s9 s10 s11 r0 r1 b0 b1 b2 b3 b4 b5 b6 b7 b8 b9 b10 b11 sl rg sp wt w esl erg esp (by rw [esl] at l1; exact l1) (by rw [erg] at l2; exact l2) (by rw [esp] at l3; exact l3) cs cw cg g1 g3 hr4 hs hw
  · exact (readDisk_shape st A1 c1 sl A2 c2 rg A3 c3 sp A4 c4 wt w hr1 hc1 hr2 hc2 hr3 hc3 hr4 hc4 hs).mono fun e w' h => Or.inl ⟨fun hg => hs hg.sh, h⟩
end Go.Proofs.Ytkgpnloghmbmlaa.Print
namespace Go.Proofs.Ytkgpnloghmbmlaa.Print
open Go.RowKit Go.Proofs.YtkgpnloghmbmlaaW.PrintWords Go.Proofs.YtkgpnloghmbmlaaW.PrintLast Go.Proofs.YtkgpnloghmbmlaaW.PrintMore Go.Proofs.Ytkgpnloghmbmlaa.Drv
set_option linter.unusedVariables false
set_option linter.unusedSimpArgs false
set_option maxHeartbeats 4000000 in
set_option maxRecDepth 100000 in
theorem waits_calls (g : Nat) (st : Int) (sp : List Bool) (sl rg : List ByteArray) (ns : List (Nat × Pt)) (w : World) (hD : Drv w g st sp sl rg ns) (hn : ns.length ≤ 40) :
    Calls Try.prog 90 #[.pointer (some ⟨g, 0, none⟩)] w fun e w' => ∃ v : Value, e = .returned v ∧ Kd.R k54 54 w' w.heap.size (fun _ => True) v (ns.map (·.2)) ∧ Below w.heap.size w w' := by
  have hu80 := Try.underlying80
  have hu54 := Try.underlying54
  have hu112 := Try.underlying112
  have HD := Az.mk hD
  have HN := Az.mk hn
  have hfi : w.cell? ⟨g, 27, none⟩ = some (toN ns (.pointer none)) := (zq4 hD.blk 27).trans (dc_fi hD.lsp hD.lsl hD.lrg)
  obtain ⟨fi, hfi0⟩ : ∃ v, v = toN ns (.pointer none) := ⟨_, rfl⟩
  rw [← hfi0] at hfi
  have HFI := Az.mk hfi0
  clear hD hn hfi0
  have HB := Az.mk (Below.refl w.heap.size w)
  go_enter Try.func90, Try.ntmps90
  go_wp2
  go_loopg [3, 4] ns.length (fun kq v3 v4 w' => ∃ (dn rs : List (Nat × Pt)), Az (v4 = toN rs (.pointer none)) ∧ Az (ns = dn ++ rs) ∧ Az (rs.length = kq) ∧ Az (Kd.R k54 54 w' w.heap.size (fun _ => True) v3 (dn.map (·.2))) ∧ Az (Below w.heap.size w w'))
  case atStart => exact ⟨[], ns, ⟨HFI.out⟩, ⟨rfl⟩, ⟨rfl⟩, ⟨Kd.R_nil _ _ _ _ _⟩, ⟨(by repeat (first | (with_reducible first | exact HB.out | apply zq2 | apply zq1 | apply zqd) | exact HB.out))⟩⟩
  case round =>
    clear hfi
    obtain ⟨dn, rs, HV, HE, HI, HO, HB⟩ := hrel
    cases rs with
    | nil =>
      have hv := HV.out
      simp only [toN] at hv
      subst hv
      have HE2 : Az (dn.map (·.2) = ns.map (·.2)) := ⟨by rw [HE.out, List.append_nil]⟩
      go_wp2
      go_ret
      exact ⟨_, rfl, HE2.out ▸ (by (with_reducible repeat (first | apply Kd.R_alloc | apply Kd.R_drewN | apply Kd.R_drew)); exact HO.out), (by repeat (first | (with_reducible first | exact HB.out | apply zq2 | apply zq1 | apply zqd) | exact HB.out))⟩
    | cons x rs =>
      obtain ⟨b, p⟩ := x
      have hv := HV.out
      simp only [toN] at hv
      subst hv
      have hs := (Seg.append.1 (HE.out ▸ HD.out.seg : Seg w g (dn ++ (b, p) :: rs) _)).2
      have hnd : w.heap[b]? = some (.cells #[.bool p.f0, .int .i64 p.f1, .string p.f2, toN rs (.pointer none)] 112 (0, 0)) := hs.2.1
      obtain ⟨nx, hnx⟩ : ∃ v, v = toN rs (.pointer none) := ⟨_, rfl⟩
      rw [← hnx] at hnd
      have HNX := Az.mk hnx
      have HBL := Az.mk (blk_lt hnd)
      have hc_0 := (HB.out.cell (p := ⟨b, 0, none⟩) HBL.out).trans (zq4 hnd 0)
      have hc_1 := (HB.out.cell (p := ⟨b, 1, none⟩) HBL.out).trans (zq4 hnd 1)
      have hc_2 := (HB.out.cell (p := ⟨b, 2, none⟩) HBL.out).trans (zq4 hnd 2)
      have HN3 : Az (w.cell? ⟨b, 3, none⟩ = some nx) := ⟨(zq4 hnd 3).trans rfl⟩
      replace hc_0 : wr.cell? ⟨b, 0, none⟩ = some (.bool p.f0) := hc_0.trans rfl
      replace hc_1 : wr.cell? ⟨b, 1, none⟩ = some (.int .i64 p.f1) := hc_1.trans rfl
      replace hc_2 : wr.cell? ⟨b, 2, none⟩ = some (.string p.f2) := hc_2.trans rfl
      have HLEN : Az (dn.length ≤ 40) := ⟨by have h1 := HN.out; have h2 := congrArg List.length HE.out; rw [List.length_append] at h2; omega⟩
      clear hs hnd hnx
      go_wp2_with (first | ((with_reducible refine gate_builtin (b := .append) (xs := #[.tmp 15, .tmp 20]) rfl ?_); at_builtin; refine Kd.R_append k54 (w0 := w) w.heap.size rfl (.tmp 15) (.tmp 20) 26 54 (.agg #[(.bool false), (.int .i64 0), (.string ⟨#[]⟩)]) 32 rfl Try.underlying26 info54 rfl (by decide) (by omega) u3 (dn.map (·.2)) p [.bool p.f0, .int .i64 p.f1, .string p.f2] (fun _ => True) (fun _ => False) rfl rfl ?aP (fun _ hk => hk.elim) ?aF ?aO ?aB ?aS ?aL ?_; (case aP => exact k54_mkM _ _ _ p); (case aB => exact (by repeat (first | (with_reducible first | exact HB.out | apply zq2 | apply zq1 | apply zqd) | exact HB.out))); (case aF => exact (fun _ _ => trivial)); (case aO => exact (by (with_reducible repeat (first | apply Kd.R_alloc | apply Kd.R_drewN | apply Kd.R_drew)); exact HO.out)); (case aS => exact (below_size (by repeat (first | (with_reducible first | exact HB.out | apply zq2 | apply zq1 | apply zqd) | exact HB.out)))); (case aL => have := HLEN.out; rw [List.length_map]; omega); intro v320 w5 ho hb hg hat; have n1_ := Az.mk (hb); have n2_ := Az.mk (ho); have hn_3 : w5.cell? ⟨b, 3, none⟩ = some nx := (hb.cell HBL.out).trans HN3.out; clear HB HO; have HB := n1_; have HO := n2_; clear n1_ n2_; clear ho hb hg hat))
      go_roundg (gk - 1)
      case measure => have := HI.out; simp only [List.length_cons] at this; omega
      case rel => exact ⟨dn ++ [(b, p)], rs, ⟨HNX.out⟩, ⟨by rw [HE.out, List.append_assoc]; rfl⟩, ⟨by have := HI.out; simp only [List.length_cons] at this; omega⟩, ⟨by rw [List.map_append]; (with_reducible repeat (first | apply Kd.R_alloc | apply Kd.R_drewN | apply Kd.R_drew)); exact HO.out⟩, ⟨(by repeat (first | (with_reducible first | exact HB.out | apply zq2 | apply zq1 | apply zqd) | exact HB.out))⟩⟩
end Go.Proofs.Ytkgpnloghmbmlaa.Print
namespace Go.Proofs.Ytkgpnloghmbmlaa.Print
open Go.RowKit Go.Proofs.YtkgpnloghmbmlaaW.PrintWords Go.Proofs.YtkgpnloghmbmlaaW.PrintLast Go.Proofs.YtkgpnloghmbmlaaW.PrintMore Go.Proofs.Ytkgpnloghmbmlaa.Drv
set_option linter.unusedVariables false
set_option linter.unusedSimpArgs false
theorem infoC9 : (Try.prog.info? 9).map (fun i => (i.zero, i.size, i.bytes)) = some (some (.string ⟨#[]⟩), 1, 16) := by kernel_rfl
set_option maxHeartbeats 4000000 in
set_option maxRecDepth 100000 in
theorem cloneStr (ad : Addr) (c0 : Nat) (l0 : List ByteArray) (w : World) (hr0 : Kd.C Kd.string w (some ad) l0.length l0) (hlen : l0.length ≤ 4096) :
    Calls Try.prog 88 #[.slice (some ad) l0.length c0] w fun e w' => ∃ v0_ : Value, e = .returned (v0_) ∧ Kd.R Kd.string 9 w' w.heap.size (fun _ => True) v0_ l0 ∧ Below w.heap.size w w' := by
  have heq : ∀ (w : World) (a : Option Addr) (n c : Nat), (binOp .eql 24 (.slice a n c) (.slice none 0 0)).run Try.prog w = .ok (.bool a.isNone) w := fun w a n c => by
    simp only [binOp]
    simp [run_equal_slice_nil w 24 9 a n c Try.underlying24]
  have HR0 := Az.mk hr0
  have HLEN := Az.mk hlen
  clear hr0 hlen
  have HB := Az.mk (Below.refl w.heap.size w)
  go_enter Try.func88, Try.ntmps88
  go_wp2_with (first | ((with_reducible refine zqg (N := 5) rfl ?_); refine Kd.R_lit Kd.string _ 9 ?hg (N := 5) ?hd (xs := ([] : List ByteArray)) (inner := []) (ok := fun _ => True) (okp := fun _ => True) ?hr ?hp (fun _ hk => hk) trivial (Below.refl _ _) (Nat.le_refl _) (by simp) ?_; (case hd => rfl); (case hg => rfl); (case hr => first | (go_simp; done) | (go_simp; rfl)); (case hp => exact (Reps.none _ _)); intro v317 w3 ho4 hb hg_ hnew_; clear hg_ hnew_; have n0_ := Az.mk (Kd.R_lower ho4 (below_size (by repeat (first | (with_reducible first | exact HB.out | apply zq2 | apply zq1 | apply zqd) | exact HB.out)))); have n1_ := Az.mk (below_step (by repeat (first | (with_reducible first | exact HB.out | apply zq2 | apply zq1 | apply zqd) | exact HB.out)) hb); clear HB; have HO318 := n0_; have HB := n1_; clear n0_ n1_; clear hb ho4) | ((with_reducible refine gate_builtin (b := .append) (xs := #[.tmp 5, .tmp 6]) rfl ?_); at_builtin; refine Kd.R_append_rows Kd.string (w0 := w) w.heap.size rfl (.tmp 5) (.tmp 6) 24 9 (.string ⟨#[]⟩) 16 rfl Try.underlying24 infoC9 rfl (by decide) (by omega) v317 [] l0 _ _ _ (fun _ => True) (fun _ => False) rfl rfl ?aO ?aR (fun _ _ h => h) (fun _ h => h.elim) ?aF ?aB ?aS ?aL ?_; (case aR => repeat (first | exact (Kd.C_below HR0.out HB.out) | (with_reducible refine Kd.C_alloc ?_ _) | (with_reducible refine Kd.C_drewN ?_ _) | (with_reducible refine Kd.C_drew ?_))); (case aB => exact (by repeat (first | (with_reducible first | exact HB.out | apply zq2 | apply zq1 | apply zqd) | exact HB.out))); (case aF => exact (fun _ _ => trivial)); (case aO => exact (by (with_reducible repeat (first | apply Kd.R_alloc | apply Kd.R_drewN | apply Kd.R_drew)); exact HO318.out)); (case aS => exact (below_size (by repeat (first | (with_reducible first | exact HB.out | apply zq2 | apply zq1 | apply zqd) | exact HB.out)))); (case aL => have := HLEN.out; simp only [List.length_nil]; omega); intro v320 w5 ho hb hg hat; have n0_ := Az.mk (hb); have n1_ := Az.mk (ho); clear HB; clear HO318; have HB := n0_; have HO321 := n1_; clear n0_ n1_; clear ho hb hg hat))
  go_ret
  exact ⟨_, rfl, by (with_reducible repeat (first | apply Kd.R_alloc | apply Kd.R_drewN | apply Kd.R_drew)); exact HO321.out, (by repeat (first | (with_reducible first | exact HB.out | apply zq2 | apply zq1 | apply zqd) | exact HB.out))⟩
theorem infoC4 : (Try.prog.info? 4).map (fun i => (i.zero, i.size, i.bytes)) = some (some (.bool false), 1, 1) := by kernel_rfl
set_option maxHeartbeats 4000000 in
set_option maxRecDepth 100000 in
theorem cloneBool (ad : Addr) (c0 : Nat) (l0 : List Bool) (w : World) (hr0 : Kd.C Kd.bool w (some ad) l0.length l0) (hlen : l0.length ≤ 4096) :
    Calls Try.prog 89 #[.slice (some ad) l0.length c0] w fun e w' => ∃ v0_ : Value, e = .returned (v0_) ∧ Kd.R Kd.bool 4 w' w.heap.size (fun _ => True) v0_ l0 ∧ Below w.heap.size w w' := by
  have heq : ∀ (w : World) (a : Option Addr) (n c : Nat), (binOp .eql 25 (.slice a n c) (.slice none 0 0)).run Try.prog w = .ok (.bool a.isNone) w := fun w a n c => by
    simp only [binOp]
    simp [run_equal_slice_nil w 25 4 a n c Try.underlying25]
  have HR0 := Az.mk hr0
  have HLEN := Az.mk hlen
  clear hr0 hlen
  have HB := Az.mk (Below.refl w.heap.size w)
  go_enter Try.func89, Try.ntmps89
  go_wp2_with (first | ((with_reducible refine zqg (N := 5) rfl ?_); refine Kd.R_lit Kd.bool _ 4 ?hg (N := 5) ?hd (xs := ([] : List Bool)) (inner := []) (ok := fun _ => True) (okp := fun _ => True) ?hr ?hp (fun _ hk => hk) trivial (Below.refl _ _) (Nat.le_refl _) (by simp) ?_; (case hd => rfl); (case hg => rfl); (case hr => first | (go_simp; done) | (go_simp; rfl)); (case hp => exact (Reps.none _ _)); intro v317 w3 ho4 hb hg_ hnew_; clear hg_ hnew_; have n0_ := Az.mk (Kd.R_lower ho4 (below_size (by repeat (first | (with_reducible first | exact HB.out | apply zq2 | apply zq1 | apply zqd) | exact HB.out)))); have n1_ := Az.mk (below_step (by repeat (first | (with_reducible first | exact HB.out | apply zq2 | apply zq1 | apply zqd) | exact HB.out)) hb); clear HB; have HO318 := n0_; have HB := n1_; clear n0_ n1_; clear hb ho4) | ((with_reducible refine gate_builtin (b := .append) (xs := #[.tmp 5, .tmp 6]) rfl ?_); at_builtin; refine Kd.R_append_rows Kd.bool (w0 := w) w.heap.size rfl (.tmp 5) (.tmp 6) 25 4 (.bool false) 1 rfl Try.underlying25 infoC4 rfl (by decide) (by omega) v317 [] l0 _ _ _ (fun _ => True) (fun _ => False) rfl rfl ?aO ?aR (fun _ _ h => h) (fun _ h => h.elim) ?aF ?aB ?aS ?aL ?_; (case aR => repeat (first | exact (Kd.C_below HR0.out HB.out) | (with_reducible refine Kd.C_alloc ?_ _) | (with_reducible refine Kd.C_drewN ?_ _) | (with_reducible refine Kd.C_drew ?_))); (case aB => exact (by repeat (first | (with_reducible first | exact HB.out | apply zq2 | apply zq1 | apply zqd) | exact HB.out))); (case aF => exact (fun _ _ => trivial)); (case aO => exact (by (with_reducible repeat (first | apply Kd.R_alloc | apply Kd.R_drewN | apply Kd.R_drew)); exact HO318.out)); (case aS => exact (below_size (by repeat (first | (with_reducible first | exact HB.out | apply zq2 | apply zq1 | apply zqd) | exact HB.out)))); (case aL => have := HLEN.out; simp only [List.length_nil]; omega); intro v320 w5 ho hb hg hat; have n0_ := Az.mk (hb); have n1_ := Az.mk (ho); clear HB; clear HO318; have HB := n0_; have HO321 := n1_; clear n0_ n1_; clear ho hb hg hat))
  go_ret
  exact ⟨_, rfl, by (with_reducible repeat (first | apply Kd.R_alloc | apply Kd.R_drewN | apply Kd.R_drew)); exact HO321.out, (by repeat (first | (with_reducible first | exact HB.out | apply zq2 | apply zq1 | apply zqd) | exact HB.out))⟩
theorem drv_C_sl {w : World} {g : Nat} {st : Int} {sp : List Bool} {sl rg : List ByteArray} {ns : List (Nat × Pt)} (h : Drv w g st sp sl rg ns) : Kd.C Kd.string w (some ⟨g, 13, none⟩) sl.length sl :=
  Kd.C_of_reads (d := ByteArray.empty) ⟨rfl, by have := h.lsl; omega, fun _ => ⟨_, rfl, fun j hj => by
    rw [show (⟨g, 13, none⟩ : Addr).add j = ⟨g, 13 + j, none⟩ by (unfold Addr.add; split <;> simp_all), zq4 h.blk]
    exact dc_sl h.lsp h.lsl (by have := h.lsl; omega)⟩⟩
theorem drv_C_rg {w : World} {g : Nat} {st : Int} {sp : List Bool} {sl rg : List ByteArray} {ns : List (Nat × Pt)} (h : Drv w g st sp sl rg ns) : Kd.C Kd.string w (some ⟨g, 25, none⟩) rg.length rg :=
  Kd.C_of_reads (d := ByteArray.empty) ⟨rfl, by have := h.lrg; omega, fun _ => ⟨_, rfl, fun j hj => by
    rw [show (⟨g, 25, none⟩ : Addr).add j = ⟨g, 25 + j, none⟩ by (unfold Addr.add; split <;> simp_all), zq4 h.blk]
    exact dc_rg h.lsp h.lsl h.lrg (by have := h.lrg; omega)⟩⟩
theorem drv_C_sp {w : World} {g : Nat} {st : Int} {sp : List Bool} {sl rg : List ByteArray} {ns : List (Nat × Pt)} (h : Drv w g st sp sl rg ns) : Kd.C Kd.bool w (some ⟨g, 1, none⟩) sp.length sp :=
  Kd.C_of_reads (d := false) ⟨rfl, by have := h.lsp; omega, fun _ => ⟨_, rfl, fun j hj => by
    rw [show (⟨g, 1, none⟩ : Addr).add j = ⟨g, 1 + j, none⟩ by (unfold Addr.add; split <;> simp_all), zq4 h.blk]
    exact dc_sp h.lsp (by have := h.lsp; omega)⟩⟩
end Go.Proofs.Ytkgpnloghmbmlaa.Print
namespace Go.Proofs.Ytkgpnloghmbmlaa.Print
open Go.RowKit Go.Proofs.YtkgpnloghmbmlaaW.PrintWords Go.Proofs.YtkgpnloghmbmlaaW.PrintLast Go.Proofs.YtkgpnloghmbmlaaW.PrintMore Go.Proofs.Ytkgpnloghmbmlaa.Drv
set_option linter.unusedVariables false
set_option linter.unusedSimpArgs false
theorem drv_st {W : World} {g : Nat} {st : Int} {sp : List Bool} {sl rg : List ByteArray} {ns : List (Nat × Pt)} (h : Drv W g st sp sl rg ns) : W.cell? ⟨g, 0, none⟩ = some (.int .i64 st) := (zq4 h.blk 0).trans dc_st
theorem R_setOwn {α : Type} {d : Kd α} {e base g : Nat} {ok : Nat → Prop} {w : World} {v : Value} {xs : List α} (h : d.R e w base ok v xs) (hg : g < base) (j : Nat) (u : Value) : d.R e (w.setCell ⟨g, j, none⟩ u) base ok v xs :=
  Kd.R_mono (Kd.R_keep (Kd.R_bound h) (KeepBut.set_ (KeepBut.refl w g none) j u) (fun k hk => by have := hk.2.1; omega)) (fun k hk => hk.1)
theorem cloneStrN (ad : Addr) (n c0 : Nat) (l0 : List ByteArray) (w : World) (hr0 : Kd.C Kd.string w (some ad) l0.length l0) (hl : l0.length = n) (hlen : n ≤ 4096) :
    Calls Try.prog 88 #[.slice (some ad) n c0] w fun e w' => ∃ v0_ : Value, e = .returned (v0_) ∧ Kd.R Kd.string 9 w' w.heap.size (fun _ => True) v0_ l0 ∧ Below w.heap.size w w' := by
  subst hl
  exact cloneStr ad c0 l0 w hr0 hlen
theorem cloneBoolN (ad : Addr) (n c0 : Nat) (l0 : List Bool) (w : World) (hr0 : Kd.C Kd.bool w (some ad) l0.length l0) (hl : l0.length = n) (hlen : n ≤ 4096) :
    Calls Try.prog 89 #[.slice (some ad) n c0] w fun e w' => ∃ v0_ : Value, e = .returned (v0_) ∧ Kd.R Kd.bool 4 w' w.heap.size (fun _ => True) v0_ l0 ∧ Below w.heap.size w w' := by
  subst hl
  exact cloneBool ad c0 l0 w hr0 hlen
set_option maxHeartbeats 4000000 in
set_option maxRecDepth 100000 in
theorem disk_calls (g : Nat) (st : Int) (sp : List Bool) (sl rg : List ByteArray) (ns : List (Nat × Pt)) (w : World) (hD : Drv w g st sp sl rg ns) (hn : ns.length ≤ 40) :
    Calls Try.prog 50 #[.pointer (some ⟨g, 0, none⟩)] w fun e w' => ∃ v1 v2 v3 v4 : Value, e = .returned (.agg #[.int .i64 st, v1, v2, v3, v4]) ∧ Kd.R Kd.string 9 w' w.heap.size (fun k_ => some k_ ≠ v2.ownBlock) v1 sl ∧ Kd.R Kd.string 9 w' w.heap.size (fun k_ => some k_ ≠ v1.ownBlock) v2 rg ∧ Kd.R Kd.bool 4 w' w.heap.size (fun _ => True) v3 sp ∧ Kd.R k54 54 w' w.heap.size (fun _ => True) v4 (ns.map (·.2)) ∧ Below w.heap.size w w' := by
  have hu28 := Try.underlying28
  have hu80 := Try.underlying80
  have hu75 := Try.underlying75
  have hu76 := Try.underlying76
  have hu77 := Try.underlying77
  have hu73 := Try.underlying73
  have HD := Az.mk hD
  have HN := Az.mk hn
  clear hD hn
  have HB := Az.mk (Below.refl w.heap.size w)
  go_enter Try.func50, Try.ntmps50
  go_wp2_with (first | ((with_reducible refine zqg (N := 2) rfl ?_); refine zqb ?hg (N := 2) ?hd (cs := #[.int .i64 0, .slice none 0 0, .slice none 0 0, .slice none 0 0, .slice none 0 0]) (t := 28) ?hr ?_; (case hd => rfl); (case hg => rfl); (case hr => first | (go_simp; done) | (go_simp; rfl)); intro gr hg w1 hbox hb; have n0_ := Az.mk (below_step (by repeat (first | (with_reducible first | exact HB.out | apply zq2 | apply zq1 | apply zqd) | exact HB.out)) hb); have n1_ := Az.mk hbox; have n2_ := Az.mk (Drv.below (g := g) (st := st) (sp := sp) (sl := sl) (rg := rg) (ns := ns) (by (with_reducible repeat (first | refine drv_drewN ?_ _ | refine drv_drew ?_)); exact HD.out) hb); have HGR : Az (w.heap.size ≤ gr) := ⟨by rw [hg]; exact (below_size (by repeat (first | (with_reducible first | exact HB.out | apply zq2 | apply zq1 | apply zqd) | exact HB.out)))⟩; clear HB HD; have HB := n0_; have BK := n1_; have HD := n2_; clear n0_ n1_ n2_ hb hbox hg))
  have nb_ := Az.mk (zqd HB.out)
  have nd_ := Az.mk (drv_drew HD.out)
  have nk_ := Az.mk (zq8 BK.out)
  clear HB HD BK
  have HB := nb_
  have HD := nd_
  have BK := nk_
  clear nb_ nd_ nk_
  refine start_ (n := 25) (S := fun w' => w'.cell? ⟨g, 0, none⟩ = some (.int .i64 st)) (ds := [24]) #[false, false, false, false, false, false, false, false, false, false, false, false, false, false, false, false, false, false, false, false, false, false, false, false, false] (by kernel_rfl) rfl rfl (drv_st HD.out) (fun hHeld => ?_)
  generalize w1.drew = w3 at HB HD BK hHeld ⊢
  refine zqp (i := 0) (N := (some 3)) (v := ?_) (a' := ?_) #[true, false, false, false, false, false, false, false, false, false, false, false, false, false, false, false, false, false, false, false, false, false, false, false, false] rfl rfl (by kernel_rfl) (fun _ _ _ h => h) (Or.inl ⟨by rfl, ?_⟩) ?_ ?_
  rotate_left
  · intro w'
    go_simp
    with_reducible rfl
  rotate_left
  · simp only [Act.put, List.setIfInBounds_toArray, List.set_cons_zero, List.set_cons_succ]
    rfl
  refine zqp (i := 1) (N := (some 4)) (v := ?_) (a' := ?_) #[true, true, false, false, false, false, false, false, false, false, false, false, false, false, false, false, false, false, false, false, false, false, false, false, false] rfl rfl (by kernel_rfl) (fun _ _ _ h => h) (Or.inl ⟨by rfl, ?_⟩) ?_ ?_
  rotate_left
  · intro w'
    go_simp
    with_reducible rfl
  rotate_left
  · simp only [Act.put, List.setIfInBounds_toArray, List.set_cons_zero, List.set_cons_succ]
    rfl
  refine zqp (i := 2) (N := (some 5)) (v := ?_) (a' := ?_) #[true, true, true, false, false, false, false, false, false, false, false, false, false, false, false, false, false, false, false, false, false, false, false, false, false] rfl rfl (by kernel_rfl) (fun _ _ _ h => h) (Or.inl ⟨by rfl, ?_⟩) ?_ ?_
  rotate_left
  · intro w'
    go_simp
    with_reducible rfl
  rotate_left
  · simp only [Act.put, List.setIfInBounds_toArray, List.set_cons_zero, List.set_cons_succ]
    rfl
  refine zqp (i := 3) (N := (some 6)) (v := ?_) (a' := ?_) #[true, true, true, true, false, false, false, false, false, false, false, false, false, false, false, false, false, false, false, false, false, false, false, false, false] rfl rfl (by kernel_rfl) (fun _ _ _ h => h) (Or.inl ⟨by rfl, ?_⟩) ?_ ?_
  rotate_left
  · intro w'
    go_simp
    with_reducible rfl
  rotate_left
  · simp only [Act.put, List.setIfInBounds_toArray, List.set_cons_zero, List.set_cons_succ]
    rfl
  refine zqt (i := 4) (N := (some 7)) (v := ?_) (a' := ?_) #[true, true, true, true, true, false, false, false, false, false, false, false, false, false, false, false, false, false, false, false, false, false, false, false, false] rfl rfl (by kernel_rfl) (fun _ _ _ h => h) (Or.inl ⟨by rfl, ?_⟩) hHeld ?_ ?_
  rotate_left
  · intro w' hS_
    go_simp
    with_reducible rfl
  rotate_left
  · simp only [Act.put, List.setIfInBounds_toArray, List.set_cons_zero, List.set_cons_succ]
    rfl
  refine zqp (i := 5) (N := (some 8)) (v := ?_) (a' := ?_) #[true, true, true, true, true, true, false, false, false, false, false, false, false, false, false, false, false, false, false, false, false, false, false, false, false] rfl rfl (by kernel_rfl) (fun _ _ _ h => h) (Or.inl ⟨by rfl, ?_⟩) ?_ ?_
  rotate_left
  · intro w'
    go_simp
    with_reducible rfl
  rotate_left
  · simp only [Act.put, List.setIfInBounds_toArray, List.set_cons_zero, List.set_cons_succ]
    rfl
  refine zqp (i := 6) (N := (some 9)) (v := ?_) (a' := ?_) #[true, true, true, true, true, true, true, false, false, false, false, false, false, false, false, false, false, false, false, false, false, false, false, false, false] rfl rfl (by kernel_rfl) (fun _ _ _ h => h) (Or.inl ⟨by rfl, ?_⟩) ?_ ?_
  rotate_left
  · intro w'
    go_simp
    with_reducible rfl
  rotate_left
  · simp only [Act.put, List.setIfInBounds_toArray, List.set_cons_zero, List.set_cons_succ]
    rfl
  refine zqp (i := 7) (N := (some 10)) (v := ?_) (a' := ?_) #[true, true, true, true, true, true, true, true, false, false, false, false, false, false, false, false, false, false, false, false, false, false, false, false, false] rfl rfl (by kernel_rfl) (fun _ _ _ h => h) (Or.inl ⟨by rfl, ?_⟩) ?_ ?_
  rotate_left
  · intro w'
    go_simp
    with_reducible rfl
  rotate_left
  · simp only [Act.put, List.setIfInBounds_toArray, List.set_cons_zero, List.set_cons_succ]
    rfl
  refine zqp (i := 8) (N := (some 11)) (v := ?_) (a' := ?_) #[true, true, true, true, true, true, true, true, true, false, false, false, false, false, false, false, false, false, false, false, false, false, false, false, false] rfl rfl (by kernel_rfl) (fun _ _ _ h => h) (Or.inl ⟨by rfl, ?_⟩) ?_ ?_
  rotate_left
  · intro w'
    go_simp
    rfl
  rotate_left
  · simp only [Act.put, List.setIfInBounds_toArray, List.set_cons_zero, List.set_cons_succ]
    rfl
  refine zqp (i := 10) (N := (some 13)) (v := ?_) (a' := ?_) #[true, true, true, true, true, true, true, true, true, false, true, false, false, false, false, false, false, false, false, false, false, false, false, false, false] rfl rfl (by kernel_rfl) (fun _ _ _ h => h) (Or.inl ⟨by rfl, ?_⟩) ?_ ?_
  rotate_left
  · intro w'
    go_simp
    with_reducible rfl
  rotate_left
  · simp only [Act.put, List.setIfInBounds_toArray, List.set_cons_zero, List.set_cons_succ]
    rfl
  refine zqp (i := 11) (N := (some 14)) (v := ?_) (a' := ?_) #[true, true, true, true, true, true, true, true, true, false, true, true, false, false, false, false, false, false, false, false, false, false, false, false, false] rfl rfl (by kernel_rfl) (fun _ _ _ h => h) (Or.inl ⟨by rfl, ?_⟩) ?_ ?_
  rotate_left
  · intro w'
    go_simp
    with_reducible rfl
  rotate_left
  · simp only [Act.put, List.setIfInBounds_toArray, List.set_cons_zero, List.set_cons_succ]
    rfl
  refine zqp (i := 12) (N := (some 15)) (v := ?_) (a' := ?_) #[true, true, true, true, true, true, true, true, true, false, true, true, true, false, false, false, false, false, false, false, false, false, false, false, false] rfl rfl (by kernel_rfl) (fun _ _ _ h => h) (Or.inl ⟨by rfl, ?_⟩) ?_ ?_
  rotate_left
  · intro w'
    go_simp
    with_reducible rfl
  rotate_left
  · simp only [Act.put, List.setIfInBounds_toArray, List.set_cons_zero, List.set_cons_succ]
    rfl
  refine zqp (i := 13) (N := (some 16)) (v := ?_) (a' := ?_) #[true, true, true, true, true, true, true, true, true, false, true, true, true, true, false, false, false, false, false, false, false, false, false, false, false] rfl rfl (by kernel_rfl) (fun _ _ _ h => h) (Or.inl ⟨by rfl, ?_⟩) ?_ ?_
  rotate_left
  · intro w'
    go_simp
    rfl
  rotate_left
  · simp only [Act.put, List.setIfInBounds_toArray, List.set_cons_zero, List.set_cons_succ]
    rfl
  refine zqp (i := 15) (N := (some 18)) (v := ?_) (a' := ?_) #[true, true, true, true, true, true, true, true, true, false, true, true, true, true, false, true, false, false, false, false, false, false, false, false, false] rfl rfl (by kernel_rfl) (fun _ _ _ h => h) (Or.inl ⟨by rfl, ?_⟩) ?_ ?_
  rotate_left
  · intro w'
    go_simp
    with_reducible rfl
  rotate_left
  · simp only [Act.put, List.setIfInBounds_toArray, List.set_cons_zero, List.set_cons_succ]
    rfl
  refine zqp (i := 16) (N := (some 19)) (v := ?_) (a' := ?_) #[true, true, true, true, true, true, true, true, true, false, true, true, true, true, false, true, true, false, false, false, false, false, false, false, false] rfl rfl (by kernel_rfl) (fun _ _ _ h => h) (Or.inl ⟨by rfl, ?_⟩) ?_ ?_
  rotate_left
  · intro w'
    go_simp
    with_reducible rfl
  rotate_left
  · simp only [Act.put, List.setIfInBounds_toArray, List.set_cons_zero, List.set_cons_succ]
    rfl
  refine zqp (i := 17) (N := (some 20)) (v := ?_) (a' := ?_) #[true, true, true, true, true, true, true, true, true, false, true, true, true, true, false, true, true, true, false, false, false, false, false, false, false] rfl rfl (by kernel_rfl) (fun _ _ _ h => h) (Or.inl ⟨by rfl, ?_⟩) ?_ ?_
  rotate_left
  · intro w'
    go_simp
    with_reducible rfl
  rotate_left
  · simp only [Act.put, List.setIfInBounds_toArray, List.set_cons_zero, List.set_cons_succ]
    rfl
  refine zqp (i := 18) (N := (some 21)) (v := ?_) (a' := ?_) #[true, true, true, true, true, true, true, true, true, false, true, true, true, true, false, true, true, true, true, false, false, false, false, false, false] rfl rfl (by kernel_rfl) (fun _ _ _ h => h) (Or.inl ⟨by rfl, ?_⟩) ?_ ?_
  rotate_left
  · intro w'
    go_simp
    with_reducible rfl
  rotate_left
  · simp only [Act.put, List.setIfInBounds_toArray, List.set_cons_zero, List.set_cons_succ]
    rfl
  refine zqp (i := 19) (N := (some 22)) (v := ?_) (a' := ?_) #[true, true, true, true, true, true, true, true, true, false, true, true, true, true, false, true, true, true, true, true, false, false, false, false, false] rfl rfl (by kernel_rfl) (fun _ _ _ h => h) (Or.inl ⟨by rfl, ?_⟩) ?_ ?_
  rotate_left
  · intro w'
    go_simp
    rfl
  rotate_left
  · simp only [Act.put, List.setIfInBounds_toArray, List.set_cons_zero, List.set_cons_succ]
    rfl
  refine zqp (i := 21) (N := (some 24)) (v := ?_) (a' := ?_) #[true, true, true, true, true, true, true, true, true, false, true, true, true, true, false, true, true, true, true, true, false, true, false, false, false] rfl rfl (by kernel_rfl) (fun _ _ _ h => h) (Or.inl ⟨by rfl, ?_⟩) ?_ ?_
  rotate_left
  · intro w'
    go_simp
    with_reducible rfl
  rotate_left
  · simp only [Act.put, List.setIfInBounds_toArray, List.set_cons_zero, List.set_cons_succ]
    rfl
  refine one_ (i := 9) (N := (some 12)) #[true, true, true, true, true, true, true, true, true, true, true, true, true, true, false, true, true, true, true, true, false, true, false, false, false] rfl rfl (by kernel_rfl) (by decide) (fun K hK => ?_)
  refine goes_ Try.func88 (by kernel_rfl) rfl #[.slice (some ⟨g, 13, none⟩) 12 12] (by rfl) rfl rfl (by (try simp only [List.map_toArray, List.map_cons, List.map_nil]); first | done | rfl) ?_
  refine (cloneStrN ⟨g, 13, none⟩ 12 12 sl _ (drv_C_sl HD.out) HD.out.lsl (by omega)).mono ?_
  rintro e w4 ⟨v1, rfl, ho, hb⟩
  obtain ⟨A1, c1, rfl⟩ := Kd.R_slice ho
  refine ⟨_, rfl, ?_⟩
  have nd_ := Az.mk (Drv.below (g := g) (st := st) (sp := sp) (sl := sl) (rg := rg) (ns := ns) HD.out hb)
  have nb_ := Az.mk (below_step HB.out hb)
  have nk_ := Az.mk (blk_below (g := gr) (o := .cells #[.int .i64 0, .slice none 0 0, .slice none 0 0, .slice none 0 0, .slice none 0 0] 28 (0, 0)) BK.out hb)
  have HV1 : Az (Kd.R Kd.string 9 w4 w3.heap.size (fun _ => True) (.slice A1 sl.length c1) sl) := ⟨ho⟩
  have HG3 : Az (gr < w3.heap.size) := ⟨blk_lt BK.out⟩
  have HS3 : Az (w.heap.size ≤ w3.heap.size) := ⟨below_size HB.out⟩
  clear HD HB BK
  have HD := nd_
  have HB := nb_
  have BK := nk_
  clear nd_ nb_ nk_ ho hb
  refine hK.out _ _ (drv_st HD.out) (fun hHeld => ?_)
  clear hK K
  refine one_ (i := 14) (N := (some 17)) #[true, true, true, true, true, true, true, true, true, true, true, true, true, true, true, true, true, true, true, true, false, true, false, false, false] rfl rfl (by kernel_rfl) (by decide) (fun K hK => ?_)
  refine goes_ Try.func88 (by kernel_rfl) rfl #[.slice (some ⟨g, 25, none⟩) 2 2] (by rfl) rfl rfl (by (try simp only [List.map_toArray, List.map_cons, List.map_nil]); first | done | rfl) ?_
  refine (cloneStrN ⟨g, 25, none⟩ 2 2 rg _ (drv_C_rg HD.out) HD.out.lrg (by omega)).mono ?_
  rintro e w5 ⟨v2, rfl, ho, hb⟩
  obtain ⟨A2, c2, rfl⟩ := Kd.R_slice ho
  refine ⟨_, rfl, ?_⟩
  have nd_ := Az.mk (Drv.below (g := g) (st := st) (sp := sp) (sl := sl) (rg := rg) (ns := ns) HD.out hb)
  have nb_ := Az.mk (below_step HB.out hb)
  have nk_ := Az.mk (blk_below (g := gr) (o := .cells #[.int .i64 0, .slice none 0 0, .slice none 0 0, .slice none 0 0, .slice none 0 0] 28 (0, 0)) BK.out hb)
  have n1_ : Az (Kd.R Kd.string 9 w5 w3.heap.size (fun k_ => some k_ ≠ (Value.slice A2 rg.length c2).ownBlock) (.slice A1 sl.length c1) sl) := ⟨Kd.R_mono (Kd.R_told (Kd.R_old HV1.out hb) (Kd.R_base ho)) (fun _ h => h.1.2)⟩
  have n2_ : Az (Kd.R Kd.string 9 w5 w4.heap.size (fun k_ => some k_ ≠ (Value.slice A1 sl.length c1).ownBlock) (.slice A2 rg.length c2) rg) := ⟨Kd.R_mono (Kd.R_bound ho) (fun k_ hk e_ => by have h1 := Kd.R_lt HV1.out k_ e_.symm; have h2 := hk.2.1; omega)⟩
  have HG4 : Az (gr < w4.heap.size) := ⟨blk_lt BK.out⟩
  have HS4 : Az (w.heap.size ≤ w4.heap.size) := ⟨below_size HB.out⟩
  clear HV1
  have HV1 := n1_
  have HV2 := n2_
  clear n1_ n2_
  clear HD HB BK
  have HD := nd_
  have HB := nb_
  have BK := nk_
  clear nd_ nb_ nk_ ho hb
  refine hK.out _ _ (drv_st HD.out) (fun hHeld => ?_)
  clear hK K
  refine one_ (i := 20) (N := (some 23)) #[true, true, true, true, true, true, true, true, true, true, true, true, true, true, true, true, true, true, true, true, true, true, false, false, false] rfl rfl (by kernel_rfl) (by decide) (fun K hK => ?_)
  refine goes_ Try.func89 (by kernel_rfl) rfl #[.slice (some ⟨g, 1, none⟩) 12 12] (by rfl) rfl rfl (by (try simp only [List.map_toArray, List.map_cons, List.map_nil]); first | done | rfl) ?_
  refine (cloneBoolN ⟨g, 1, none⟩ 12 12 sp _ (drv_C_sp HD.out) HD.out.lsp (by omega)).mono ?_
  rintro e w6 ⟨v3, rfl, ho, hb⟩
  obtain ⟨A3, c3, rfl⟩ := Kd.R_slice ho
  refine ⟨_, rfl, ?_⟩
  have nd_ := Az.mk (Drv.below (g := g) (st := st) (sp := sp) (sl := sl) (rg := rg) (ns := ns) HD.out hb)
  have nb_ := Az.mk (below_step HB.out hb)
  have nk_ := Az.mk (blk_below (g := gr) (o := .cells #[.int .i64 0, .slice none 0 0, .slice none 0 0, .slice none 0 0, .slice none 0 0] 28 (0, 0)) BK.out hb)
  have n1_ := Az.mk (Kd.R_below HV1.out hb)
  have n2_ := Az.mk (Kd.R_below HV2.out hb)
  have HV3 : Az (Kd.R Kd.bool 4 w6 w5.heap.size (fun _ => True) (.slice A3 sp.length c3) sp) := ⟨ho⟩
  have HG5 : Az (gr < w5.heap.size) := ⟨blk_lt BK.out⟩
  have HS5 : Az (w.heap.size ≤ w5.heap.size) := ⟨below_size HB.out⟩
  clear HV1 HV2
  have HV1 := n1_
  have HV2 := n2_
  clear n1_ n2_
  clear HD HB BK
  have HD := nd_
  have HB := nb_
  have BK := nk_
  clear nd_ nb_ nk_ ho hb
  refine hK.out _ _ (drv_st HD.out) (fun hHeld => ?_)
  clear hK K
  refine one_ (i := 22) (N := (some 25)) #[true, true, true, true, true, true, true, true, true, true, true, true, true, true, true, true, true, true, true, true, true, true, true, false, false] rfl rfl (by kernel_rfl) (by decide) (fun K hK => ?_)
  refine goes_ Try.func90 (by kernel_rfl) rfl #[.pointer (some ⟨g, 0, none⟩)] (by rfl) rfl rfl (by (try simp only [List.map_toArray, List.map_cons, List.map_nil]); first | done | rfl) ?_
  refine (waits_calls g st sp sl rg ns _ HD.out HN.out).mono ?_
  rintro e w7 ⟨v4, rfl, ho, hb⟩
  obtain ⟨A4, c4, rfl⟩ := Kd.R_slice ho
  refine ⟨_, rfl, ?_⟩
  have nd_ := Az.mk (Drv.below (g := g) (st := st) (sp := sp) (sl := sl) (rg := rg) (ns := ns) HD.out hb)
  have nb_ := Az.mk (below_step HB.out hb)
  have nk_ := Az.mk (blk_below (g := gr) (o := .cells #[.int .i64 0, .slice none 0 0, .slice none 0 0, .slice none 0 0, .slice none 0 0] 28 (0, 0)) BK.out hb)
  have n1_ := Az.mk (Kd.R_below HV1.out hb)
  have n2_ := Az.mk (Kd.R_below HV2.out hb)
  have n3_ := Az.mk (Kd.R_below HV3.out hb)
  have HV4 : Az (Kd.R k54 54 w7 w6.heap.size (fun _ => True) (.slice A4 ns.length c4) (ns.map (·.2))) := ⟨by simpa only [List.length_map] using ho⟩
  have HG6 : Az (gr < w6.heap.size) := ⟨blk_lt BK.out⟩
  have HS6 : Az (w.heap.size ≤ w6.heap.size) := ⟨below_size HB.out⟩
  clear HV1 HV2 HV3
  have HV1 := n1_
  have HV2 := n2_
  have HV3 := n3_
  clear n1_ n2_ n3_
  clear HD HB BK
  have HD := nd_
  have HB := nb_
  have BK := nk_
  clear nd_ nb_ nk_ ho hb
  refine hK.out _ _ (drv_st HD.out) (fun hHeld => ?_)
  clear hK K
  refine zqp (i := 23) (N := (some 26)) (v := ?_) (a' := ?_) #[true, true, true, true, true, true, true, true, true, true, true, true, true, true, true, true, true, true, true, true, true, true, true, true, false] rfl rfl (by kernel_rfl) (fun _ _ _ h => h) (Or.inl ⟨by rfl, ?_⟩) ?_ ?_
  rotate_left
  · intro w'
    go_simp
    with_reducible rfl
  rotate_left
  · simp only [Act.put, List.setIfInBounds_toArray, List.set_cons_zero, List.set_cons_succ]
    rfl
  refine last_ (i := 24) (N := none) #[true, true, true, true, true, true, true, true, true, true, true, true, true, true, true, true, true, true, true, true, true, true, true, true, true] rfl rfl (by kernel_rfl) (by decide) (fun K hK => ?_)
  have hcz_0 : w7.cell? ⟨gr, 0, none⟩ = some (.int .i64 0) := (zq4 BK.out 0).trans rfl
  have hcz_1 : w7.cell? ⟨gr, 1, none⟩ = some (.slice none 0 0) := (zq4 BK.out 1).trans rfl
  have hcz_2 : w7.cell? ⟨gr, 2, none⟩ = some (.slice none 0 0) := (zq4 BK.out 2).trans rfl
  have hcz_3 : w7.cell? ⟨gr, 3, none⟩ = some (.slice none 0 0) := (zq4 BK.out 3).trans rfl
  have hcz_4 : w7.cell? ⟨gr, 4, none⟩ = some (.slice none 0 0) := (zq4 BK.out 4).trans rfl
  have hfz_0 := zq5 BK.out 0
  have hfz_1 := zq5 BK.out 1
  have hfz_2 := zq5 BK.out 2
  have hfz_3 := zq5 BK.out 3
  have hfz_4 := zq5 BK.out 4
  refine skip_ (w1 := ?_) (by rfl) rfl ?_ ?_
  rotate_left
  · go_simp
    rfl
  refine hK.out _ _ ?_
  clear hK K

  refine done_ (by kernel_rfl) ?_
  go_wp2
  refine bodyPost_ret (results_cell_row rfl _ _ gr 28 #[.int .i64 st, .slice A1 sl.length c1, .slice A2 rg.length c2, .slice A3 sp.length c3, .slice A4 ns.length c4] (0, 0) _ rfl (by
    refine blk_put (cs := #[.int .i64 st, .slice A1 sl.length c1, .slice A2 rg.length c2, .slice A3 sp.length c3, .slice none 0 0]) ?_ 4 _ rfl
    refine blk_put (cs := #[.int .i64 st, .slice A1 sl.length c1, .slice A2 rg.length c2, .slice none 0 0, .slice none 0 0]) ?_ 3 _ rfl
    refine blk_put (cs := #[.int .i64 st, .slice A1 sl.length c1, .slice none 0 0, .slice none 0 0, .slice none 0 0]) ?_ 2 _ rfl
    refine blk_put (cs := #[.int .i64 st, .slice none 0 0, .slice none 0 0, .slice none 0 0, .slice none 0 0]) ?_ 1 _ rfl
    refine blk_put (cs := #[.int .i64 0, .slice none 0 0, .slice none 0 0, .slice none 0 0, .slice none 0 0]) ?_ 0 _ rfl
    exact BK.out) Try.underlying28 rfl (by kernel_rfl)) rfl ?_
  have hset : ∀ {W : World} (h : Below w.heap.size w W) (j : Nat) (u : Value), Below w.heap.size w (W.setCell ⟨gr, j, none⟩ u) := fun h j u => zq3 h HGR.out
  exact ⟨_, _, _, _, rfl, Kd.R_lower (R_setOwn (R_setOwn (R_setOwn (R_setOwn (R_setOwn HV1.out HG3.out 0 _) HG3.out 1 _) HG3.out 2 _) HG3.out 3 _) HG3.out 4 _) HS3.out,
    Kd.R_lower (R_setOwn (R_setOwn (R_setOwn (R_setOwn (R_setOwn HV2.out HG4.out 0 _) HG4.out 1 _) HG4.out 2 _) HG4.out 3 _) HG4.out 4 _) HS4.out,
    Kd.R_lower (R_setOwn (R_setOwn (R_setOwn (R_setOwn (R_setOwn HV3.out HG5.out 0 _) HG5.out 1 _) HG5.out 2 _) HG5.out 3 _) HG5.out 4 _) HS5.out,
    Kd.R_lower (R_setOwn (R_setOwn (R_setOwn (R_setOwn (R_setOwn HV4.out HG6.out 0 _) HG6.out 1 _) HG6.out 2 _) HG6.out 3 _) HG6.out 4 _) HS6.out,
    hset (hset (hset (hset (hset HB.out 0 _) 1 _) 2 _) 3 _) 4 _⟩
end Go.Proofs.Ytkgpnloghmbmlaa.Print
namespace Go.Proofs.Ytkgpnloghmbmlaa.Print
open Go.RowKit Go.Proofs.YtkgpnloghmbmlaaW.PrintWords Go.Proofs.YtkgpnloghmbmlaaW.PrintLast Go.Proofs.YtkgpnloghmbmlaaW.PrintMore
attribute [local go_sem] max2_int min2_int max_two min_two max_three min_three max_four min_four   -- for this text's walks alone
set_option linter.unusedVariables false
set_option linter.unusedSimpArgs false
end Go.Proofs.Ytkgpnloghmbmlaa.Print
namespace Go.Proofs.Ytkgpnloghmbmlaa.Pure
open Go.RowKit Go.Proofs.Ytkgpnloghmbmlaa.Print Go.Proofs.YtkgpnloghmbmlaaW.PrintWords
set_option linter.unusedSimpArgs false
def mk {α : Type} (g : Nat → α) (l : List α) (i : Nat) : List α := (List.range i).map g ++ l.drop i
end Go.Proofs.Ytkgpnloghmbmlaa.Pure
namespace Go.Proofs.Ytkgpnloghmbmlaa.Hd
open Go.RowKit Go.Proofs.Ytkgpnloghmbmlaa.Print Go.Proofs.YtkgpnloghmbmlaaW.PrintWords Go.Proofs.YtkgpnloghmbmlaaW.PrintLast Go.Proofs.Ytkgpnloghmbmlaa.Pure
set_option linter.unusedVariables false
structure Dd where
  st : Int
  l1 : List ByteArray
  l2 : List ByteArray
  l3 : List Bool
  l4 : List S54
structure Mm where
  A1 : Option Addr
  c1 : Nat
  A2 : Option Addr
  c2 : Nat
  A3 : Option Addr
  c3 : Nat
  A4 : Option Addr
  c4 : Nat
def cD (M : Mm) (D : Dd) : Array Value := #[.int .i64 D.st, .slice M.A1 D.l1.length M.c1, .slice M.A2 D.l2.length M.c2, .slice M.A3 D.l3.length M.c3, .slice M.A4 D.l4.length M.c4]
structure Rd (w : World) (M : Mm) (D : Dd) : Prop where
  r1 : Kd.C Kd.string w M.A1 D.l1.length D.l1
  h1 : D.l1.length ≤ M.c1
  r2 : Kd.C Kd.string w M.A2 D.l2.length D.l2
  h2 : D.l2.length ≤ M.c2
  r3 : Kd.C Kd.bool w M.A3 D.l3.length D.l3
  h3 : D.l3.length ≤ M.c3
  r4 : Kd.C k54 w M.A4 D.l4.length D.l4
  h4 : D.l4.length ≤ M.c4
abbrev Mm.s1 (M : Mm) (D : Dd) : Value := .slice M.A1 D.l1.length M.c1
abbrev Mm.s2 (M : Mm) (D : Dd) : Value := .slice M.A2 D.l2.length M.c2
abbrev Mm.s3 (M : Mm) (D : Dd) : Value := .slice M.A3 D.l3.length M.c3
abbrev Mm.s4 (M : Mm) (D : Dd) : Value := .slice M.A4 D.l4.length M.c4
structure Own (w : World) (lo hi : Nat) (M : Mm) (D : Dd) : Prop where
  o1 : Kd.R Kd.string 9 w lo (fun k => k < hi ∧ some k ≠ (M.s2 D).ownBlock) (M.s1 D) D.l1
  o2 : Kd.R Kd.string 9 w lo (fun k => k < hi ∧ some k ≠ (M.s1 D).ownBlock) (M.s2 D) D.l2
  o3 : Kd.R Kd.bool 4 w lo (fun k => k < hi) (M.s3 D) D.l3
  o4 : Kd.R k54 54 w lo (fun k => k < hi) (M.s4 D) D.l4
theorem Rd.below {w w' : World} {M : Mm} {D : Dd} (h : Rd w M D) (hb : Below w.heap.size w w') : Rd w' M D :=
  ⟨Kd.C_below h.r1 hb, h.h1, Kd.C_below h.r2 hb, h.h2, Kd.C_below h.r3 hb, h.h3, Kd.C_below h.r4 hb, h.h4⟩
theorem R_C {α : Type} {d : Kd α} {t : Nat} {w : World} {lo n c : Nat} {A : Option Addr} {ok : Nat → Prop} {xs : List α} (h : d.R t w lo ok (.slice A n c) xs) (hn : n = xs.length) : d.C w A xs.length xs ∧ xs.length ≤ c := by
  obtain ⟨A', c', h1, h2, h3⟩ := Kd.R_reads h
  injection h1 with h1 _ h4
  subst h1
  subst h4
  exact ⟨h3, h2⟩
theorem Own.rd {w : World} {lo hi : Nat} {M : Mm} {D : Dd} (h : Own w lo hi M D) : Rd w M D :=
  ⟨(R_C h.o1 rfl).1, (R_C h.o1 rfl).2, (R_C h.o2 rfl).1, (R_C h.o2 rfl).2, (R_C h.o3 rfl).1, (R_C h.o3 rfl).2, (R_C h.o4 rfl).1, (R_C h.o4 rfl).2⟩
theorem R_in {α : Type} {d : Kd α} {t : Nat} {w w' : World} {lo hi : Nat} {v : Value} {ok : Nat → Prop} {xs : List α} (h : d.R t w lo ok v xs) (hok : ∀ k, ok k → k < hi) (hk : ∀ k, lo ≤ k → k < hi → w'.heap[k]? = w.heap[k]?) : d.R t w' lo ok v xs :=
  Kd.R_mono (Kd.R_move (Kd.R_bound h) fun k h1 => hk k h1.2.1 (hok k h1.1)) fun _ h1 => h1.1
theorem Own.move {w w' : World} {lo hi : Nat} {M : Mm} {D : Dd} (h : Own w lo hi M D) (hk : ∀ k, lo ≤ k → k < hi → w'.heap[k]? = w.heap[k]?) : Own w' lo hi M D :=
  ⟨R_in h.o1 (fun _ h => h.1) hk, R_in h.o2 (fun _ h => h.1) hk, R_in h.o3 (fun _ h => h) hk, R_in h.o4 (fun _ h => h) hk⟩
theorem Hd.own {base : Nat} {w0 w : World} {L : List Part} (h : Hd base w0 w L) (i : Nat) {lo hi : Nat} {wc : World} {M : Mm} {D : Dd} (e : L[i]? = some (.same lo hi wc)) (ho : Own wc lo hi M D) : Own w lo hi M D := ho.move (h.same i e)
theorem Hd.rd {base : Nat} {w0 w : World} {L : List Part} (h : Hd base w0 w L) (i : Nat) {lo hi : Nat} {wc : World} {M : Mm} {D : Dd} (e : L[i]? = some (.same lo hi wc)) (ho : Own wc lo hi M D) : Rd w M D := (h.own i e ho).rd
theorem R_hi {α : Type} {d : Kd α} {t : Nat} {w : World} {lo : Nat} {v : Value} {ok : Nat → Prop} {xs : List α} (h : d.R t w lo ok v xs) : d.R t w lo (fun k => k < w.heap.size ∧ ok k) v xs :=
  Kd.R_mono (Kd.R_bound h) fun _ h1 => ⟨h1.2.2.1, h1.1⟩
theorem own_of {w : World} {lo : Nat} {st : Int} {v1 v2 v3 v4 : Value} {l1 l2 : List ByteArray} {l3 : List Bool} {l4 : List S54} (o1 : Kd.R Kd.string 9 w lo (fun k_ => some k_ ≠ v2.ownBlock) v1 l1) (o2 : Kd.R Kd.string 9 w lo (fun k_ => some k_ ≠ v1.ownBlock) v2 l2) (o3 : Kd.R Kd.bool 4 w lo (fun _ => True) v3 l3) (o4 : Kd.R k54 54 w lo (fun _ => True) v4 l4) :
    ∃ M : Mm, #[.int .i64 st, v1, v2, v3, v4] = cD M ⟨st, l1, l2, l3, l4⟩ ∧ Own w lo w.heap.size M ⟨st, l1, l2, l3, l4⟩ := by
  obtain ⟨A1, c1, rfl⟩ := Kd.R_slice o1
  obtain ⟨A2, c2, rfl⟩ := Kd.R_slice o2
  obtain ⟨A3, c3, rfl⟩ := Kd.R_slice o3
  obtain ⟨A4, c4, rfl⟩ := Kd.R_slice o4
  exact ⟨⟨A1, c1, A2, c2, A3, c3, A4, c4⟩, rfl, R_hi o1, R_hi o2, Kd.R_mono (R_hi o3) fun _ h => h.1, Kd.R_mono (R_hi o4) fun _ h => h.1⟩
def FitsD (D : Dd) : Prop := Fits D.l1 D.l2 D.l3 D.l4.length
def Gives (D : Dd) (w : World) (e : Ending) (w' : World) : Prop := ∃ M : Mm, e = .returned (.agg (cD M D)) ∧ Own w' w.heap.size w'.heap.size M D ∧ Below w.heap.size w w'
theorem gives_of {w w' : World} {e : Ending} {st : Int} {l1 l2 : List ByteArray} {l3 : List Bool} {l4 : List S54} (h : ∃ v1_ v2_ v3_ v4_ : Value, e = .returned (.agg #[.int .i64 st, v1_, v2_, v3_, v4_]) ∧ Kd.R Kd.string 9 w' w.heap.size (fun k_ => some k_ ≠ (v2_ : Value).ownBlock) v1_ l1 ∧ Kd.R Kd.string 9 w' w.heap.size (fun k_ => some k_ ≠ (v1_ : Value).ownBlock) v2_ l2 ∧ Kd.R Kd.bool 4 w' w.heap.size (fun _ => True) v3_ l3 ∧ Kd.R k54 54 w' w.heap.size (fun _ => True) v4_ l4 ∧ Below w.heap.size w w') : Gives ⟨st, l1, l2, l3, l4⟩ w e w' := by
  obtain ⟨v1, v2, v3, v4, he, o1, o2, o3, o4, hb⟩ := h
  obtain ⟨M, hM, ho⟩ := own_of (st := st) o1 o2 o3 o4
  exact ⟨M, by rw [he, hM], ho, hb⟩
theorem R_base {α : Type} {enc : α → Value} {h1 : ∀ x, (enc x).oneCell' = true} {t : Nat} {w : World} {b lo : Nat} {v : Value} {ok ok' : Nat → Prop} {xs : List α} (h : (Kd.scalar enc h1).R t w b ok v xs) (hb : ∀ k, v.ownBlock = some k → lo ≤ k) (hok : ∀ k, v.ownBlock = some k → ok' k) : (Kd.scalar enc h1).R t w lo ok' v xs := by
  obtain ⟨_, inner, ho, hr⟩ := h
  refine ⟨hok, inner, ⟨ho.1, ?_⟩, hr⟩
  rcases ho.2 with h2 | ⟨g, cap, cur, e, hg, r⟩
  · exact .inl h2
  · exact .inr ⟨g, cap, cur, e, hb g (by rw [e]; rfl), r⟩
theorem R_base54 {t : Nat} {w : World} {b lo : Nat} {v : Value} {ok ok' : Nat → Prop} {xs : List S54} (h : k54.R t w b ok v xs) (hb : ∀ k, v.ownBlock = some k → lo ≤ k) (hok : ∀ k, v.ownBlock = some k → ok' k) : k54.R t w lo ok' v xs := by
  obtain ⟨_, inner, ho, hr⟩ := h
  refine ⟨hok, inner, ⟨ho.1, ?_⟩, hr⟩
  rcases ho.2 with h2 | ⟨g, cap, cur, e, hg, r⟩
  · exact .inl h2
  · exact .inr ⟨g, cap, cur, e, hb g (by rw [e]; rfl), r⟩
theorem own_ge {α : Type} {d : Kd α} {t : Nat} {w : World} {b : Nat} {v : Value} {ok : Nat → Prop} {xs : List α} (h : d.R t w b ok v xs) : ∀ k, v.ownBlock = some k → b ≤ k ∧ ok k := fun k hk => by
  obtain ⟨h0, inner, ho, hr⟩ := h
  exact ⟨own_base ho k hk, h0 k hk⟩
end Go.Proofs.Ytkgpnloghmbmlaa.Hd
