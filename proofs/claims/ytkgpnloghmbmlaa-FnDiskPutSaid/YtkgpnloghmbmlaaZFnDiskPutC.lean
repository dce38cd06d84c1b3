/- Proved, with what follows on it: the row of the law FnDiskPut. Conditions: the row's alone. Texts of this session and words that the kit's print laid for this seat, merged and cut by shrink.py, a program of this session. -/
import Derived.ChangeKeysEq
import Derived.Laws.Cover3
import Derived.Test.YtkgpnloghmbmlaaZFnDiskPutB
namespace Go.Proofs.Ytkgpnloghmbmlaa.Drv
open Go.RowKit Go.Proofs.Ytkgpnloghmbmlaa.Print Go.Proofs.YtkgpnloghmbmlaaW.PrintWords
set_option linter.unusedVariables false
abbrev Pt := S54
def Node (w : World) (b : Nat) (p : Pt) (nx : Value) : Prop := w.heap[b]? = some (.cells #[.bool p.f0, .int .i64 p.f1, .string p.f2, nx] 112 (0, 0))
def toN : List (Nat × Pt) → Value → Value
  | [], e => e
  | x :: _, _ => .pointer (some ⟨x.1, 0, none⟩)
theorem toN_append (a b : List (Nat × Pt)) (e : Value) : toN (a ++ b) e = toN a (toN b e) := by cases a <;> rfl
def Seg (w : World) : Nat → List (Nat × Pt) → Value → Prop
  | _, [], _ => True
  | lo, x :: r, e => lo < x.1 ∧ Node w x.1 x.2 (toN r e) ∧ Seg w x.1 r e
def lastN : Nat → List (Nat × Pt) → Nat
  | lo, [] => lo
  | _, x :: r => lastN x.1 r
theorem lastN_snoc (x : Nat × Pt) : ∀ (lo : Nat) (ns : List (Nat × Pt)), lastN lo (ns ++ [x]) = x.1
  | _, [] => rfl
  | _, y :: r => lastN_snoc x y.1 r
theorem Seg.le {w : World} {e : Value} : ∀ {lo : Nat} {ns : List (Nat × Pt)}, Seg w lo ns e → lo ≤ lastN lo ns
  | _, [], _ => Nat.le_refl _
  | lo, x :: r, h => Nat.le_trans (Nat.le_of_lt h.1) (Seg.le h.2.2)
theorem Seg.lt {w : World} {e : Value} : ∀ {lo : Nat} {ns : List (Nat × Pt)}, Seg w lo ns e → lo < w.heap.size → lastN lo ns < w.heap.size
  | _, [], _, h => h
  | lo, x :: r, h, _ => (Seg.lt (lo := x.1) (ns := r) h.2.2 (blk_lt h.2.1) : lastN x.1 r < w.heap.size)
theorem Seg.mono {w : World} {e : Value} {lo lo' : Nat} {ns : List (Nat × Pt)} (h : Seg w lo ns e) (hl : lo' ≤ lo) : Seg w lo' ns e := by
  cases ns with
  | nil => trivial
  | cons x r => exact ⟨Nat.lt_of_le_of_lt hl h.1, h.2⟩
theorem Seg.keep {w w' : World} {e : Value} : ∀ {lo : Nat} {ns : List (Nat × Pt)}, Seg w lo ns e → (∀ k, lo < k → k ≤ lastN lo ns → w'.heap[k]? = w.heap[k]?) → Seg w' lo ns e
  | _, [], _, _ => trivial
  | lo, x :: r, h, hk => ⟨h.1, (hk _ h.1 (Seg.le h.2.2)).trans h.2.1, Seg.keep h.2.2 fun k h1 h2 => hk k (Nat.lt_trans h.1 h1) h2⟩
theorem Seg.append {w : World} {e : Value} {ms : List (Nat × Pt)} : ∀ {lo : Nat} {ns : List (Nat × Pt)}, Seg w lo (ns ++ ms) e ↔ Seg w lo ns (toN ms e) ∧ Seg w (lastN lo ns) ms e
  | _, [] => ⟨fun h => ⟨trivial, h⟩, fun h => h.2⟩
  | lo, x :: r => by
    simp only [List.cons_append, Seg, lastN, toN_append, Seg.append (lo := x.1) (ns := r)]
    exact ⟨fun h => ⟨⟨h.1, h.2.1, h.2.2.1⟩, h.2.2.2⟩, fun h => ⟨h.1.1, h.1.2.1, h.1.2.2, h.2⟩⟩
def dcells (st : Int) (sp : List Bool) (sl rg : List ByteArray) (fi : Value) : Array Value :=
  (.int .i64 st :: (sp.map Value.bool ++ (sl.map Value.string ++ (rg.map Value.string ++ [fi])))).toArray
structure Drv (w : World) (g : Nat) (st : Int) (sp : List Bool) (sl rg : List ByteArray) (ns : List (Nat × Pt)) : Prop where
  blk : w.heap[g]? = some (.cells (dcells st sp sl rg (toN ns (.pointer none))) 80 (0, 0))
  seg : Seg w g ns (.pointer none)
  lsp : sp.length = 12
  lsl : sl.length = 12
  lrg : rg.length = 2
section
variable {st : Int} {sp : List Bool} {sl rg : List ByteArray} {fi : Value}
theorem dc_st : (dcells st sp sl rg fi)[0]? = some (.int .i64 st) := by simp [dcells]
theorem dc_sp (hsp : sp.length = 12) {i : Nat} (hi : i < 12) : (dcells st sp sl rg fi)[1 + i]? = some (.bool (sp.getD i false)) := by
  have : i < sp.length := by omega
  simp [dcells, Nat.add_comm 1 i, List.getElem?_append, this, List.getD]
theorem dc_sl (hsp : sp.length = 12) (hsl : sl.length = 12) {i : Nat} (hi : i < 12) : (dcells st sp sl rg fi)[13 + i]? = some (.string (sl.getD i ByteArray.empty)) := by
  have h1 : i < sl.length := by omega
  have e : 13 + i = (12 + i) + 1 := by omega
  have h3 : ¬ 12 + i < sp.length := by omega
  have h4 : 12 + i - sp.length = i := by omega
  rw [e]
  simp [dcells, List.getElem?_append, h1, h3, h4, List.getD]
theorem dc_rg (hsp : sp.length = 12) (hsl : sl.length = 12) (hrg : rg.length = 2) {i : Nat} (hi : i < 2) : (dcells st sp sl rg fi)[25 + i]? = some (.string (rg.getD i ByteArray.empty)) := by
  have h1 : i < rg.length := by omega
  have e : 25 + i = (24 + i) + 1 := by omega
  have h3 : ¬ 24 + i < sp.length := by omega
  have h4 : 24 + i - sp.length = 12 + i := by omega
  have h5 : ¬ 12 + i < sl.length := by omega
  have h6 : 12 + i - sl.length = i := by omega
  rw [e]
  simp [dcells, List.getElem?_append, h1, h3, h4, h5, h6, List.getD]
theorem dc_fi (hsp : sp.length = 12) (hsl : sl.length = 12) (hrg : rg.length = 2) : (dcells st sp sl rg fi)[27]? = some fi := by
  simp [dcells, hsp, hsl, hrg]
theorem set_fi (hsp : sp.length = 12) (hsl : sl.length = 12) (hrg : rg.length = 2) (v : Value) : (dcells st sp sl rg fi).setIfInBounds 27 v = dcells st sp sl rg v := by
  simp [dcells, hsp, hsl, hrg]
theorem set_sp (hsp : sp.length = 12) {i : Nat} (hi : i < 12) (b : Bool) : (dcells st sp sl rg fi).setIfInBounds (1 + i) (.bool b) = dcells st (sp.set i b) sl rg fi := by
  simp [dcells, Nat.add_comm 1 i, hsp, hi, List.map_set]
theorem set_sl (hsp : sp.length = 12) (hsl : sl.length = 12) {i : Nat} (hi : i < 12) (s : ByteArray) : (dcells st sp sl rg fi).setIfInBounds (13 + i) (.string s) = dcells st sp (sl.set i s) rg fi := by
  have e : 13 + i = (12 + i) + 1 := by omega
  have h3 : ¬ 12 + i < sp.length := by omega
  have h4 : 12 + i - sp.length = i := by omega
  rw [e]
  simp [dcells, List.set_append, h3, h4, hsl, hi, List.map_set]
theorem set_rg (hsp : sp.length = 12) (hsl : sl.length = 12) (hrg : rg.length = 2) {i : Nat} (hi : i < 2) (s : ByteArray) : (dcells st sp sl rg fi).setIfInBounds (25 + i) (.string s) = dcells st sp sl (rg.set i s) fi := by
  have e : 25 + i = (24 + i) + 1 := by omega
  have h3 : ¬ 24 + i < sp.length := by omega
  have h4 : 24 + i - sp.length = 12 + i := by omega
  have h5 : ¬ 12 + i < sl.length := by omega
  have h6 : 12 + i - sl.length = i := by omega
  rw [e]
  simp [dcells, List.set_append, h3, h4, h5, h6, hrg, hi, List.map_set]
end
def linkOf (g : Nat) : List (Nat × Pt) → Addr
  | [] => ⟨g, 27, none⟩
  | x :: r => ⟨lastN x.1 r, 3, none⟩
theorem Drv.keep {w w' : World} {g : Nat} {st : Int} {sp : List Bool} {sl rg : List ByteArray} {ns : List (Nat × Pt)} (h : Drv w g st sp sl rg ns) (hk : ∀ k, g ≤ k → k < w.heap.size → w'.heap[k]? = w.heap[k]?) : Drv w' g st sp sl rg ns :=
  ⟨(hk g (Nat.le_refl _) (blk_lt h.blk)).trans h.blk, h.seg.keep (fun k h1 h2 => hk k (Nat.le_of_lt h1) (Nat.lt_of_le_of_lt h2 (h.seg.lt (blk_lt h.blk)))), h.lsp, h.lsl, h.lrg⟩
theorem Drv.below {w w' : World} {g : Nat} {st : Int} {sp : List Bool} {sl rg : List ByteArray} {ns : List (Nat × Pt)} (h : Drv w g st sp sl rg ns) (hk : Below w.heap.size w w') : Drv w' g st sp sl rg ns :=
  h.keep fun k _ h2 => hk.block k h2
theorem Drv.own {w : World} {g : Nat} {st : Int} {sp : List Bool} {sl rg : List ByteArray} {ns : List (Nat × Pt)} (h : Drv w g st sp sl rg ns) {j : Nat} {v : Value} {sp' : List Bool} {sl' rg' : List ByteArray} {ms : List (Nat × Pt)}
    (e : (dcells st sp sl rg (toN ns (.pointer none))).setIfInBounds j v = dcells st sp' sl' rg' (toN ms (.pointer none))) (hs : Seg w g ms (.pointer none)) (h1 : sp'.length = 12) (h2 : sl'.length = 12) (h3 : rg'.length = 2) :
    Drv (w.setCell ⟨g, j, none⟩ v) g st sp' sl' rg' ms :=
  ⟨e ▸ blk_set h.blk j v, hs.keep (fun k h1 _ => Below.heap_setCell w ⟨g, j, none⟩ v k (by show k ≠ g; omega)), h1, h2, h3⟩
theorem Drv.putRing {w : World} {g : Nat} {st : Int} {sp : List Bool} {sl rg : List ByteArray} {ns : List (Nat × Pt)} (h : Drv w g st sp sl rg ns) {i : Nat} (hi : i < 2) (s : ByteArray) : Drv (w.setCell ⟨g, 25 + i, none⟩ (.string s)) g st sp sl (rg.set i s) ns :=
  h.own (set_rg h.lsp h.lsl h.lrg hi s) h.seg h.lsp h.lsl (by simpa using h.lrg)
theorem Drv.putSlot {w : World} {g : Nat} {st : Int} {sp : List Bool} {sl rg : List ByteArray} {ns : List (Nat × Pt)} (h : Drv w g st sp sl rg ns) {i : Nat} (hi : i < 12) (s : ByteArray) : Drv (w.setCell ⟨g, 13 + i, none⟩ (.string s)) g st sp (sl.set i s) rg ns :=
  h.own (set_sl h.lsp h.lsl hi s) h.seg h.lsp (by simpa using h.lsl) h.lrg
theorem Drv.putSpoilt {w : World} {g : Nat} {st : Int} {sp : List Bool} {sl rg : List ByteArray} {ns : List (Nat × Pt)} (h : Drv w g st sp sl rg ns) {i : Nat} (hi : i < 12) (b : Bool) : Drv (w.setCell ⟨g, 1 + i, none⟩ (.bool b)) g st (sp.set i b) sl rg ns :=
  h.own (set_sp h.lsp hi b) h.seg (by simpa using h.lsp) h.lsl h.lrg
theorem Drv.drop {w : World} {g : Nat} {st : Int} {sp : List Bool} {sl rg : List ByteArray} {x : Nat × Pt} {ns : List (Nat × Pt)} (h : Drv w g st sp sl rg (x :: ns)) : Drv (w.setCell ⟨g, 27, none⟩ (toN ns (.pointer none))) g st sp sl rg ns :=
  h.own (set_fi h.lsp h.lsl h.lrg _) (h.seg.2.2.mono (Nat.le_of_lt h.seg.1)) h.lsp h.lsl h.lrg
theorem Drv.link {w : World} {g : Nat} {st : Int} {sp : List Bool} {sl rg : List ByteArray} {ns ms : List (Nat × Pt)} (h : Drv w g st sp sl rg (ns ++ ms)) : w.cell? (linkOf g ns) = some (toN ms (.pointer none)) := by
  rcases List.eq_nil_or_concat ns with rfl | ⟨r, x, rfl⟩
  · exact (zq4 h.blk 27).trans (dc_fi h.lsp h.lsl h.lrg)
  · have hs := (Seg.append.1 h.seg).1
    have hx := (Seg.append.1 (by simpa using hs : Seg w g (r ++ [x]) _)).2
    have e : linkOf g (r ++ [x]) = ⟨x.1, 3, none⟩ := by
      cases r with
      | nil => rfl
      | cons y r => exact congrArg (fun b => (⟨b, 3, none⟩ : Addr)) (lastN_snoc x y.1 r)
    simp only [List.concat_eq_append, e]
    exact (zq4 hx.2.1 3).trans rfl
theorem Drv.linkFree {w : World} {g : Nat} {st : Int} {sp : List Bool} {sl rg : List ByteArray} {ns ms : List (Nat × Pt)} (h : Drv w g st sp sl rg (ns ++ ms)) : w.frozen? (linkOf g ns) = false := by
  rcases List.eq_nil_or_concat ns with rfl | ⟨r, x, rfl⟩
  · exact zq5 h.blk 27
  · have hs := (Seg.append.1 h.seg).1
    have hx := (Seg.append.1 (by simpa using hs : Seg w g (r ++ [x]) _)).2
    have e : linkOf g (r ++ [x]) = ⟨x.1, 3, none⟩ := by
      cases r with
      | nil => rfl
      | cons y r => exact congrArg (fun b => (⟨b, 3, none⟩ : Addr)) (lastN_snoc x y.1 r)
    simp only [List.concat_eq_append, e]
    exact zq5 hx.2.1 3
theorem Drv.hang {w : World} {g n : Nat} {p : Pt} {st : Int} {sp : List Bool} {sl rg : List ByteArray} {ns : List (Nat × Pt)} (h : Drv w g st sp sl rg ns) (hn : Node w n p (.pointer none)) (hl : lastN g ns < n) :
    Drv (w.setCell (linkOf g ns) (.pointer (some ⟨n, 0, none⟩))) g st sp sl rg (ns ++ [(n, p)]) := by
  rcases List.eq_nil_or_concat ns with rfl | ⟨r, x, rfl⟩
  · refine ⟨?_, ⟨hl, (Below.heap_setCell w _ _ n (by show n ≠ g; have : g < n := hl; omega)).trans hn, trivial⟩, h.lsp, h.lsl, h.lrg⟩
    have := blk_set h.blk 27 (.pointer (some ⟨n, 0, none⟩))
    rw [set_fi h.lsp h.lsl h.lrg] at this
    exact this
  · simp only [List.concat_eq_append] at h hl ⊢
    have e : linkOf g (r ++ [x]) = ⟨x.1, 3, none⟩ := by
      cases r with
      | nil => rfl
      | cons y r => exact congrArg (fun b => (⟨b, 3, none⟩ : Addr)) (lastN_snoc x y.1 r)
    rw [lastN_snoc] at hl
    obtain ⟨h1, h2⟩ := Seg.append.1 h.seg
    have hg : g ≤ lastN g r := h1.le
    have hx : lastN g r < x.1 := h2.1
    have far : ∀ k, k ≠ x.1 → (w.setCell (linkOf g (r ++ [x])) (.pointer (some ⟨n, 0, none⟩))).heap[k]? = w.heap[k]? := fun k hk => by
      rw [e]
      exact Below.heap_setCell w _ _ k hk
    refine ⟨(far g (by omega)).trans ?_, Seg.append.2 ⟨Seg.append.2 ⟨h1.keep fun k _ hk => far k (by omega), hx, ?_, trivial⟩, ?_, (far n (by omega)).trans hn, trivial⟩, h.lsp, h.lsl, h.lrg⟩
    · have := h.blk
      simp only [toN_append] at this ⊢
      exact this
    · rw [e]
      exact blk_set h2.2.1 3 _
    · rw [lastN_snoc]
      exact hl
theorem linkOf_block (g : Nat) (ns : List (Nat × Pt)) : (linkOf g ns).block = lastN g ns := by cases ns <;> rfl
theorem linkOf_snoc (g n : Nat) (p : Pt) (ns : List (Nat × Pt)) : linkOf g (ns ++ [(n, p)]) = ⟨n, 3, none⟩ := by
  cases ns with
  | nil => rfl
  | cons y r => exact congrArg (fun b => (⟨b, 3, none⟩ : Addr)) (lastN_snoc (n, p) y.1 r)
theorem Drv.keepL {w w' : World} {g : Nat} {st : Int} {sp : List Bool} {sl rg : List ByteArray} {ns : List (Nat × Pt)} (h : Drv w g st sp sl rg ns) (hk : ∀ k, g ≤ k → k ≤ lastN g ns → w'.heap[k]? = w.heap[k]?) : Drv w' g st sp sl rg ns :=
  ⟨(hk g (Nat.le_refl _) h.seg.le).trans h.blk, h.seg.keep (fun k h1 h2 => hk k (Nat.le_of_lt h1) h2), h.lsp, h.lsl, h.lrg⟩
theorem Drv.far {w : World} {g : Nat} {st : Int} {sp : List Bool} {sl rg : List ByteArray} {ns : List (Nat × Pt)} (h : Drv w g st sp sl rg ns) {p : Addr} (hp : lastN g ns < p.block) (v : Value) : Drv (w.setCell p v) g st sp sl rg ns :=
  h.keepL fun k _ hk => Below.heap_setCell w p v k (by omega)
theorem Drv.last_lt {w : World} {g : Nat} {st : Int} {sp : List Bool} {sl rg : List ByteArray} {ns : List (Nat × Pt)} (h : Drv w g st sp sl rg ns) : lastN g ns < w.heap.size := h.seg.lt (blk_lt h.blk)
theorem Drv.linkE {w : World} {g : Nat} {st : Int} {sp : List Bool} {sl rg : List ByteArray} {ns : List (Nat × Pt)} (h : Drv w g st sp sl rg ns) : w.cell? (linkOf g ns) = some (.pointer none) := Drv.link (ms := []) (by rw [List.append_nil]; exact h)
theorem Drv.linkFreeE {w : World} {g : Nat} {st : Int} {sp : List Bool} {sl rg : List ByteArray} {ns : List (Nat × Pt)} (h : Drv w g st sp sl rg ns) : w.frozen? (linkOf g ns) = false := Drv.linkFree (ms := []) (by rw [List.append_nil]; exact h)
theorem eqItems_strs {P : Program} {e : TypeId} (he : P.underlying e = some .string) (hc : P.cellsOf e = 1) (d : Nat) (w : World) (xs ys : List ByteArray) : ∀ is : List Nat, (∀ i ∈ is, i < xs.length ∧ i < ys.length) →
    (Op.eqItems (d + 1) e (P.cellsOf e) (xs.map Value.string).toArray (ys.map Value.string).toArray is).run P w = .ok (is.all fun i => (xs.getD i ByteArray.empty).toList == (ys.getD i ByteArray.empty).toList) w
  | [], _ => by simp [Op.eqItems]
  | i :: is, h => by
    obtain ⟨h1, h2⟩ := h i (by simp)
    have hk : P.plainKey e = true := by simp [Program.plainKey, he]
    have p1 : (part e (xs.map Value.string).toArray (i * P.cellsOf e)).run P w = .ok (.string (xs.getD i ByteArray.empty)) w := run_part_plain w hk (by simp [hc, h1, List.getD])
    have p2 : (part e (ys.map Value.string).toArray (i * P.cellsOf e)).run P w = .ok (.string (ys.getD i ByteArray.empty)) w := run_part_plain w hk (by simp [hc, h2, List.getD])
    simp only [Op.eqItems, Sem.run_bind, p1, p2, Result.andThen_ok, run_equalIn_string w d e _ _ he, List.all_cons]
    generalize hb : ((xs.getD i ByteArray.empty).toList == (ys.getD i ByteArray.empty).toList) = b
    cases b
    · simp
    · simpa using eqItems_strs he hc d w xs ys is (fun j hj => h j (by simp [hj]))
theorem equal_strs {P : Program} {t e : TypeId} {n : Nat} (ht : P.underlying t = some (.array n e)) (he : P.underlying e = some .string) (hc : P.cellsOf e = 1) (w : World) (xs : List ByteArray) (hx : xs.length = n) :
    (Op.equalIn 10000 t (.agg (xs.map Value.string).toArray) (.agg ((List.replicate n ByteArray.empty).map Value.string).toArray)).run P w = .ok (xs.all fun s => s.size == 0) w := by
  obtain ⟨i, hi⟩ := info_of_underlying he
  rw [run_equalIn_array w 9999 _ _ ht hi, eqItems_strs he hc 9998 w xs _ (List.range n) (fun i hi => by simp at hi; simp; omega)]
  congr 1
  rw [Bool.eq_iff_iff, List.all_eq_true, List.all_eq_true]
  constructor
  · intro h s hs
    obtain ⟨j, hj, rfl⟩ := List.getElem_of_mem hs
    have := h j (by simp; omega)
    have hj2 : j < n := by omega
    simp [List.getD, hj, hj2, ByteArray.toList_eq] at this
    simp [ByteArray.size, this]
  · intro h j hj
    simp only [List.mem_range] at hj
    have hj1 : j < xs.length := by omega
    have := h _ (List.getElem_mem hj1)
    have h2 : xs[j] = ByteArray.empty := by
      have : xs[j].size = 0 := by simpa using this
      exact ByteArray.ext (Array.eq_empty_of_size_eq_zero this)
    simp [List.getD, hj1, hj, h2]
end Go.Proofs.Ytkgpnloghmbmlaa.Drv
namespace Go.Proofs.Ytkgpnloghmbmlaa.Print
open Go.RowKit Go.Proofs.YtkgpnloghmbmlaaW.PrintWords Go.Proofs.YtkgpnloghmbmlaaW.PrintLast Go.Proofs.YtkgpnloghmbmlaaW.PrintMore Go.Proofs.Ytkgpnloghmbmlaa.Drv
set_option linter.unusedVariables false
set_option linter.unusedSimpArgs false
def Shaped (st : Int) (sl rg : List ByteArray) (sp : List Bool) (wt : List S54) : Prop := (0 ≤ st ∧ st ≤ 2) ∧ sl.length = 12 ∧ rg.length = 2 ∧ sp.length = 12 ∧ wt.length ≤ 40
instance (st : Int) (sl rg : List ByteArray) (sp : List Bool) (wt : List S54) : Decidable (Shaped st sl rg sp wt) := by unfold Shaped; infer_instance
theorem shaped_eq (st : Int) (sl rg : List ByteArray) (sp : List Bool) (wt : List S54) : impl_Disk_shaped.f st sl rg sp wt = some (decide (Shaped st sl rg sp wt)) := by
  unfold impl_Disk_shaped.f impl_isState.f
  by_cases h0 : st ≥ 0
  · rw [if_pos h0]
    simp only [Option.bind_some]
    by_cases h1 : st ≤ 2
    · rw [if_pos (decide_eq_true h1)]
      by_cases h2 : (sl.length : Int) = 12
      · rw [if_pos h2]
        by_cases h3 : (rg.length : Int) = 2
        · rw [if_pos h3]
          by_cases h4 : (sp.length : Int) = 12
          · rw [if_pos h4]
            congr 1
            rw [Bool.eq_iff_iff, decide_eq_true_iff, decide_eq_true_iff]
            unfold Shaped
            omega
          · rw [if_neg h4, decide_eq_false (by unfold Shaped; omega)]
        · rw [if_neg h3, decide_eq_false (by unfold Shaped; omega)]
      · rw [if_neg h2, decide_eq_false (by unfold Shaped; omega)]
    · rw [decide_eq_false h1, if_neg (by decide), decide_eq_false (by unfold Shaped; omega)]
  · rw [if_neg h0]
    simp only [Option.bind_some]
    rw [if_neg (by decide), decide_eq_false (by unfold Shaped; omega)]
def badSlot (t : ByteArray) (s : Bool) : Bool := if t.size = 0 then s else decide (t.size ≠ 3)
structure Good (st : Int) (sl rg : List ByteArray) (sp : List Bool) (wt : List S54) : Prop where
  sh : Shaped st sl rg sp wt
  wa : wt.any (fun x => !putB x) = false
  so : ∀ i, i < 12 → badSlot (sl.getD i ByteArray.empty) (sp.getD i false) = false
  ro : rg.any (fun x : ByteArray => decide ((x.size : Int) > 700)) = false
  go : st = 1 → sl.all (fun x => x.size == 0) = true ∧ rg.all (fun x => x.size == 0) = true ∧ wt.length = 0
set_option maxHeartbeats 4000000 in
set_option maxRecDepth 100000 in
theorem readDisk_shape (st : Int) (A1 : Option Addr) (c1 : Nat) (sl : List ByteArray) (A2 : Option Addr) (c2 : Nat) (rg : List ByteArray) (A3 : Option Addr) (c3 : Nat) (sp : List Bool) (A4 : Option Addr) (c4 : Nat) (wt : List S54) (w : World) (hr1 : Kd.C Kd.string w A1 sl.length sl) (hc1 : sl.length ≤ c1) (hr2 : Kd.C Kd.string w A2 rg.length rg) (hc2 : rg.length ≤ c2) (hr3 : Kd.C Kd.bool w A3 sp.length sp) (hc3 : sp.length ≤ c3) (hr4 : Kd.C k54 w A4 wt.length wt) (hc4 : wt.length ≤ c4) (hbad : ¬ Shaped st sl rg sp wt) :
    Calls Try.prog 52 #[.agg #[.int .i64 st, .slice A1 sl.length c1, .slice A2 rg.length c2, .slice A3 sp.length c3, .slice A4 wt.length c4]] w fun e w' => e = .returned (.tuple #[.pointer none, .bool false]) ∧ Below w.heap.size w w' := by
  have hu28 := Try.underlying28
  have HS := Az.mk (fun (W : World) (hb : Below w.heap.size w W) => impl_Disk_shaped.calls st _ _ sl _ _ rg _ _ sp _ _ wt _ W (Kd.C_below hr1 hb) hc1 (Kd.C_below hr2 hb) hc2 (Kd.C_below hr3 hb) hc3 (Kd.C_below hr4 hb) hc4 (shaped_eq st sl rg sp wt))
  have HW := Az.mk (fun (W : World) (hb : Below w.heap.size w W) => containsPut A4 c4 wt W (Kd.C_below hr4 hb) hc4)
  have HG := Az.mk (fun (W : World) (hb : Below w.heap.size w W) => containsText A2 c2 rg W (Kd.C_below hr2 hb) hc2)
  have HR1 := Az.mk hr1
  have HR2 := Az.mk hr2
  have HR3 := Az.mk hr3
  have HR4 := Az.mk hr4
  have HM := Az.mk (Kd.C_max hr4)
  clear hr1 hr2 hr3 hr4 hc1 hc2 hc3 hc4
  have HB := Az.mk (Below.refl w.heap.size w)
  rw [decide_eq_false hbad] at HS
  clear hbad
  go_enter Try.func52, Try.ntmps52
  go_wp2_with (first | ((with_reducible refine zqg (N := 1) rfl ?_); refine zqb ?hg (N := 1) ?hd (cs := #[.int .i64 st, .slice A1 sl.length c1, .slice A2 rg.length c2, .slice A3 sp.length c3, .slice A4 wt.length c4]) (t := 28) ?hr ?_; (case hd => rfl); (case hg => rfl); (case hr => first | (go_simp; done) | (go_simp; rfl)); intro gb hg w1 hbox hb; have n0_ := Az.mk (below_step (by repeat (first | (with_reducible first | exact HB.out | apply zq2 | apply zq1 | apply zqd) | exact HB.out)) hb); have n1_ := Az.mk hbox; clear HB; have HB := n0_; have BK := n1_; clear n0_ n1_ hb hbox hg; have hcz_0 : w1.cell? ⟨gb, 0, none⟩ = some (.int .i64 st) := (zq4 BK.out 0).trans rfl; have hcz_1 : w1.cell? ⟨gb, 1, none⟩ = some (.slice A1 sl.length c1) := (zq4 BK.out 1).trans rfl; have hcz_2 : w1.cell? ⟨gb, 2, none⟩ = some (.slice A2 rg.length c2) := (zq4 BK.out 2).trans rfl; have hcz_3 : w1.cell? ⟨gb, 3, none⟩ = some (.slice A3 sp.length c3) := (zq4 BK.out 3).trans rfl; have hcz_4 : w1.cell? ⟨gb, 4, none⟩ = some (.slice A4 wt.length c4) := (zq4 BK.out 4).trans rfl) | (go_at_call 91; refine (HS.out _ (by repeat (first | (with_reducible first | exact HB.out | apply zq2 | apply zq1 | apply zqd) | exact HB.out))).mono ?_; rintro e w9 ⟨rfl, hb⟩; have n0_ := Az.mk (below_step (by repeat (first | (with_reducible first | exact HB.out | apply zq2 | apply zq1 | apply zqd) | exact HB.out)) hb); have n1_ := Az.mk (blk_below (g := gb) (o := .cells #[.int .i64 st, .slice A1 sl.length c1, .slice A2 rg.length c2, .slice A3 sp.length c3, .slice A4 wt.length c4] 28 (0, 0)) (by (with_reducible repeat (first | refine zq6 ?_ _ | refine zq8 ?_ | refine zq7 ?_ _)); exact BK.out) hb); clear HB BK; have HB := n0_; have BK := n1_; clear n0_ n1_ hb; have hcz_0 : w9.cell? ⟨gb, 0, none⟩ = some (.int .i64 st) := (zq4 BK.out 0).trans rfl; have hcz_1 : w9.cell? ⟨gb, 1, none⟩ = some (.slice A1 sl.length c1) := (zq4 BK.out 1).trans rfl; have hcz_2 : w9.cell? ⟨gb, 2, none⟩ = some (.slice A2 rg.length c2) := (zq4 BK.out 2).trans rfl; have hcz_3 : w9.cell? ⟨gb, 3, none⟩ = some (.slice A3 sp.length c3) := (zq4 BK.out 3).trans rfl; have hcz_4 : w9.cell? ⟨gb, 4, none⟩ = some (.slice A4 wt.length c4) := (zq4 BK.out 4).trans rfl))
  go_ret2
  exact ⟨rfl, (by repeat (first | (with_reducible first | exact HB.out | apply zq2 | apply zq1 | apply zqd) | exact HB.out))⟩
set_option maxHeartbeats 4000000 in
set_option maxRecDepth 100000 in
theorem readDisk_wait (st : Int) (A1 : Option Addr) (c1 : Nat) (sl : List ByteArray) (A2 : Option Addr) (c2 : Nat) (rg : List ByteArray) (A3 : Option Addr) (c3 : Nat) (sp : List Bool) (A4 : Option Addr) (c4 : Nat) (wt : List S54) (w : World) (hr1 : Kd.C Kd.string w A1 sl.length sl) (hc1 : sl.length ≤ c1) (hr2 : Kd.C Kd.string w A2 rg.length rg) (hc2 : rg.length ≤ c2) (hr3 : Kd.C Kd.bool w A3 sp.length sp) (hc3 : sp.length ≤ c3) (hr4 : Kd.C k54 w A4 wt.length wt) (hc4 : wt.length ≤ c4) (hs : Shaped st sl rg sp wt) (hbad : wt.any (fun x => !putB x) = true) :
    Calls Try.prog 52 #[.agg #[.int .i64 st, .slice A1 sl.length c1, .slice A2 rg.length c2, .slice A3 sp.length c3, .slice A4 wt.length c4]] w fun e w' => e = .returned (.tuple #[.pointer none, .bool false]) ∧ Below w.heap.size w w' := by
  have hu28 := Try.underlying28
  have HS := Az.mk (fun (W : World) (hb : Below w.heap.size w W) => impl_Disk_shaped.calls st _ _ sl _ _ rg _ _ sp _ _ wt _ W (Kd.C_below hr1 hb) hc1 (Kd.C_below hr2 hb) hc2 (Kd.C_below hr3 hb) hc3 (Kd.C_below hr4 hb) hc4 (shaped_eq st sl rg sp wt))
  have HW := Az.mk (fun (W : World) (hb : Below w.heap.size w W) => containsPut A4 c4 wt W (Kd.C_below hr4 hb) hc4)
  have HG := Az.mk (fun (W : World) (hb : Below w.heap.size w W) => containsText A2 c2 rg W (Kd.C_below hr2 hb) hc2)
  have HR1 := Az.mk hr1
  have HR2 := Az.mk hr2
  have HR3 := Az.mk hr3
  have HR4 := Az.mk hr4
  have HM := Az.mk (Kd.C_max hr4)
  clear hr1 hr2 hr3 hr4 hc1 hc2 hc3 hc4
  have HB := Az.mk (Below.refl w.heap.size w)
  rw [decide_eq_true hs] at HS
  rw [hbad] at HW
  clear hbad hs
  go_enter Try.func52, Try.ntmps52
  go_wp2_with (first | ((with_reducible refine zqg (N := 1) rfl ?_); refine zqb ?hg (N := 1) ?hd (cs := #[.int .i64 st, .slice A1 sl.length c1, .slice A2 rg.length c2, .slice A3 sp.length c3, .slice A4 wt.length c4]) (t := 28) ?hr ?_; (case hd => rfl); (case hg => rfl); (case hr => first | (go_simp; done) | (go_simp; rfl)); intro gb hg w1 hbox hb; have n0_ := Az.mk (below_step (by repeat (first | (with_reducible first | exact HB.out | apply zq2 | apply zq1 | apply zqd) | exact HB.out)) hb); have n1_ := Az.mk hbox; clear HB; have HB := n0_; have BK := n1_; clear n0_ n1_ hb hbox hg; have hcz_0 : w1.cell? ⟨gb, 0, none⟩ = some (.int .i64 st) := (zq4 BK.out 0).trans rfl; have hcz_1 : w1.cell? ⟨gb, 1, none⟩ = some (.slice A1 sl.length c1) := (zq4 BK.out 1).trans rfl; have hcz_2 : w1.cell? ⟨gb, 2, none⟩ = some (.slice A2 rg.length c2) := (zq4 BK.out 2).trans rfl; have hcz_3 : w1.cell? ⟨gb, 3, none⟩ = some (.slice A3 sp.length c3) := (zq4 BK.out 3).trans rfl; have hcz_4 : w1.cell? ⟨gb, 4, none⟩ = some (.slice A4 wt.length c4) := (zq4 BK.out 4).trans rfl) | (go_at_call 91; refine (HS.out _ (by repeat (first | (with_reducible first | exact HB.out | apply zq2 | apply zq1 | apply zqd) | exact HB.out))).mono ?_; rintro e w9 ⟨rfl, hb⟩; have n0_ := Az.mk (below_step (by repeat (first | (with_reducible first | exact HB.out | apply zq2 | apply zq1 | apply zqd) | exact HB.out)) hb); have n1_ := Az.mk (blk_below (g := gb) (o := .cells #[.int .i64 st, .slice A1 sl.length c1, .slice A2 rg.length c2, .slice A3 sp.length c3, .slice A4 wt.length c4] 28 (0, 0)) (by (with_reducible repeat (first | refine zq6 ?_ _ | refine zq8 ?_ | refine zq7 ?_ _)); exact BK.out) hb); clear HB BK; have HB := n0_; have BK := n1_; clear n0_ n1_ hb; have hcz_0 : w9.cell? ⟨gb, 0, none⟩ = some (.int .i64 st) := (zq4 BK.out 0).trans rfl; have hcz_1 : w9.cell? ⟨gb, 1, none⟩ = some (.slice A1 sl.length c1) := (zq4 BK.out 1).trans rfl; have hcz_2 : w9.cell? ⟨gb, 2, none⟩ = some (.slice A2 rg.length c2) := (zq4 BK.out 2).trans rfl; have hcz_3 : w9.cell? ⟨gb, 3, none⟩ = some (.slice A3 sp.length c3) := (zq4 BK.out 3).trans rfl; have hcz_4 : w9.cell? ⟨gb, 4, none⟩ = some (.slice A4 wt.length c4) := (zq4 BK.out 4).trans rfl) | (go_at_call 92; refine (HW.out _ (by repeat (first | (with_reducible first | exact HB.out | apply zq2 | apply zq1 | apply zqd) | exact HB.out))).mono ?_; rintro e w10 ⟨rfl, hb⟩; have n0_ := Az.mk (below_step (by repeat (first | (with_reducible first | exact HB.out | apply zq2 | apply zq1 | apply zqd) | exact HB.out)) hb); have n1_ := Az.mk (blk_below (g := gb) (o := .cells #[.int .i64 st, .slice A1 sl.length c1, .slice A2 rg.length c2, .slice A3 sp.length c3, .slice A4 wt.length c4] 28 (0, 0)) (by (with_reducible repeat (first | refine zq6 ?_ _ | refine zq8 ?_ | refine zq7 ?_ _)); exact BK.out) hb); clear HB BK; have HB := n0_; have BK := n1_; clear n0_ n1_ hb; have hcz_0 : w10.cell? ⟨gb, 0, none⟩ = some (.int .i64 st) := (zq4 BK.out 0).trans rfl; have hcz_1 : w10.cell? ⟨gb, 1, none⟩ = some (.slice A1 sl.length c1) := (zq4 BK.out 1).trans rfl; have hcz_2 : w10.cell? ⟨gb, 2, none⟩ = some (.slice A2 rg.length c2) := (zq4 BK.out 2).trans rfl; have hcz_3 : w10.cell? ⟨gb, 3, none⟩ = some (.slice A3 sp.length c3) := (zq4 BK.out 3).trans rfl; have hcz_4 : w10.cell? ⟨gb, 4, none⟩ = some (.slice A4 wt.length c4) := (zq4 BK.out 4).trans rfl))
  go_ret2
  exact ⟨rfl, (by repeat (first | (with_reducible first | exact HB.out | apply zq2 | apply zq1 | apply zqd) | exact HB.out))⟩
theorem loadAt_list {P : Program} (W : World) (ad : Addr) (ty : TypeId) (cs : List Value) (d : TypeDesc) (hc : ∀ j v, cs[j]? = some v → W.cell? (ad.add j) = some v)
    (hu : P.underlying ty = some d) (hd : (match d with | .struct _ | .array _ _ => true | _ => false) = true) (hi : (P.info? ty).map (·.size) = some cs.length) :
    (Instr.loadAt ty (.pointer (some ad))).run P W = .ok (.agg cs.toArray) W := by
  have hl : (loadCells ad cs.length).run P W = .ok cs.toArray W := run_loadCells_list (P := P) W ad cs hc
  cases hq : P.info? ty with
  | none => simp [hq] at hi
  | some i =>
    have hs : i.size = cs.length := by simpa [hq] using hi
    have hagg : (isAgg ty).run P W = .ok true W := by
      unfold isAgg
      rw [Sem.run_bind, run_underlying hu W]
      cases d <;> simp_all
    simp [Instr.loadAt, Instr.sureAddr, loadVar, Sem.run_bind, hagg, sizeOf, typeInfo, hq, hs, hl]
theorem strs_at {w : World} {A : Option Addr} {l : List ByteArray} (h : Kd.C Kd.string w A l.length l) (h0 : 0 < l.length) : ∃ ad, A = some ad ∧ ∀ j v, (l.map Value.string)[j]? = some v → w.cell? (ad.add j) = some v := by
  obtain ⟨ad, e, _⟩ := Kd.at_string h 0 (by omega) (by omega)
  refine ⟨ad, e, fun j v hv => ?_⟩
  simp only [List.getElem?_map, Option.map_eq_some_iff] at hv
  obtain ⟨s, hs, rfl⟩ := hv
  have hj := (List.getElem?_eq_some_iff.1 hs).1
  obtain ⟨ad', e', hx⟩ := Kd.at_string h (j : Int) (by omega) (by omega)
  obtain rfl : ad = ad' := by rw [e] at e'; exact Option.some.inj e'
  simpa [rdOf, List.getD, hs] using hx
theorem bools_at {w : World} {A : Option Addr} {l : List Bool} (h : Kd.C Kd.bool w A l.length l) (h0 : 0 < l.length) : ∃ ad, A = some ad ∧ ∀ j v, (l.map Value.bool)[j]? = some v → w.cell? (ad.add j) = some v := by
  obtain ⟨ad, e, _⟩ := Kd.at_bool h 0 (by omega) (by omega)
  refine ⟨ad, e, fun j v hv => ?_⟩
  simp only [List.getElem?_map, Option.map_eq_some_iff] at hv
  obtain ⟨s, hs, rfl⟩ := hv
  have hj := (List.getElem?_eq_some_iff.1 hs).1
  obtain ⟨ad', e', hx⟩ := Kd.at_bool h (j : Int) (by omega) (by omega)
  obtain rfl : ad = ad' := by rw [e] at e'; exact Option.some.inj e'
  simpa [rdOf, List.getD, hs] using hx
theorem run_arrayAt {P : Program} {arr e : TypeId} {n : Nat} (hu : P.underlying arr = some (.array n e)) (ad : Addr) (len c : Nat) (h : n ≤ len) (w : World) : (Instr.arrayAt arr (.slice (some ad) len c)).run P w = .ok (.pointer (some ad)) w := by
  simp [Instr.arrayAt, run_underlying hu, Nat.not_lt.2 h]
theorem yields_load {P : Program} {op : Oper} {a : Act} {w : World} (ty : TypeId) (x : Operand) (ho : op.op = .load ty x) (ad : Addr) (hx : a.eval x = .pointer (some ad)) (v : Value)
    (hS : (Instr.loadAt ty (.pointer (some ad))).run P w = .ok v w) : (execOp a.eval op).run P w = .ok (.value v) w := by
  unfold execOp
  simp only [ho, hx, Sem.run_bind, hS, Result.andThen_ok, Sem.run_pure]
def ReadPost (st : Int) (sl rg : List ByteArray) (sp : List Bool) (wt : List S54) (w : World) (e : Ending) (w' : World) : Prop :=
  (¬ Good st sl rg sp wt ∧ e = .returned (.tuple #[.pointer none, .bool false]) ∧ Below w.heap.size w w') ∨ (Good st sl rg sp wt ∧ ∃ g ns, e = .returned (.tuple #[.pointer (some ⟨g, 0, none⟩), .bool true]) ∧ w.heap.size ≤ g ∧ Drv w' g st sp sl rg ns ∧ ns.map (·.2) = wt ∧ Below w.heap.size w w')
theorem neq_ev {P : Program} {ops : Array Oper} {rest : List Oper} {o : Oper} {a : Act} {w : World} {Q : Exit → Act → World → Prop} {t rt : TypeId} {x y : Operand} {xs ys : Array Value} {b : Bool} (hgd : o.guard = none) (ho : o.op = .binOp .neq t x y rt)
    (hx : a.eval x = .agg xs) (hy : a.eval y = .agg ys) (hg : P.eqGuardType P.depth t = false) (he : (Op.equalIn 10000 t (.agg xs) (.agg ys)).run P w = .ok b w) (h : wpList P ops Q rest (a.put o.dst (.bool (!b))) w) : wpList P ops Q (o :: rest) a w :=
  Kd.event_run hgd (by unfold execOp; simp only [ho, hx, hy, Sem.run_bind, run_eqGuard_agg w .neq t x y xs ys hg, Result.andThen_ok, run_neq_struct, he, Sem.run_pure]) h
theorem drv_load {W : World} {g : Nat} {st : Int} {sp : List Bool} {sl rg : List ByteArray} {ns : List (Nat × Pt)} (h : Drv W g st sp sl rg ns) {o : Nat} {l : List ByteArray} {ty : TypeId} {d : TypeDesc}
    (hc : ∀ i, i < l.length → W.cell? ⟨g, o + i, none⟩ = some (.string (l.getD i ByteArray.empty))) (hu : Try.prog.underlying ty = some d) (hd : d.isRow = true) (hi : (Try.prog.info? ty).map (·.size) = some l.length) :
    (Instr.loadAt ty (.pointer (some ⟨g, o, none⟩))).run Try.prog W = .ok (.agg (l.map Value.string).toArray) W :=
  loadAt_list W ⟨g, o, none⟩ ty (l.map Value.string) d (fun j v hv => by
    simp only [List.getElem?_map, Option.map_eq_some_iff] at hv
    obtain ⟨s, hs, rfl⟩ := hv
    rw [show (⟨g, o, none⟩ : Addr).add j = ⟨g, o + j, none⟩ by (unfold Addr.add; split <;> simp_all), hc j (List.getElem?_eq_some_iff.1 hs).1]
    simp [List.getD, hs]) hu (by cases d <;> simp_all [TypeDesc.isRow]) (by simpa using hi)
theorem load_ev {P : Program} {ops : Array Oper} {rest : List Oper} {o : Oper} {a : Act} {w : World} {Q : Exit → Act → World → Prop} {ty : TypeId} {x : Operand} {ad : Addr} (hgd : o.guard = none) (ho : o.op = .load ty x) (v : Value)
    (hl : (Instr.loadAt ty (.pointer (some ad))).run P w = .ok v w) (hx : a.eval x = .pointer (some ad)) (h : wpList P ops Q rest (a.put o.dst v) w) : wpList P ops Q (o :: rest) a w :=
  Kd.event_run hgd (yields_load ty x ho ad hx v hl) h
theorem _root_.ByteArray.size_toList_x (x : ByteArray) : x.toList.length = x.size := by rw [ByteArray.toList_eq, Array.length_toList]; rfl
theorem drv_drewN {W : World} {g : Nat} {st : Int} {sp : List Bool} {sl rg : List ByteArray} {ns : List (Nat × Pt)} (h : Drv W g st sp sl rg ns) (n : Nat) : Drv (W.drewN n) g st sp sl rg ns := h.keep fun _ _ _ => rfl
theorem drv_drew {W : World} {g : Nat} {st : Int} {sp : List Bool} {sl rg : List ByteArray} {ns : List (Nat × Pt)} (h : Drv W g st sp sl rg ns) : Drv W.drew g st sp sl rg ns := h.keep fun _ _ _ => rfl
set_option maxHeartbeats 8000000 in
set_option maxRecDepth 100000 in
theorem readDisk_main (st : Int) (ad1 ad2 ad3 : Addr) (A4 : Option Addr) (c1 c2 c3 c4 : Nat) (s0 s1 s2 s3 s4 s5 s6 s7 s8 s9 s10 s11 : ByteArray) (r0 r1 : ByteArray) (b0 b1 b2 b3 b4 b5 b6 b7 b8 b9 b10 b11 : Bool) (sl rg : List ByteArray) (sp : List Bool) (wt : List S54) (w : World) (esl : sl = [s0, s1, s2, s3, s4, s5, s6, s7, s8, s9, s10, s11]) (erg : rg = [r0, r1]) (esp : sp = [b0, b1, b2, b3, b4, b5, b6, b7, b8, b9, b10, b11])
    (hl1 : ∀ W : World, Below w.heap.size w W → (Instr.loadAt 76 (.pointer (some ad1))).run Try.prog W = .ok (.agg #[.string s0, .string s1, .string s2, .string s3, .string s4, .string s5, .string s6, .string s7, .string s8, .string s9, .string s10, .string s11]) W)
    (hl2 : ∀ W : World, Below w.heap.size w W → (Instr.loadAt 77 (.pointer (some ad2))).run Try.prog W = .ok (.agg #[.string r0, .string r1]) W)
    (hl3 : ∀ W : World, Below w.heap.size w W → (Instr.loadAt 73 (.pointer (some ad3))).run Try.prog W = .ok (.agg #[.bool b0, .bool b1, .bool b2, .bool b3, .bool b4, .bool b5, .bool b6, .bool b7, .bool b8, .bool b9, .bool b10, .bool b11]) W)
    (hcs : ∀ W : World, Below w.heap.size w W → Calls Try.prog 91 #[.agg #[.int .i64 st, .slice (some ad1) 12 c1, .slice (some ad2) 2 c2, .slice (some ad3) 12 c3, .slice A4 wt.length c4]] W fun e w' => e = .returned (.bool true) ∧ Below W.heap.size W w')
    (hcw : ∀ W : World, Below w.heap.size w W → Calls Try.prog 92 #[.slice A4 wt.length c4, .func (.func 93) #[] #[]] W fun e w' => e = .returned (.bool false) ∧ Below W.heap.size W w')
    (hcg : ∀ W : World, Below w.heap.size w W → Calls Try.prog 95 #[.slice (some ad2) 2 c2, .func (.func 96) #[] #[]] W fun e w' => e = .returned (.bool (rg.any fun x => decide ((x.size : Int) > 700))) ∧ Below W.heap.size W w')
    (hr1 : Kd.C Kd.string w (some ad1) 12 sl) (hr3 : Kd.C Kd.bool w (some ad3) 12 sp) (hr4 : Kd.C k54 w A4 wt.length wt) (hs : Shaped st sl rg sp wt) (hw : wt.any (fun x => !putB x) = false) :
    Calls Try.prog 52 #[.agg #[.int .i64 st, .slice (some ad1) 12 c1, .slice (some ad2) 2 c2, .slice (some ad3) 12 c3, .slice A4 wt.length c4]] w fun e w' => ReadPost st sl rg sp wt w e w' := by
  have hu28 := Try.underlying28
  have HS := Az.mk hcs
  have HW := Az.mk hcw
  have HG := Az.mk hcg
  have HL1 := Az.mk hl1
  have HL2 := Az.mk hl2
  have HL3 := Az.mk hl3
  have HR1 := Az.mk hr1
  have HR3 := Az.mk hr3
  have HR4 := Az.mk hr4
  have HM := Az.mk (Kd.C_max hr4)
  have HSH := Az.mk hs
  have HWA := Az.mk hw
  have ESL := Az.mk esl
  have ERG := Az.mk erg
  have ESP := Az.mk esp
  clear hr1 hr3 hr4 hl1 hl2 hl3 hs hw hcs hcw hcg esl erg esp
  have HB := Az.mk (Below.refl w.heap.size w)
  go_enter Try.func52, Try.ntmps52
  go_wp2_with (first | ((with_reducible refine zqg (N := 1) rfl ?_); refine zqb ?hg (N := 1) ?hd (cs := #[.int .i64 st, .slice (some ad1) 12 c1, .slice (some ad2) 2 c2, .slice (some ad3) 12 c3, .slice A4 wt.length c4]) (t := 28) ?hr ?_; (case hd => rfl); (case hg => rfl); (case hr => first | (go_simp; done) | (go_simp; rfl)); intro gb hg w1 hbox hb; have n0_ := Az.mk (below_step (by repeat (first | (with_reducible first | exact HB.out | apply zq2 | apply zq1 | apply zqd) | exact HB.out)) hb); have n1_ := Az.mk hbox; clear HB; have HB := n0_; have BK := n1_; clear n0_ n1_ hb hbox hg; have hcz_0 : w1.cell? ⟨gb, 0, none⟩ = some (.int .i64 st) := (zq4 BK.out 0).trans rfl; have hcz_1 : w1.cell? ⟨gb, 1, none⟩ = some (.slice (some ad1) 12 c1) := (zq4 BK.out 1).trans rfl; have hcz_2 : w1.cell? ⟨gb, 2, none⟩ = some (.slice (some ad2) 2 c2) := (zq4 BK.out 2).trans rfl; have hcz_3 : w1.cell? ⟨gb, 3, none⟩ = some (.slice (some ad3) 12 c3) := (zq4 BK.out 3).trans rfl; have hcz_4 : w1.cell? ⟨gb, 4, none⟩ = some (.slice A4 wt.length c4) := (zq4 BK.out 4).trans rfl) | (go_at_call 91; refine (HS.out _ (by repeat (first | (with_reducible first | exact HB.out | apply zq2 | apply zq1 | apply zqd) | exact HB.out))).mono ?_; rintro e w9 ⟨rfl, hb⟩; have n0_ := Az.mk (below_step (by repeat (first | (with_reducible first | exact HB.out | apply zq2 | apply zq1 | apply zqd) | exact HB.out)) hb); have n1_ := Az.mk (blk_below (g := gb) (o := .cells #[.int .i64 st, .slice (some ad1) 12 c1, .slice (some ad2) 2 c2, .slice (some ad3) 12 c3, .slice A4 wt.length c4] 28 (0, 0)) (by (with_reducible repeat (first | refine zq6 ?_ _ | refine zq8 ?_ | refine zq7 ?_ _)); exact BK.out) hb); clear HB BK; have HB := n0_; have BK := n1_; clear n0_ n1_ hb; have hcz_0 : w9.cell? ⟨gb, 0, none⟩ = some (.int .i64 st) := (zq4 BK.out 0).trans rfl; have hcz_1 : w9.cell? ⟨gb, 1, none⟩ = some (.slice (some ad1) 12 c1) := (zq4 BK.out 1).trans rfl; have hcz_2 : w9.cell? ⟨gb, 2, none⟩ = some (.slice (some ad2) 2 c2) := (zq4 BK.out 2).trans rfl; have hcz_3 : w9.cell? ⟨gb, 3, none⟩ = some (.slice (some ad3) 12 c3) := (zq4 BK.out 3).trans rfl; have hcz_4 : w9.cell? ⟨gb, 4, none⟩ = some (.slice A4 wt.length c4) := (zq4 BK.out 4).trans rfl) | (go_at_call 92; refine (HW.out _ (by repeat (first | (with_reducible first | exact HB.out | apply zq2 | apply zq1 | apply zqd) | exact HB.out))).mono ?_; rintro e w10 ⟨rfl, hb⟩; have n0_ := Az.mk (below_step (by repeat (first | (with_reducible first | exact HB.out | apply zq2 | apply zq1 | apply zqd) | exact HB.out)) hb); have n1_ := Az.mk (blk_below (g := gb) (o := .cells #[.int .i64 st, .slice (some ad1) 12 c1, .slice (some ad2) 2 c2, .slice (some ad3) 12 c3, .slice A4 wt.length c4] 28 (0, 0)) (by (with_reducible repeat (first | refine zq6 ?_ _ | refine zq8 ?_ | refine zq7 ?_ _)); exact BK.out) hb); clear HB BK; have HB := n0_; have BK := n1_; clear n0_ n1_ hb; have hcz_0 : w10.cell? ⟨gb, 0, none⟩ = some (.int .i64 st) := (zq4 BK.out 0).trans rfl; have hcz_1 : w10.cell? ⟨gb, 1, none⟩ = some (.slice (some ad1) 12 c1) := (zq4 BK.out 1).trans rfl; have hcz_2 : w10.cell? ⟨gb, 2, none⟩ = some (.slice (some ad2) 2 c2) := (zq4 BK.out 2).trans rfl; have hcz_3 : w10.cell? ⟨gb, 3, none⟩ = some (.slice (some ad3) 12 c3) := (zq4 BK.out 3).trans rfl; have hcz_4 : w10.cell? ⟨gb, 4, none⟩ = some (.slice A4 wt.length c4) := (zq4 BK.out 4).trans rfl; have hl1 := HL1.out w10 (by repeat (first | (with_reducible first | exact HB.out | apply zq2 | apply zq1 | apply zqd) | exact HB.out)); have hl2 := HL2.out w10 (by repeat (first | (with_reducible first | exact HB.out | apply zq2 | apply zq1 | apply zqd) | exact HB.out)); have hl3 := HL3.out w10 (by repeat (first | (with_reducible first | exact HB.out | apply zq2 | apply zq1 | apply zqd) | exact HB.out))))
  have hB10 : Az (Below w.heap.size w w10.drew) := ⟨(by repeat (first | (with_reducible first | exact HB.out | apply zq2 | apply zq1 | apply zqd) | exact HB.out))⟩
  refine start_ (n := 18) (S := fun w' => w'.cell? ⟨gb, 0, none⟩ = some (.int .i64 st) ∧ w'.cell? ⟨gb, 1, none⟩ = some (.slice (some ad1) 12 c1) ∧ w'.cell? ⟨gb, 2, none⟩ = some (.slice (some ad2) 2 c2) ∧ w'.cell? ⟨gb, 3, none⟩ = some (.slice (some ad3) 12 c3) ∧ w'.cell? ⟨gb, 4, none⟩ = some (.slice A4 wt.length c4) ∧ (Instr.loadAt 76 (.pointer (some ad1))).run Try.prog w' = .ok (.agg #[.string s0, .string s1, .string s2, .string s3, .string s4, .string s5, .string s6, .string s7, .string s8, .string s9, .string s10, .string s11]) w' ∧ (Instr.loadAt 77 (.pointer (some ad2))).run Try.prog w' = .ok (.agg #[.string r0, .string r1]) w' ∧ (Instr.loadAt 73 (.pointer (some ad3))).run Try.prog w' = .ok (.agg #[.bool b0, .bool b1, .bool b2, .bool b3, .bool b4, .bool b5, .bool b6, .bool b7, .bool b8, .bool b9, .bool b10, .bool b11]) w') (ds := [16]) #[false, false, false, false, false, false, false, false, false, false, false, false, false, false, false, false, false, false] (by kernel_rfl) rfl rfl ⟨(zq4 BK.out 0).trans rfl, (zq4 BK.out 1).trans rfl, (zq4 BK.out 2).trans rfl, (zq4 BK.out 3).trans rfl, (zq4 BK.out 4).trans rfl, HL1.out _ hB10.out, HL2.out _ hB10.out, HL3.out _ hB10.out⟩ (fun hHeld => ?_)
  clear hl1 hl2 hl3
  refine zqp (i := 0) (N := (some 18)) (v := ?_) (a' := ?_) #[true, false, false, false, false, false, false, false, false, false, false, false, false, false, false, false, false, false] rfl rfl (by kernel_rfl) (fun _ _ _ h => h) (Or.inl ⟨by rfl, ?_⟩) ?_ ?_
  rotate_left
  · intro w'
    go_simp
    with_reducible rfl
  rotate_left
  · simp only [Act.put, List.setIfInBounds_toArray, List.set_cons_zero, List.set_cons_succ]
    rfl
  refine zqt (i := 1) (N := (some 19)) (v := ?_) (a' := ?_) #[true, true, false, false, false, false, false, false, false, false, false, false, false, false, false, false, false, false] rfl rfl (by kernel_rfl) (fun _ _ _ h => h) (Or.inl ⟨by rfl, ?_⟩) hHeld ?_ ?_
  rotate_left
  · intro w' hS_
    obtain ⟨s0_, s1_, s2_, s3_, s4_, t1_, t2_, t3_⟩ := hS_
    clear t1_ t2_ t3_
    go_simp
    with_reducible rfl
  rotate_left
  · simp only [Act.put, List.setIfInBounds_toArray, List.set_cons_zero, List.set_cons_succ]
    rfl
  refine zqp (i := 2) (N := (some 20)) (v := ?_) (a' := ?_) #[true, true, true, false, false, false, false, false, false, false, false, false, false, false, false, false, false, false] rfl rfl (by kernel_rfl) (fun _ _ _ h => h) (Or.inl ⟨by rfl, ?_⟩) ?_ ?_
  rotate_left
  · intro w'
    go_simp
    with_reducible rfl
  rotate_left
  · simp only [Act.put, List.setIfInBounds_toArray, List.set_cons_zero, List.set_cons_succ]
    rfl
  refine zqt (i := 3) (N := (some 21)) (v := ?_) (a' := ?_) #[true, true, true, true, false, false, false, false, false, false, false, false, false, false, false, false, false, false] rfl rfl (by kernel_rfl) (fun _ _ _ h => h) (Or.inl ⟨by rfl, ?_⟩) hHeld ?_ ?_
  rotate_left
  · intro w' hS_
    obtain ⟨s0_, s1_, s2_, s3_, s4_, t1_, t2_, t3_⟩ := hS_
    clear t1_ t2_ t3_
    go_simp
    with_reducible rfl
  rotate_left
  · simp only [Act.put, List.setIfInBounds_toArray, List.set_cons_zero, List.set_cons_succ]
    rfl
  refine zqp (i := 4) (N := (some 22)) (v := ?_) (a' := ?_) #[true, true, true, true, true, false, false, false, false, false, false, false, false, false, false, false, false, false] rfl rfl (by kernel_rfl) (fun _ _ _ h => h) (Or.inl ⟨by rfl, ?_⟩) ?_ ?_
  rotate_left
  · intro w'
    go_simp
    rw [run_arrayAt Try.underlying73 _ _ _ (by decide)]
    rfl
  rotate_left
  · simp only [Act.put, List.setIfInBounds_toArray, List.set_cons_zero, List.set_cons_succ]
    rfl
  refine zqt (i := 5) (N := (some 23)) (v := .agg #[.bool b0, .bool b1, .bool b2, .bool b3, .bool b4, .bool b5, .bool b6, .bool b7, .bool b8, .bool b9, .bool b10, .bool b11]) (a' := ?_) #[true, true, true, true, true, true, false, false, false, false, false, false, false, false, false, false, false, false] rfl rfl (by kernel_rfl) (fun _ _ _ h => h) (Or.inl ⟨by rfl, fun w' hS_ => yields_load 73 (.tmp 22) rfl ad3 rfl _ hS_.2.2.2.2.2.2.2⟩) hHeld ?_ ?_
  rotate_left
  · simp only [Act.put, List.setIfInBounds_toArray, List.set_cons_zero, List.set_cons_succ]
    rfl
  refine zqp (i := 6) (N := (some 24)) (v := ?_) (a' := ?_) #[true, true, true, true, true, true, true, false, false, false, false, false, false, false, false, false, false, false] rfl rfl (by kernel_rfl) (fun _ _ _ h => h) (Or.inl ⟨by rfl, ?_⟩) ?_ ?_
  rotate_left
  · intro w'
    have hu73 := Try.underlying73
    have hu75 := Try.underlying75
    go_simp
    with_reducible rfl
  rotate_left
  · simp only [Act.put, List.setIfInBounds_toArray, List.set_cons_zero, List.set_cons_succ]
    rfl
  refine zqp (i := 7) (N := (some 25)) (v := ?_) (a' := ?_) #[true, true, true, true, true, true, true, true, false, false, false, false, false, false, false, false, false, false] rfl rfl (by kernel_rfl) (fun _ _ _ h => h) (Or.inl ⟨by rfl, ?_⟩) ?_ ?_
  rotate_left
  · intro w'
    go_simp
    with_reducible rfl
  rotate_left
  · simp only [Act.put, List.setIfInBounds_toArray, List.set_cons_zero, List.set_cons_succ]
    rfl
  refine zqt (i := 8) (N := (some 26)) (v := ?_) (a' := ?_) #[true, true, true, true, true, true, true, true, true, false, false, false, false, false, false, false, false, false] rfl rfl (by kernel_rfl) (fun _ _ _ h => h) (Or.inl ⟨by rfl, ?_⟩) hHeld ?_ ?_
  rotate_left
  · intro w' hS_
    obtain ⟨s0_, s1_, s2_, s3_, s4_, t1_, t2_, t3_⟩ := hS_
    clear t1_ t2_ t3_
    go_simp
    with_reducible rfl
  rotate_left
  · simp only [Act.put, List.setIfInBounds_toArray, List.set_cons_zero, List.set_cons_succ]
    rfl
  refine zqp (i := 9) (N := (some 27)) (v := ?_) (a' := ?_) #[true, true, true, true, true, true, true, true, true, true, false, false, false, false, false, false, false, false] rfl rfl (by kernel_rfl) (fun _ _ _ h => h) (Or.inl ⟨by rfl, ?_⟩) ?_ ?_
  rotate_left
  · intro w'
    go_simp
    rw [run_arrayAt Try.underlying76 _ _ _ (by decide)]
    rfl
  rotate_left
  · simp only [Act.put, List.setIfInBounds_toArray, List.set_cons_zero, List.set_cons_succ]
    rfl
  refine zqt (i := 10) (N := (some 28)) (v := .agg #[.string s0, .string s1, .string s2, .string s3, .string s4, .string s5, .string s6, .string s7, .string s8, .string s9, .string s10, .string s11]) (a' := ?_) #[true, true, true, true, true, true, true, true, true, true, true, false, false, false, false, false, false, false] rfl rfl (by kernel_rfl) (fun _ _ _ h => h) (Or.inl ⟨by rfl, fun w' hS_ => yields_load 76 (.tmp 27) rfl ad1 rfl _ hS_.2.2.2.2.2.1⟩) hHeld ?_ ?_
  rotate_left
  · simp only [Act.put, List.setIfInBounds_toArray, List.set_cons_zero, List.set_cons_succ]
    rfl
  refine zqp (i := 11) (N := (some 29)) (v := ?_) (a' := ?_) #[true, true, true, true, true, true, true, true, true, true, true, true, false, false, false, false, false, false] rfl rfl (by kernel_rfl) (fun _ _ _ h => h) (Or.inl ⟨by rfl, ?_⟩) ?_ ?_
  rotate_left
  · intro w'
    go_simp
    with_reducible rfl
  rotate_left
  · simp only [Act.put, List.setIfInBounds_toArray, List.set_cons_zero, List.set_cons_succ]
    rfl
  refine zqt (i := 12) (N := (some 30)) (v := ?_) (a' := ?_) #[true, true, true, true, true, true, true, true, true, true, true, true, true, false, false, false, false, false] rfl rfl (by kernel_rfl) (fun _ _ _ h => h) (Or.inl ⟨by rfl, ?_⟩) hHeld ?_ ?_
  rotate_left
  · intro w' hS_
    obtain ⟨s0_, s1_, s2_, s3_, s4_, t1_, t2_, t3_⟩ := hS_
    clear t1_ t2_ t3_
    go_simp
    with_reducible rfl
  rotate_left
  · simp only [Act.put, List.setIfInBounds_toArray, List.set_cons_zero, List.set_cons_succ]
    rfl
  refine zqp (i := 13) (N := (some 31)) (v := ?_) (a' := ?_) #[true, true, true, true, true, true, true, true, true, true, true, true, true, true, false, false, false, false] rfl rfl (by kernel_rfl) (fun _ _ _ h => h) (Or.inl ⟨by rfl, ?_⟩) ?_ ?_
  rotate_left
  · intro w'
    go_simp
    rw [run_arrayAt Try.underlying77 _ _ _ (by decide)]
    rfl
  rotate_left
  · simp only [Act.put, List.setIfInBounds_toArray, List.set_cons_zero, List.set_cons_succ]
    rfl
  refine zqt (i := 14) (N := (some 32)) (v := .agg #[.string r0, .string r1]) (a' := ?_) #[true, true, true, true, true, true, true, true, true, true, true, true, true, true, true, false, false, false] rfl rfl (by kernel_rfl) (fun _ _ _ h => h) (Or.inl ⟨by rfl, fun w' hS_ => yields_load 77 (.tmp 31) rfl ad2 rfl _ hS_.2.2.2.2.2.2.1⟩) hHeld ?_ ?_
  rotate_left
  · simp only [Act.put, List.setIfInBounds_toArray, List.set_cons_zero, List.set_cons_succ]
    rfl
  refine zqp (i := 15) (N := (some 33)) (v := ?_) (a' := ?_) #[true, true, true, true, true, true, true, true, true, true, true, true, true, true, true, true, false, false] rfl rfl (by kernel_rfl) (fun _ _ _ h => h) (Or.inl ⟨by rfl, ?_⟩) ?_ ?_
  rotate_left
  · intro w'
    have hu80 := Try.underlying80
    go_simp
    with_reducible rfl
  rotate_left
  · simp only [Act.put, List.setIfInBounds_toArray, List.set_cons_zero, List.set_cons_succ]
    rfl
  refine last_ (i := 16) (N := (some 34)) #[true, true, true, true, true, true, true, true, true, true, true, true, true, true, true, true, true, false] rfl rfl (by kernel_rfl) (by decide) (fun K hK => ?_)
  refine box_step (by rfl) (N := 34) rfl (cs := #[.int .i64 st, .bool b0, .bool b1, .bool b2, .bool b3, .bool b4, .bool b5, .bool b6, .bool b7, .bool b8, .bool b9, .bool b10, .bool b11, .string s0, .string s1, .string s2, .string s3, .string s4, .string s5, .string s6, .string s7, .string s8, .string s9, .string s10, .string s11, .string r0, .string r1, .pointer none]) (t := 80) ?hr ?_
  case hr => first | (go_simp; done) | (go_simp; rfl)
  intro gd hg w11 hbox hb
  have HGG := Az.mk hg
  clear hg
  refine hK.out _ _ ?_
  clear hK K
  refine zqp (i := 17) (N := (some 4)) (v := ?_) (a' := ?_) #[true, true, true, true, true, true, true, true, true, true, true, true, true, true, true, true, true, true] rfl rfl (by kernel_rfl) (fun _ _ _ h => h) (Or.inl ⟨by rfl, ?_⟩) ?_ ?_
  rotate_left
  · intro w'
    go_simp
    with_reducible rfl
  rotate_left
  · simp only [Act.put, List.setIfInBounds_toArray, List.set_cons_zero, List.set_cons_succ]
    rfl
  refine done_ (by kernel_rfl) ?_
  have HD : Az (Drv w11 gd st sp sl rg []) := ⟨⟨by rw [hbox, ESL.out, ERG.out, ESP.out]; rfl, trivial, HSH.out.2.2.2.1, HSH.out.2.1, HSH.out.2.2.1⟩⟩
  have HGD : Az (w.heap.size ≤ gd) := ⟨by rw [HGG.out]; exact hB10.out.size⟩
  have n0_ := Az.mk (below_step hB10.out hb)
  have n1_ := Az.mk (blk_below (g := gb) (o := .cells #[.int .i64 st, .slice (some ad1) 12 c1, .slice (some ad2) 2 c2, .slice (some ad3) 12 c3, .slice A4 wt.length c4] 28 (0, 0)) (by (with_reducible repeat (first | refine zq6 ?_ _ | refine zq8 ?_ | refine zq7 ?_ _)); exact BK.out) hb)
  clear HB BK hHeld
  have HB := n0_
  have BK := n1_
  clear n0_ n1_ hb hbox HGG hB10
  have hcz_0 : w11.cell? ⟨gb, 0, none⟩ = some (.int .i64 st) := (zq4 BK.out 0).trans rfl; have hcz_1 : w11.cell? ⟨gb, 1, none⟩ = some (.slice (some ad1) 12 c1) := (zq4 BK.out 1).trans rfl; have hcz_2 : w11.cell? ⟨gb, 2, none⟩ = some (.slice (some ad2) 2 c2) := (zq4 BK.out 2).trans rfl; have hcz_3 : w11.cell? ⟨gb, 3, none⟩ = some (.slice (some ad3) 12 c3) := (zq4 BK.out 3).trans rfl; have hcz_4 : w11.cell? ⟨gb, 4, none⟩ = some (.slice A4 wt.length c4) := (zq4 BK.out 4).trans rfl
  go_wp2
  go_loopg [38] 12 (fun kq v38 w' => ∃ (i : Nat), v38 = .int .i64 (i : Int) ∧ Az (i + kq = 12) ∧ Az (∀ j, j < i → badSlot (sl.getD j ByteArray.empty) (sp.getD j false) = false) ∧ Az (Below w.heap.size w w') ∧ Az (w'.heap[gb]? = some (.cells #[.int .i64 st, .slice (some ad1) 12 c1, .slice (some ad2) 2 c2, .slice (some ad3) 12 c3, .slice A4 wt.length c4] 28 (0, 0))) ∧ Az (Drv w' gd st sp sl rg []))
  case atStart => exact ⟨0, rfl, ⟨Nat.zero_add _⟩, ⟨fun j hj => by omega⟩, ⟨(by repeat (first | (with_reducible first | exact HB.out | apply zq2 | apply zq1 | apply zqd) | exact HB.out))⟩, ⟨by (with_reducible repeat (first | refine zq6 ?_ _ | refine zq8 ?_ | refine zq7 ?_ _)); exact BK.out⟩, ⟨by (with_reducible repeat (first | refine drv_drewN ?_ _ | refine drv_drew ?_)); exact HD.out⟩⟩
  case round =>
    obtain ⟨i, rfl, HI, HF, HB, BK, HD⟩ := hrel
    have hcz_0 : wr.cell? ⟨gb, 0, none⟩ = some (.int .i64 st) := (zq4 BK.out 0).trans rfl; have hcz_1 : wr.cell? ⟨gb, 1, none⟩ = some (.slice (some ad1) 12 c1) := (zq4 BK.out 1).trans rfl; have hcz_2 : wr.cell? ⟨gb, 2, none⟩ = some (.slice (some ad2) 2 c2) := (zq4 BK.out 2).trans rfl; have hcz_3 : wr.cell? ⟨gb, 3, none⟩ = some (.slice (some ad3) 12 c3) := (zq4 BK.out 3).trans rfl; have hcz_4 : wr.cell? ⟨gb, 4, none⟩ = some (.slice A4 wt.length c4) := (zq4 BK.out 4).trans rfl
    by_cases c1 : i < 12
    · have c1b0 : decide ((i : Int) < 12) = true := decide_eq_true (by omega)
      have p1 : (0 : Int) ≤ (i : Int) := by omega
      have q1 : (i : Int) < ((12 : Nat) : Int) := by omega
      have HWR := Az.mk (show wrap64 ((i : Int) + 1) = ((i + 1 : Nat) : Int) by unfold wrap64; omega)
      have HC1 := Az.mk c1
      obtain ⟨ad, e1, hx_0⟩ := Kd.at_string HR1.out (i : Int) p1 q1
      cases e1
      obtain ⟨ad, e1, hy_0⟩ := Kd.at_bool HR3.out (i : Int) p1 q1
      cases e1
      simp only [Int.toNat_natCast, rdOf] at hx_0 hy_0
      replace hx_0 := (HB.out.cell (World.block_lt_of_cell? w _ hx_0)).trans hx_0
      replace hy_0 := (HB.out.cell (World.block_lt_of_cell? w _ hy_0)).trans hy_0
      replace p1 := eq_true p1
      replace q1 := eq_true q1
      have q2 := eq_true (show (i : Int) < 12 by omega)
      clear c1
      obtain ⟨x, hE⟩ : ∃ x, x = sl.getD i ByteArray.empty := ⟨_, rfl⟩
      rw [← hE] at hx_0
      have HE := Az.mk hE
      clear hE
      obtain ⟨y, hE⟩ : ∃ y, y = sp.getD i false := ⟨_, rfl⟩
      rw [← hE] at hy_0
      have HY := Az.mk hE
      clear hE
      have HNB : badSlot x y = false → Az (∀ j, j < i + 1 → badSlot (sl.getD j ByteArray.empty) (sp.getD j false) = false) := fun h => ⟨fun j hj => by
          by_cases e : j = i
          · rw [e, ← HE.out, ← HY.out]; exact h
          · exact HF.out j (by omega)⟩
      have HBG : badSlot x y = true → Az (¬ Good st sl rg sp wt) := fun h => ⟨fun hg => by
          have := hg.so i HC1.out
          rw [← HE.out, ← HY.out, h] at this
          cases this⟩
      by_cases hx0 : x.size = 0
      · obtain rfl : x = ByteArray.empty := ByteArray.ext (Array.eq_empty_of_size_eq_zero hx0)
        clear hx0
        cases y with
        | true =>
          have HN := HBG rfl
          clear HBG HNB
          go_wp2
          go_ret2
          exact Or.inl ⟨HN.out, rfl, (by repeat (first | (with_reducible first | exact HB.out | apply zq2 | apply zq1 | apply zqd) | exact HB.out))⟩
        | false =>
          have HF1 := HNB rfl
          clear HBG HNB
          go_wp2
          go_roundg (gk - 1)
          case measure => have := HI.out; have := HC1.out; omega
          case rel => exact ⟨i + 1, by rw [← HWR.out], ⟨by have := HI.out; have := HC1.out; omega⟩, HF1, ⟨(by repeat (first | (with_reducible first | exact HB.out | apply zq2 | apply zq1 | apply zqd) | exact HB.out))⟩, ⟨by (with_reducible repeat (first | refine zq6 ?_ _ | refine zq8 ?_ | refine zq7 ?_ _)); exact BK.out⟩, ⟨by (with_reducible repeat (first | refine drv_drewN ?_ _ | refine drv_drew ?_)); exact HD.out⟩⟩
      · have hz := Az.mk hx0
        have hx1 : x.toList ≠ [] := fun h => hx0 (by rw [← ByteArray.size_toList_x, h]; rfl)
        clear hx0
        by_cases hx3 : x.size = 3
        · have HF1 := HNB (by unfold badSlot; rw [if_neg hz.out]; exact decide_eq_false (by omega))
          clear HBG HNB
          have hx3 : ((x.size : Int) == 3) = true := by rw [beq_iff_eq]; omega
          go_wp2_with (first | (go_at_call 94; refine (impl_isColumn.calls x _ _ rfl).mono ?_; rintro e w9 ⟨rfl, ⟨nd, rfl⟩⟩; rw [hx3]))
          go_roundg (gk - 1)
          case measure => have := HI.out; have := HC1.out; omega
          case rel => exact ⟨i + 1, by rw [← HWR.out], ⟨by have := HI.out; have := HC1.out; omega⟩, HF1, ⟨(by repeat (first | (with_reducible first | exact HB.out | apply zq2 | apply zq1 | apply zqd) | exact HB.out))⟩, ⟨by (with_reducible repeat (first | refine zq6 ?_ _ | refine zq8 ?_ | refine zq7 ?_ _)); exact BK.out⟩, ⟨by (with_reducible repeat (first | refine drv_drewN ?_ _ | refine drv_drew ?_)); exact HD.out⟩⟩
        · have HN := HBG (by unfold badSlot; rw [if_neg hz.out]; exact decide_eq_true hx3)
          clear HBG HNB
          have hx3 : ((x.size : Int) == 3) = false := by rw [beq_eq_false_iff_ne]; omega
          go_wp2_with (first | (go_at_call 94; refine (impl_isColumn.calls x _ _ rfl).mono ?_; rintro e w9 ⟨rfl, ⟨nd, rfl⟩⟩; rw [hx3]))
          go_ret2
          exact Or.inl ⟨HN.out, rfl, (by repeat (first | (with_reducible first | exact HB.out | apply zq2 | apply zq1 | apply zqd) | exact HB.out))⟩
    · have c1b0 : decide ((i : Int) < 12) = false := decide_eq_false (by omega)
      have HSO : Az (∀ j, j < 12 → badSlot (sl.getD j ByteArray.empty) (sp.getD j false) = false) := ⟨fun j hj => HF.out j (by omega)⟩
      clear c1 HF
      by_cases hrg : rg.any (fun x : ByteArray => decide ((x.size : Int) > 700)) = true
      · have HN : Az (¬ Good st sl rg sp wt) := ⟨fun hg => by have := hg.ro; rw [hrg] at this; cases this⟩
        have HRG := Az.mk hrg
        clear hrg
        go_wp2_with (first | (go_at_call 95; refine (HG.out _ (by repeat (first | (with_reducible first | exact HB.out | apply zq2 | apply zq1 | apply zqd) | exact HB.out))).mono ?_; rintro e w12 ⟨rfl, hb⟩; rw [HRG.out]; have n0_ := Az.mk (below_step (by repeat (first | (with_reducible first | exact HB.out | apply zq2 | apply zq1 | apply zqd) | exact HB.out)) hb); have n1_ := Az.mk (blk_below (g := gb) (o := .cells #[.int .i64 st, .slice (some ad1) 12 c1, .slice (some ad2) 2 c2, .slice (some ad3) 12 c3, .slice A4 wt.length c4] 28 (0, 0)) (by (with_reducible repeat (first | refine zq6 ?_ _ | refine zq8 ?_ | refine zq7 ?_ _)); exact BK.out) hb); have n2_ := Az.mk (Drv.below (g := gd) (st := st) (sp := sp) (sl := sl) (rg := rg) (ns := []) (by (with_reducible repeat (first | refine drv_drewN ?_ _ | refine drv_drew ?_)); exact HD.out) hb); clear HB BK HD; have HB := n0_; have BK := n1_; have HD := n2_; clear n0_ n1_ n2_ hb; have hcz_0 : w12.cell? ⟨gb, 0, none⟩ = some (.int .i64 st) := (zq4 BK.out 0).trans rfl; have hcz_1 : w12.cell? ⟨gb, 1, none⟩ = some (.slice (some ad1) 12 c1) := (zq4 BK.out 1).trans rfl; have hcz_2 : w12.cell? ⟨gb, 2, none⟩ = some (.slice (some ad2) 2 c2) := (zq4 BK.out 2).trans rfl; have hcz_3 : w12.cell? ⟨gb, 3, none⟩ = some (.slice (some ad3) 12 c3) := (zq4 BK.out 3).trans rfl; have hcz_4 : w12.cell? ⟨gb, 4, none⟩ = some (.slice A4 wt.length c4) := (zq4 BK.out 4).trans rfl))
        go_ret2
        exact Or.inl ⟨HN.out, rfl, (by repeat (first | (with_reducible first | exact HB.out | apply zq2 | apply zq1 | apply zqd) | exact HB.out))⟩
      · have HRG : Az (rg.any (fun x : ByteArray => decide ((x.size : Int) > 700)) = false) := ⟨by simpa using hrg⟩
        clear hrg
        go_upto_region 12 with (first | (go_at_call 95; refine (HG.out _ (by repeat (first | (with_reducible first | exact HB.out | apply zq2 | apply zq1 | apply zqd) | exact HB.out))).mono ?_; rintro e w12 ⟨rfl, hb⟩; rw [HRG.out]; have n0_ := Az.mk (below_step (by repeat (first | (with_reducible first | exact HB.out | apply zq2 | apply zq1 | apply zqd) | exact HB.out)) hb); have n1_ := Az.mk (blk_below (g := gb) (o := .cells #[.int .i64 st, .slice (some ad1) 12 c1, .slice (some ad2) 2 c2, .slice (some ad3) 12 c3, .slice A4 wt.length c4] 28 (0, 0)) (by (with_reducible repeat (first | refine zq6 ?_ _ | refine zq8 ?_ | refine zq7 ?_ _)); exact BK.out) hb); have n2_ := Az.mk (Drv.below (g := gd) (st := st) (sp := sp) (sl := sl) (rg := rg) (ns := []) (by (with_reducible repeat (first | refine drv_drewN ?_ _ | refine drv_drew ?_)); exact HD.out) hb); clear HB BK HD; have HB := n0_; have BK := n1_; have HD := n2_; clear n0_ n1_ n2_ hb; have hcz_0 : w12.cell? ⟨gb, 0, none⟩ = some (.int .i64 st) := (zq4 BK.out 0).trans rfl; have hcz_1 : w12.cell? ⟨gb, 1, none⟩ = some (.slice (some ad1) 12 c1) := (zq4 BK.out 1).trans rfl; have hcz_2 : w12.cell? ⟨gb, 2, none⟩ = some (.slice (some ad2) 2 c2) := (zq4 BK.out 2).trans rfl; have hcz_3 : w12.cell? ⟨gb, 3, none⟩ = some (.slice (some ad3) 12 c3) := (zq4 BK.out 3).trans rfl; have hcz_4 : w12.cell? ⟨gb, 4, none⟩ = some (.slice A4 wt.length c4) := (zq4 BK.out 4).trans rfl))
        (try simp only [Act.put, List.setIfInBounds_toArray, List.set_cons_zero, List.set_cons_succ])
        go_cut [89] (fun v89 wc => ∃ b : Bool, v89 = .bool b ∧ Az (b = true → ¬ Good st sl rg sp wt) ∧ Az (b = false → Good st sl rg sp wt) ∧ Az (Below w.heap.size w wc) ∧ Az (wc.heap[gb]? = some (.cells #[.int .i64 st, .slice (some ad1) 12 c1, .slice (some ad2) 2 c2, .slice (some ad3) 12 c3, .slice A4 wt.length c4] 28 (0, 0))) ∧ Az (Drv wc gd st sp sl rg []))
        case first =>
          by_cases hst : st = 1
          · subst hst
            have hl1 : ∀ W : World, Drv W gd 1 sp sl rg [] → (Instr.loadAt 76 (.pointer (some ⟨gd, 13, none⟩))).run Try.prog W = .ok (.agg #[.string s0, .string s1, .string s2, .string s3, .string s4, .string s5, .string s6, .string s7, .string s8, .string s9, .string s10, .string s11]) W := fun W h => (by have := drv_load h (o := 13) (l := sl) (ty := 76) (fun i hi => by rw [zq4 h.blk]; exact dc_sl h.lsp h.lsl (by rw [ESL.out] at hi; exact hi)) Try.underlying76 rfl (by rw [ESL.out]; kernel_rfl); rw [ESL.out] at this; exact this)
            have hl2 : ∀ W : World, Drv W gd 1 sp sl rg [] → (Instr.loadAt 77 (.pointer (some ⟨gd, 25, none⟩))).run Try.prog W = .ok (.agg #[.string r0, .string r1]) W := fun W h => (by have := drv_load h (o := 25) (l := rg) (ty := 77) (fun i hi => by rw [zq4 h.blk]; exact dc_rg h.lsp h.lsl h.lrg (by rw [ERG.out] at hi; exact hi)) Try.underlying77 rfl (by rw [ERG.out]; kernel_rfl); rw [ERG.out] at this; exact this)
            have HL4 := Az.mk (hl1 _ HD.out)
            have HL5 := Az.mk (hl2 _ HD.out)
            have he1 : ∀ W : World, (Op.equalIn 10000 76 (.agg #[.string s0, .string s1, .string s2, .string s3, .string s4, .string s5, .string s6, .string s7, .string s8, .string s9, .string s10, .string s11]) (.agg #[.string ByteArray.empty, .string ByteArray.empty, .string ByteArray.empty, .string ByteArray.empty, .string ByteArray.empty, .string ByteArray.empty, .string ByteArray.empty, .string ByteArray.empty, .string ByteArray.empty, .string ByteArray.empty, .string ByteArray.empty, .string ByteArray.empty])).run Try.prog W = .ok (sl.all fun s => s.size == 0) W := fun W => by
              have := equal_strs (P := Try.prog) (t := 76) (e := 9) (n := 12) Try.underlying76 Try.underlying9 (by kernel_rfl) W sl HSH.out.2.1
              rw [ESL.out] at this ⊢
              exact this
            have he2 : ∀ W : World, (Op.equalIn 10000 77 (.agg #[.string r0, .string r1]) (.agg #[.string ByteArray.empty, .string ByteArray.empty])).run Try.prog W = .ok (rg.all fun s => s.size == 0) W := fun W => by
              have := equal_strs (P := Try.prog) (t := 77) (e := 9) (n := 2) Try.underlying77 Try.underlying9 (by kernel_rfl) W rg HSH.out.2.2.1
              rw [ERG.out] at this ⊢
              exact this
            have HE1 := Az.mk he1
            have HE2 := Az.mk he2
            clear hl1 hl2 he1 he2
            by_cases hz1 : sl.all (fun s => s.size == 0) = true
            · rw [hz1] at HE1
              have HZ1 := Az.mk hz1
              clear hz1
              by_cases hz2 : rg.all (fun s => s.size == 0) = true
              · rw [hz2] at HE2
                have HZ2 := Az.mk hz2
                clear hz2
                by_cases hz3 : wt.length = 0
                · have hz4 : decide ((wt.length : Int) > 0) = false := decide_eq_false (by omega)
                  have HZ3 := Az.mk hz3
                  clear hz3
                  go_wp2_with (first | ((refine gate_guard (by rfl) ?_); dsimp only; refine load_ev rfl rfl (.agg #[.string s0, .string s1, .string s2, .string s3, .string s4, .string s5, .string s6, .string s7, .string s8, .string s9, .string s10, .string s11]) HL4.out rfl ?_) | ((refine gate_guard (by rfl) ?_); dsimp only; refine neq_ev (t := 76) rfl rfl rfl rfl (by kernel_rfl) (HE1.out _) ?_) | ((refine gate_guard (by rfl) ?_); dsimp only; refine load_ev rfl rfl (.agg #[.string r0, .string r1]) HL5.out rfl ?_) | ((refine gate_guard (by rfl) ?_); dsimp only; refine neq_ev (t := 77) rfl rfl rfl rfl (by kernel_rfl) (HE2.out _) ?_))
                  go_meet
                  case rel => exact ⟨false, by rw [decide_eq_false (by have := HZ3.out; omega)], ⟨fun h => by cases h⟩, ⟨fun _ => ⟨HSH.out, HWA.out, HSO.out, HRG.out, fun _ => ⟨HZ1.out, HZ2.out, HZ3.out⟩⟩⟩, ⟨(by repeat (first | (with_reducible first | exact HB.out | apply zq2 | apply zq1 | apply zqd) | exact HB.out))⟩, ⟨by (with_reducible repeat (first | refine zq6 ?_ _ | refine zq8 ?_ | refine zq7 ?_ _)); exact BK.out⟩, ⟨by (with_reducible repeat (first | refine drv_drewN ?_ _ | refine drv_drew ?_)); exact HD.out⟩⟩
                · have hz4 : decide ((wt.length : Int) > 0) = true := decide_eq_true (by omega)
                  have HZ3 := Az.mk hz3
                  clear hz3
                  go_wp2_with (first | ((refine gate_guard (by rfl) ?_); dsimp only; refine load_ev rfl rfl (.agg #[.string s0, .string s1, .string s2, .string s3, .string s4, .string s5, .string s6, .string s7, .string s8, .string s9, .string s10, .string s11]) HL4.out rfl ?_) | ((refine gate_guard (by rfl) ?_); dsimp only; refine neq_ev (t := 76) rfl rfl rfl rfl (by kernel_rfl) (HE1.out _) ?_) | ((refine gate_guard (by rfl) ?_); dsimp only; refine load_ev rfl rfl (.agg #[.string r0, .string r1]) HL5.out rfl ?_) | ((refine gate_guard (by rfl) ?_); dsimp only; refine neq_ev (t := 77) rfl rfl rfl rfl (by kernel_rfl) (HE2.out _) ?_))
                  go_meet
                  case rel => exact ⟨true, by rw [decide_eq_true (by have := HZ3.out; omega)], ⟨fun _ hg => HZ3.out (hg.go rfl).2.2⟩, ⟨fun h => by cases h⟩, ⟨(by repeat (first | (with_reducible first | exact HB.out | apply zq2 | apply zq1 | apply zqd) | exact HB.out))⟩, ⟨by (with_reducible repeat (first | refine zq6 ?_ _ | refine zq8 ?_ | refine zq7 ?_ _)); exact BK.out⟩, ⟨by (with_reducible repeat (first | refine drv_drewN ?_ _ | refine drv_drew ?_)); exact HD.out⟩⟩
              · have hz2 : rg.all (fun s => s.size == 0) = false := by simpa using hz2
                rw [hz2] at HE2
                have HZ2 := Az.mk hz2
                clear hz2
                go_wp2_with (first | ((refine gate_guard (by rfl) ?_); dsimp only; refine load_ev rfl rfl (.agg #[.string s0, .string s1, .string s2, .string s3, .string s4, .string s5, .string s6, .string s7, .string s8, .string s9, .string s10, .string s11]) HL4.out rfl ?_) | ((refine gate_guard (by rfl) ?_); dsimp only; refine neq_ev (t := 76) rfl rfl rfl rfl (by kernel_rfl) (HE1.out _) ?_) | ((refine gate_guard (by rfl) ?_); dsimp only; refine load_ev rfl rfl (.agg #[.string r0, .string r1]) HL5.out rfl ?_) | ((refine gate_guard (by rfl) ?_); dsimp only; refine neq_ev (t := 77) rfl rfl rfl rfl (by kernel_rfl) (HE2.out _) ?_))
                go_meet
                case rel => exact ⟨true, rfl, ⟨fun _ hg => by have := (hg.go rfl).2.1; rw [HZ2.out] at this; cases this⟩, ⟨fun h => by cases h⟩, ⟨(by repeat (first | (with_reducible first | exact HB.out | apply zq2 | apply zq1 | apply zqd) | exact HB.out))⟩, ⟨by (with_reducible repeat (first | refine zq6 ?_ _ | refine zq8 ?_ | refine zq7 ?_ _)); exact BK.out⟩, ⟨by (with_reducible repeat (first | refine drv_drewN ?_ _ | refine drv_drew ?_)); exact HD.out⟩⟩
            · have hz1 : sl.all (fun s => s.size == 0) = false := by simpa using hz1
              rw [hz1] at HE1
              have HZ1 := Az.mk hz1
              clear hz1
              go_wp2_with (first | ((refine gate_guard (by rfl) ?_); dsimp only; refine load_ev rfl rfl (.agg #[.string s0, .string s1, .string s2, .string s3, .string s4, .string s5, .string s6, .string s7, .string s8, .string s9, .string s10, .string s11]) HL4.out rfl ?_) | ((refine gate_guard (by rfl) ?_); dsimp only; refine neq_ev (t := 76) rfl rfl rfl rfl (by kernel_rfl) (HE1.out _) ?_))
              go_meet
              case rel => exact ⟨true, rfl, ⟨fun _ hg => by have := (hg.go rfl).1; rw [HZ1.out] at this; cases this⟩, ⟨fun h => by cases h⟩, ⟨(by repeat (first | (with_reducible first | exact HB.out | apply zq2 | apply zq1 | apply zqd) | exact HB.out))⟩, ⟨by (with_reducible repeat (first | refine zq6 ?_ _ | refine zq8 ?_ | refine zq7 ?_ _)); exact BK.out⟩, ⟨by (with_reducible repeat (first | refine drv_drewN ?_ _ | refine drv_drew ?_)); exact HD.out⟩⟩
          · have hst1 : (st == 1) = false := by rw [beq_eq_false_iff_ne]; exact hst
            have HN : Az (Good st sl rg sp wt) := ⟨⟨HSH.out, HWA.out, HSO.out, HRG.out, fun h => absurd h hst⟩⟩
            clear hst
            go_wp2
            go_meet
            case rel => exact ⟨false, rfl, ⟨fun h => by cases h⟩, ⟨fun _ => HN.out⟩, ⟨(by repeat (first | (with_reducible first | exact HB.out | apply zq2 | apply zq1 | apply zqd) | exact HB.out))⟩, ⟨by (with_reducible repeat (first | refine zq6 ?_ _ | refine zq8 ?_ | refine zq7 ?_ _)); exact BK.out⟩, ⟨by (with_reducible repeat (first | refine drv_drewN ?_ _ | refine drv_drew ?_)); exact HD.out⟩⟩
        case rest =>
          obtain ⟨b, rfl, HT, HFA, HB, BK, HD⟩ := hcut
          have hcz_0 : wc.cell? ⟨gb, 0, none⟩ = some (.int .i64 st) := (zq4 BK.out 0).trans rfl; have hcz_1 : wc.cell? ⟨gb, 1, none⟩ = some (.slice (some ad1) 12 c1) := (zq4 BK.out 1).trans rfl; have hcz_2 : wc.cell? ⟨gb, 2, none⟩ = some (.slice (some ad2) 2 c2) := (zq4 BK.out 2).trans rfl; have hcz_3 : wc.cell? ⟨gb, 3, none⟩ = some (.slice (some ad3) 12 c3) := (zq4 BK.out 3).trans rfl; have hcz_4 : wc.cell? ⟨gb, 4, none⟩ = some (.slice A4 wt.length c4) := (zq4 BK.out 4).trans rfl
          cases b with
          | true =>
            have HN := HT.out rfl
            have HN := Az.mk HN
            clear HT HFA
            go_wp2
            go_ret2
            exact Or.inl ⟨HN.out, rfl, (by repeat (first | (with_reducible first | exact HB.out | apply zq2 | apply zq1 | apply zqd) | exact HB.out))⟩
          | false =>
            have HGO := Az.mk (HFA.out rfl)
            clear HT HFA
            go_wp2
            go_loopg [96, 7] wt.length (fun kq v96 v7 w' => ∃ (i : Nat) (ns : List (Nat × Pt)), v96 = .int .i64 (i : Int) ∧ v7 = .pointer (some (linkOf gd ns)) ∧ Az (i + kq = wt.length) ∧ Az (ns.map (·.2) = wt.take i) ∧ Az (Below w.heap.size w w') ∧ Az (Drv w' gd st sp sl rg ns))
            case atStart => exact ⟨0, [], rfl, rfl, ⟨Nat.zero_add _⟩, ⟨rfl⟩, ⟨(by repeat (first | (with_reducible first | exact HB.out | apply zq2 | apply zq1 | apply zqd) | exact HB.out))⟩, ⟨by (with_reducible repeat (first | refine drv_drewN ?_ _ | refine drv_drew ?_)); exact HD.out⟩⟩
            case round =>
              obtain ⟨i, ns, rfl, rfl, HI, HM1, HB, HD⟩ := hrel
              by_cases c1 : i < wt.length
              · have c1b0 : decide ((i : Int) < (wt.length : Int)) = true := decide_eq_true (by omega)
                have p1 : (0 : Int) ≤ (i : Int) := by omega
                have q1 : (i : Int) < (wt.length : Int) := by omega
                have hm := HM.out
                have HWR := Az.mk (show wrap64 ((i : Int) + 1) = ((i + 1 : Nat) : Int) by unfold wrap64; omega)
                have HC1 := Az.mk c1
                clear hm
                obtain ⟨ad, e1, hx_0, hx_1, hx_2⟩ := at_T54 HR4.out (i : Int) p1 q1
                cases e1
                simp only [Int.toNat_natCast, rd_T54] at hx_0 hx_1 hx_2
                replace hx_0 := (HB.out.cell (World.block_lt_of_cell? w _ hx_0)).trans hx_0
                replace hx_1 := (HB.out.cell (World.block_lt_of_cell? w _ hx_1)).trans hx_1
                replace hx_2 := (HB.out.cell (World.block_lt_of_cell? w _ hx_2)).trans hx_2
                replace p1 := eq_true p1
                replace q1 := eq_true q1
                clear c1
                obtain ⟨x, hE⟩ : ∃ x, x = wt.getD i z54 := ⟨_, rfl⟩
                rw [← hE] at hx_0 hx_1 hx_2
                have HE := Az.mk hE
                clear hE
                have hu54 := Try.underlying54
                have hu112 := Try.underlying112
                obtain ⟨lb, lo, hlk0⟩ : ∃ lb lo, (⟨lb, lo, none⟩ : Addr) = linkOf gd ns := by cases ns <;> exact ⟨_, _, rfl⟩
                rw [← hlk0]
                have HLK0 := Az.mk hlk0
                have hlk1 : lb = lastN gd ns := (congrArg Addr.block hlk0).trans (linkOf_block gd ns)
                have HLK := Az.mk hlk1
                clear hlk1
                clear hlk0
                go_wp2_with (first | ((with_reducible refine zqg (N := 9) rfl ?_); refine zqb ?hg (N := 9) ?hd (cs := #[.bool false, .int .i64 0, .string ⟨#[]⟩]) (t := 54) ?hr ?_; (case hd => rfl); (case hg => rfl); (case hr => first | (go_simp; done) | (go_simp; rfl)); intro gp hg w20 hbox hb; have n0_ := Az.mk (below_step (by repeat (first | (with_reducible first | exact HB.out | apply zq2 | apply zq1 | apply zqd) | exact HB.out)) hb); have n2_ := Az.mk (Drv.below (g := gd) (st := st) (sp := sp) (sl := sl) (rg := rg) (ns := ns) (by (with_reducible repeat (first | refine drv_drewN ?_ _ | refine drv_drew ?_)); exact HD.out) hb); have HLP : Az (lastN gd ns < gp) := ⟨by rw [hg]; exact Drv.last_lt (st := st) (sp := sp) (sl := sl) (rg := rg) (by (with_reducible repeat (first | refine drv_drewN ?_ _ | refine drv_drew ?_)); exact HD.out)⟩; have HGP : Az (w.heap.size ≤ gp) := ⟨by rw [hg]; exact (below_size (by repeat (first | (with_reducible first | exact HB.out | apply zq2 | apply zq1 | apply zqd) | exact HB.out)))⟩; clear HB HD; have HB := n0_; have HD := n2_; have BP := Az.mk hbox; clear n0_ n2_ hb hbox hg; have hcp_0 : w20.cell? ⟨gp, 0, none⟩ = some (.bool false) := (zq4 BP.out 0).trans rfl; have hcp_1 : w20.cell? ⟨gp, 1, none⟩ = some (.int .i64 0) := (zq4 BP.out 1).trans rfl; have hcp_2 : w20.cell? ⟨gp, 2, none⟩ = some (.string ⟨#[]⟩) := (zq4 BP.out 2).trans rfl; have hfp_0 := zq5 BP.out 0; have hfp_1 := zq5 BP.out 1; have hfp_2 := zq5 BP.out 2) | ((with_reducible refine zqg (N := 103) rfl ?_); refine zqb ?hg (N := 103) ?hd (cs := #[.bool x.f0, .int .i64 x.f1, .string x.f2, .pointer none]) (t := 112) ?hr ?_; (case hd => rfl); (case hg => rfl); (case hr => first | (go_simp; done) | (go_simp; rfl)); intro gn hg w21 hbox hb; have n0_ := Az.mk (below_step (by repeat (first | (with_reducible first | exact HB.out | apply zq2 | apply zq1 | apply zqd | refine zq3 ?_ HGP.out) | exact HB.out)) hb); have n2_ := Az.mk (Drv.below (g := gd) (st := st) (sp := sp) (sl := sl) (rg := rg) (ns := ns) (by (with_reducible repeat (first | refine drv_drewN ?_ _ | refine drv_drew ?_ | refine Drv.far ?_ HLP.out _)); exact HD.out) hb); have HLN : Az (lastN gd ns < gn) := ⟨by rw [hg]; exact Drv.last_lt (st := st) (sp := sp) (sl := sl) (rg := rg) (by (with_reducible repeat (first | refine drv_drewN ?_ _ | refine drv_drew ?_ | refine Drv.far ?_ HLP.out _)); exact HD.out)⟩; clear HB HD; have HB := n0_; have HD := n2_; have BN : Az (Go.Proofs.Ytkgpnloghmbmlaa.Drv.Node w21 gn x (.pointer none)) := ⟨hbox⟩; clear n0_ n2_ hb hbox hg; have HLB : Az (w.heap.size ≤ lb) := ⟨by rw [HLK.out]; exact Nat.le_trans HGD.out HD.out.seg.le⟩; have hlk : w21.cell? ⟨lb, lo, none⟩ = some (.pointer none) := (HLK0.out.symm ▸ HD.out.linkE); have hlf : w21.frozen? ⟨lb, lo, none⟩ = false := (HLK0.out.symm ▸ HD.out.linkFreeE)))
                go_roundg (gk - 1)
                case measure => have := HI.out; have := HC1.out; omega
                case rel =>
                  exact ⟨i + 1, ns ++ [(gn, x)], by rw [← HWR.out], by rw [linkOf_snoc], ⟨by have := HI.out; have := HC1.out; omega⟩, ⟨by rw [List.map_append, HM1.out, List.take_succ_eq_append_getElem HC1.out]; have h1 := HC1.out; simp [HE.out, List.getD, h1]⟩,
                    ⟨by repeat (first | exact HB.out | refine Below.setCell ?_ HLB.out _ | apply zq1 | apply zqd)⟩, ⟨by (with_reducible repeat (first | refine drv_drewN ?_ _ | refine drv_drew ?_)); rw [HLK0.out]; exact Drv.hang HD.out BN.out HLN.out⟩⟩
              · have c1b0 : decide ((i : Int) < (wt.length : Int)) = false := decide_eq_false (by omega)
                have HI2 : Az (ns.map (·.2) = wt) := ⟨by rw [HM1.out, show i = wt.length by have := HI.out; omega, List.take_length]⟩
                have c1b1 : decide (i < wt.length) = false := decide_eq_false c1
                have c1b2 : ((i : Int) < (wt.length : Int)) = False := eq_false (by omega)
                go_wp2
                go_ret2
                exact Or.inr ⟨HGO.out, gd, ns, rfl, HGD.out, by (with_reducible repeat (first | refine drv_drewN ?_ _ | refine drv_drew ?_)); exact HD.out, HI2.out, (by repeat (first | (with_reducible first | exact HB.out | apply zq2 | apply zq1 | apply zqd) | exact HB.out))⟩
theorem list12 {α : Type} (l : List α) (h : l.length = 12) : ∃ a0 a1 a2 a3 a4 a5 a6 a7 a8 a9 a10 a11, l = [a0, a1, a2, a3, a4, a5, a6, a7, a8, a9, a10, a11] := by
  match l, h with
  | [a0, a1, a2, a3, a4, a5, a6, a7, a8, a9, a10, a11], _ => exact ⟨a0, a1, a2, a3, a4, a5, a6, a7, a8, a9, a10, a11, rfl⟩
theorem list2 {α : Type} (l : List α) (h : l.length = 2) : ∃ a0 a1, l = [a0, a1] := by
  match l, h with
  | [a0, a1], _ => exact ⟨a0, a1, rfl⟩
theorem readDisk_calls (st : Int) (A1 : Option Addr) (c1 : Nat) (sl : List ByteArray) (A2 : Option Addr) (c2 : Nat) (rg : List ByteArray) (A3 : Option Addr) (c3 : Nat) (sp : List Bool) (A4 : Option Addr) (c4 : Nat) (wt : List S54) (w : World) (hr1 : Kd.C Kd.string w A1 sl.length sl) (hc1 : sl.length ≤ c1) (hr2 : Kd.C Kd.string w A2 rg.length rg) (hc2 : rg.length ≤ c2) (hr3 : Kd.C Kd.bool w A3 sp.length sp) (hc3 : sp.length ≤ c3) (hr4 : Kd.C k54 w A4 wt.length wt) (hc4 : wt.length ≤ c4) :
    Calls Try.prog 52 #[.agg #[.int .i64 st, .slice A1 sl.length c1, .slice A2 rg.length c2, .slice A3 sp.length c3, .slice A4 wt.length c4]] w fun e w' => ReadPost st sl rg sp wt w e w' := by
  by_cases hs : Shaped st sl rg sp wt
  · by_cases hw : wt.any (fun x => !putB x) = true
    · refine (readDisk_wait st A1 c1 sl A2 c2 rg A3 c3 sp A4 c4 wt w hr1 hc1 hr2 hc2 hr3 hc3 hr4 hc4 hs hw).mono fun e w' h => Or.inl ⟨fun hg => ?_, h⟩
      have := hg.wa
      rw [hw] at this
      cases this
    · have hw : wt.any (fun x => !putB x) = false := by simpa using hw
      obtain ⟨s0, s1, s2, s3, s4, s5, s6, s7, s8, s9, s10, s11, esl⟩ := list12 sl hs.2.1
      obtain ⟨r0, r1, erg⟩ := list2 rg hs.2.2.1
      obtain ⟨b0, b1, b2, b3, b4, b5, b6, b7, b8, b9, b10, b11, esp⟩ := list12 sp hs.2.2.2.1
      obtain ⟨ad1, rfl, h1⟩ := strs_at hr1 (by rw [hs.2.1]; omega)
      obtain ⟨ad2, rfl, h2⟩ := strs_at hr2 (by rw [hs.2.2.1]; omega)
      obtain ⟨ad3, rfl, h3⟩ := bools_at hr3 (by rw [hs.2.2.2.1]; omega)
      have l1 : ∀ W : World, Below w.heap.size w W → (Instr.loadAt 76 (.pointer (some ad1))).run Try.prog W = .ok (.agg (sl.map Value.string).toArray) W := fun W hb =>
        loadAt_list W ad1 76 _ _ (fun j v hv => (hb.cell (World.block_lt_of_cell? w _ (h1 j v hv))).trans (h1 j v hv)) Try.underlying76 rfl (by rw [List.length_map, hs.2.1]; kernel_rfl)
      have l2 : ∀ W : World, Below w.heap.size w W → (Instr.loadAt 77 (.pointer (some ad2))).run Try.prog W = .ok (.agg (rg.map Value.string).toArray) W := fun W hb =>
        loadAt_list W ad2 77 _ _ (fun j v hv => (hb.cell (World.block_lt_of_cell? w _ (h2 j v hv))).trans (h2 j v hv)) Try.underlying77 rfl (by rw [List.length_map, hs.2.2.1]; kernel_rfl)
      have l3 : ∀ W : World, Below w.heap.size w W → (Instr.loadAt 73 (.pointer (some ad3))).run Try.prog W = .ok (.agg (sp.map Value.bool).toArray) W := fun W hb =>
        loadAt_list W ad3 73 _ _ (fun j v hv => (hb.cell (World.block_lt_of_cell? w _ (h3 j v hv))).trans (h3 j v hv)) Try.underlying73 rfl (by rw [List.length_map, hs.2.2.2.1]; kernel_rfl)
      have cs : ∀ W : World, Below w.heap.size w W → Calls Try.prog 91 #[.agg #[.int .i64 st, .slice (some ad1) 12 c1, .slice (some ad2) 2 c2, .slice (some ad3) 12 c3, .slice A4 wt.length c4]] W fun e w' => e = .returned (.bool true) ∧ Below W.heap.size W w' := fun W hb => by
        have := impl_Disk_shaped.calls st _ _ sl _ _ rg _ _ sp _ _ wt _ W (Kd.C_below hr1 hb) hc1 (Kd.C_below hr2 hb) hc2 (Kd.C_below hr3 hb) hc3 (Kd.C_below hr4 hb) hc4 (shaped_eq st sl rg sp wt)
        rw [decide_eq_true hs, hs.2.1, hs.2.2.1, hs.2.2.2.1] at this
        exact this
      have cw : ∀ W : World, Below w.heap.size w W → Calls Try.prog 92 #[.slice A4 wt.length c4, .func (.func 93) #[] #[]] W fun e w' => e = .returned (.bool false) ∧ Below W.heap.size W w' := fun W hb => by
        have := containsPut A4 c4 wt W (Kd.C_below hr4 hb) hc4
        rw [hw] at this
        exact this
      have cg : ∀ W : World, Below w.heap.size w W → Calls Try.prog 95 #[.slice (some ad2) 2 c2, .func (.func 96) #[] #[]] W fun e w' => e = .returned (.bool (rg.any fun x => decide ((x.size : Int) > 700))) ∧ Below W.heap.size W w' := fun W hb => by
        have := containsText (some ad2) c2 rg W (Kd.C_below hr2 hb) hc2
        rw [hs.2.2.1] at this
        exact this
      have g1 : Kd.C Kd.string w (some ad1) 12 sl := hs.2.1 ▸ hr1
      have g3 : Kd.C Kd.bool w (some ad3) 12 sp := hs.2.2.2.1 ▸ hr3
      rw [hs.2.1, hs.2.2.1, hs.2.2.2.1]
      exact readDisk_main st ad1 ad2 ad3 A4 c1 c2 c3 c4 s0 s1 s2 s3 s4 s5 s6 s7 s8 s9 s10 s11 r0 r1 b0 b1 b2 b3 b4 b5 b6 b7 b8 b9 b10 b11 sl rg sp wt w esl erg esp (by rw [esl] at l1; exact l1) (by rw [erg] at l2; exact l2) (by rw [esp] at l3; exact l3) cs cw cg g1 g3 hr4 hs hw
  · exact (readDisk_shape st A1 c1 sl A2 c2 rg A3 c3 sp A4 c4 wt w hr1 hc1 hr2 hc2 hr3 hc3 hr4 hc4 hs).mono fun e w' h => Or.inl ⟨fun hg => hs hg.sh, h⟩
end Go.Proofs.Ytkgpnloghmbmlaa.Print
namespace Go.Proofs.Ytkgpnloghmbmlaa.Print
open Go.RowKit Go.Proofs.YtkgpnloghmbmlaaW.PrintWords Go.Proofs.YtkgpnloghmbmlaaW.PrintLast Go.Proofs.YtkgpnloghmbmlaaW.PrintMore Go.Proofs.Ytkgpnloghmbmlaa.Drv
set_option linter.unusedVariables false
set_option linter.unusedSimpArgs false
set_option maxHeartbeats 4000000 in
set_option maxRecDepth 100000 in
theorem waits_calls (g : Nat) (st : Int) (sp : List Bool) (sl rg : List ByteArray) (ns : List (Nat × Pt)) (w : World) (hD : Drv w g st sp sl rg ns) (hn : ns.length ≤ 40) :
    Calls Try.prog 90 #[.pointer (some ⟨g, 0, none⟩)] w fun e w' => ∃ v : Value, e = .returned v ∧ Kd.R k54 54 w' w.heap.size (fun _ => True) v (ns.map (·.2)) ∧ Below w.heap.size w w' := by
  have hu80 := Try.underlying80
  have hu54 := Try.underlying54
  have hu112 := Try.underlying112
  have HD := Az.mk hD
  have HN := Az.mk hn
  have hfi : w.cell? ⟨g, 27, none⟩ = some (toN ns (.pointer none)) := (zq4 hD.blk 27).trans (dc_fi hD.lsp hD.lsl hD.lrg)
  obtain ⟨fi, hfi0⟩ : ∃ v, v = toN ns (.pointer none) := ⟨_, rfl⟩
  rw [← hfi0] at hfi
  have HFI := Az.mk hfi0
  clear hD hn hfi0
  have HB := Az.mk (Below.refl w.heap.size w)
  go_enter Try.func90, Try.ntmps90
  go_wp2
  go_loopg [3, 4] ns.length (fun kq v3 v4 w' => ∃ (dn rs : List (Nat × Pt)), Az (v4 = toN rs (.pointer none)) ∧ Az (ns = dn ++ rs) ∧ Az (rs.length = kq) ∧ Az (Kd.R k54 54 w' w.heap.size (fun _ => True) v3 (dn.map (·.2))) ∧ Az (Below w.heap.size w w'))
  case atStart => exact ⟨[], ns, ⟨HFI.out⟩, ⟨rfl⟩, ⟨rfl⟩, ⟨Kd.R_nil _ _ _ _ _⟩, ⟨(by repeat (first | (with_reducible first | exact HB.out | apply zq2 | apply zq1 | apply zqd) | exact HB.out))⟩⟩
  case round =>
    clear hfi
    obtain ⟨dn, rs, HV, HE, HI, HO, HB⟩ := hrel
    cases rs with
    | nil =>
      have hv := HV.out
      simp only [toN] at hv
      subst hv
      have HE2 : Az (dn.map (·.2) = ns.map (·.2)) := ⟨by rw [HE.out, List.append_nil]⟩
      go_wp2
      go_ret
      exact ⟨_, rfl, HE2.out ▸ (by (with_reducible repeat (first | apply Kd.R_alloc | apply Kd.R_drewN | apply Kd.R_drew)); exact HO.out), (by repeat (first | (with_reducible first | exact HB.out | apply zq2 | apply zq1 | apply zqd) | exact HB.out))⟩
    | cons x rs =>
      obtain ⟨b, p⟩ := x
      have hv := HV.out
      simp only [toN] at hv
      subst hv
      have hs := (Seg.append.1 (HE.out ▸ HD.out.seg : Seg w g (dn ++ (b, p) :: rs) _)).2
      have hnd : w.heap[b]? = some (.cells #[.bool p.f0, .int .i64 p.f1, .string p.f2, toN rs (.pointer none)] 112 (0, 0)) := hs.2.1
      obtain ⟨nx, hnx⟩ : ∃ v, v = toN rs (.pointer none) := ⟨_, rfl⟩
      rw [← hnx] at hnd
      have HNX := Az.mk hnx
      have HBL := Az.mk (blk_lt hnd)
      have hc_0 := (HB.out.cell (p := ⟨b, 0, none⟩) HBL.out).trans (zq4 hnd 0)
      have hc_1 := (HB.out.cell (p := ⟨b, 1, none⟩) HBL.out).trans (zq4 hnd 1)
      have hc_2 := (HB.out.cell (p := ⟨b, 2, none⟩) HBL.out).trans (zq4 hnd 2)
      have HN3 : Az (w.cell? ⟨b, 3, none⟩ = some nx) := ⟨(zq4 hnd 3).trans rfl⟩
      replace hc_0 : wr.cell? ⟨b, 0, none⟩ = some (.bool p.f0) := hc_0.trans rfl
      replace hc_1 : wr.cell? ⟨b, 1, none⟩ = some (.int .i64 p.f1) := hc_1.trans rfl
      replace hc_2 : wr.cell? ⟨b, 2, none⟩ = some (.string p.f2) := hc_2.trans rfl
      have HLEN : Az (dn.length ≤ 40) := ⟨by have h1 := HN.out; have h2 := congrArg List.length HE.out; rw [List.length_append] at h2; omega⟩
      clear hs hnd hnx
      go_wp2_with (first | ((with_reducible refine gate_builtin (b := .append) (xs := #[.tmp 15, .tmp 20]) rfl ?_); at_builtin; refine Kd.R_append k54 (w0 := w) w.heap.size rfl (.tmp 15) (.tmp 20) 26 54 (.agg #[(.bool false), (.int .i64 0), (.string ⟨#[]⟩)]) 32 rfl Try.underlying26 info54 rfl (by decide) (by omega) u3 (dn.map (·.2)) p [.bool p.f0, .int .i64 p.f1, .string p.f2] (fun _ => True) (fun _ => False) rfl rfl ?aP (fun _ hk => hk.elim) ?aF ?aO ?aB ?aS ?aL ?_; (case aP => exact k54_mkM _ _ _ p); (case aB => exact (by repeat (first | (with_reducible first | exact HB.out | apply zq2 | apply zq1 | apply zqd) | exact HB.out))); (case aF => exact (fun _ _ => trivial)); (case aO => exact (by (with_reducible repeat (first | apply Kd.R_alloc | apply Kd.R_drewN | apply Kd.R_drew)); exact HO.out)); (case aS => exact (below_size (by repeat (first | (with_reducible first | exact HB.out | apply zq2 | apply zq1 | apply zqd) | exact HB.out)))); (case aL => have := HLEN.out; rw [List.length_map]; omega); intro v320 w5 ho hb hg hat; have n1_ := Az.mk (hb); have n2_ := Az.mk (ho); have hn_3 : w5.cell? ⟨b, 3, none⟩ = some nx := (hb.cell HBL.out).trans HN3.out; clear HB HO; have HB := n1_; have HO := n2_; clear n1_ n2_; clear ho hb hg hat))
      go_roundg (gk - 1)
      case measure => have := HI.out; simp only [List.length_cons] at this; omega
      case rel => exact ⟨dn ++ [(b, p)], rs, ⟨HNX.out⟩, ⟨by rw [HE.out, List.append_assoc]; rfl⟩, ⟨by have := HI.out; simp only [List.length_cons] at this; omega⟩, ⟨by rw [List.map_append]; (with_reducible repeat (first | apply Kd.R_alloc | apply Kd.R_drewN | apply Kd.R_drew)); exact HO.out⟩, ⟨(by repeat (first | (with_reducible first | exact HB.out | apply zq2 | apply zq1 | apply zqd) | exact HB.out))⟩⟩
end Go.Proofs.Ytkgpnloghmbmlaa.Print
namespace Go.Proofs.Ytkgpnloghmbmlaa.Print
open Go.RowKit Go.Proofs.YtkgpnloghmbmlaaW.PrintWords Go.Proofs.YtkgpnloghmbmlaaW.PrintLast Go.Proofs.YtkgpnloghmbmlaaW.PrintMore Go.Proofs.Ytkgpnloghmbmlaa.Drv
set_option linter.unusedVariables false
set_option linter.unusedSimpArgs false
theorem infoC9 : (Try.prog.info? 9).map (fun i => (i.zero, i.size, i.bytes)) = some (some (.string ⟨#[]⟩), 1, 16) := by kernel_rfl
set_option maxHeartbeats 4000000 in
set_option maxRecDepth 100000 in
theorem cloneStr (ad : Addr) (c0 : Nat) (l0 : List ByteArray) (w : World) (hr0 : Kd.C Kd.string w (some ad) l0.length l0) (hlen : l0.length ≤ 4096) :
    Calls Try.prog 88 #[.slice (some ad) l0.length c0] w fun e w' => ∃ v0_ : Value, e = .returned (v0_) ∧ Kd.R Kd.string 9 w' w.heap.size (fun _ => True) v0_ l0 ∧ Below w.heap.size w w' := by
  have heq : ∀ (w : World) (a : Option Addr) (n c : Nat), (binOp .eql 24 (.slice a n c) (.slice none 0 0)).run Try.prog w = .ok (.bool a.isNone) w := fun w a n c => by
    simp only [binOp]
    simp [run_equal_slice_nil w 24 9 a n c Try.underlying24]
  have HR0 := Az.mk hr0
  have HLEN := Az.mk hlen
  clear hr0 hlen
  have HB := Az.mk (Below.refl w.heap.size w)
  go_enter Try.func88, Try.ntmps88
  go_wp2_with (first | ((with_reducible refine zqg (N := 5) rfl ?_); refine Kd.R_lit Kd.string _ 9 ?hg (N := 5) ?hd (xs := ([] : List ByteArray)) (inner := []) (ok := fun _ => True) (okp := fun _ => True) ?hr ?hp (fun _ hk => hk) trivial (Below.refl _ _) (Nat.le_refl _) (by simp) ?_; (case hd => rfl); (case hg => rfl); (case hr => first | (go_simp; done) | (go_simp; rfl)); (case hp => exact (Reps.none _ _)); intro v317 w3 ho4 hb hg_ hnew_; clear hg_ hnew_; have n0_ := Az.mk (Kd.R_lower ho4 (below_size (by repeat (first | (with_reducible first | exact HB.out | apply zq2 | apply zq1 | apply zqd) | exact HB.out)))); have n1_ := Az.mk (below_step (by repeat (first | (with_reducible first | exact HB.out | apply zq2 | apply zq1 | apply zqd) | exact HB.out)) hb); clear HB; have HO318 := n0_; have HB := n1_; clear n0_ n1_; clear hb ho4) | ((with_reducible refine gate_builtin (b := .append) (xs := #[.tmp 5, .tmp 6]) rfl ?_); at_builtin; refine Kd.R_append_rows Kd.string (w0 := w) w.heap.size rfl (.tmp 5) (.tmp 6) 24 9 (.string ⟨#[]⟩) 16 rfl Try.underlying24 infoC9 rfl (by decide) (by omega) v317 [] l0 _ _ _ (fun _ => True) (fun _ => False) rfl rfl ?aO ?aR (fun _ _ h => h) (fun _ h => h.elim) ?aF ?aB ?aS ?aL ?_; (case aR => repeat (first | exact (Kd.C_below HR0.out HB.out) | (with_reducible refine Kd.C_alloc ?_ _) | (with_reducible refine Kd.C_drewN ?_ _) | (with_reducible refine Kd.C_drew ?_))); (case aB => exact (by repeat (first | (with_reducible first | exact HB.out | apply zq2 | apply zq1 | apply zqd) | exact HB.out))); (case aF => exact (fun _ _ => trivial)); (case aO => exact (by (with_reducible repeat (first | apply Kd.R_alloc | apply Kd.R_drewN | apply Kd.R_drew)); exact HO318.out)); (case aS => exact (below_size (by repeat (first | (with_reducible first | exact HB.out | apply zq2 | apply zq1 | apply zqd) | exact HB.out)))); (case aL => have := HLEN.out; simp only [List.length_nil]; omega); intro v320 w5 ho hb hg hat; have n0_ := Az.mk (hb); have n1_ := Az.mk (ho); clear HB; clear HO318; have HB := n0_; have HO321 := n1_; clear n0_ n1_; clear ho hb hg hat))
  go_ret
  exact ⟨_, rfl, by (with_reducible repeat (first | apply Kd.R_alloc | apply Kd.R_drewN | apply Kd.R_drew)); exact HO321.out, (by repeat (first | (with_reducible first | exact HB.out | apply zq2 | apply zq1 | apply zqd) | exact HB.out))⟩
theorem infoC4 : (Try.prog.info? 4).map (fun i => (i.zero, i.size, i.bytes)) = some (some (.bool false), 1, 1) := by kernel_rfl
set_option maxHeartbeats 4000000 in
set_option maxRecDepth 100000 in
theorem cloneBool (ad : Addr) (c0 : Nat) (l0 : List Bool) (w : World) (hr0 : Kd.C Kd.bool w (some ad) l0.length l0) (hlen : l0.length ≤ 4096) :
    Calls Try.prog 89 #[.slice (some ad) l0.length c0] w fun e w' => ∃ v0_ : Value, e = .returned (v0_) ∧ Kd.R Kd.bool 4 w' w.heap.size (fun _ => True) v0_ l0 ∧ Below w.heap.size w w' := by
  have heq : ∀ (w : World) (a : Option Addr) (n c : Nat), (binOp .eql 25 (.slice a n c) (.slice none 0 0)).run Try.prog w = .ok (.bool a.isNone) w := fun w a n c => by
    simp only [binOp]
    simp [run_equal_slice_nil w 25 4 a n c Try.underlying25]
  have HR0 := Az.mk hr0
  have HLEN := Az.mk hlen
  clear hr0 hlen
  have HB := Az.mk (Below.refl w.heap.size w)
  go_enter Try.func89, Try.ntmps89
  go_wp2_with (first | ((with_reducible refine zqg (N := 5) rfl ?_); refine Kd.R_lit Kd.bool _ 4 ?hg (N := 5) ?hd (xs := ([] : List Bool)) (inner := []) (ok := fun _ => True) (okp := fun _ => True) ?hr ?hp (fun _ hk => hk) trivial (Below.refl _ _) (Nat.le_refl _) (by simp) ?_; (case hd => rfl); (case hg => rfl); (case hr => first | (go_simp; done) | (go_simp; rfl)); (case hp => exact (Reps.none _ _)); intro v317 w3 ho4 hb hg_ hnew_; clear hg_ hnew_; have n0_ := Az.mk (Kd.R_lower ho4 (below_size (by repeat (first | (with_reducible first | exact HB.out | apply zq2 | apply zq1 | apply zqd) | exact HB.out)))); have n1_ := Az.mk (below_step (by repeat (first | (with_reducible first | exact HB.out | apply zq2 | apply zq1 | apply zqd) | exact HB.out)) hb); clear HB; have HO318 := n0_; have HB := n1_; clear n0_ n1_; clear hb ho4) | ((with_reducible refine gate_builtin (b := .append) (xs := #[.tmp 5, .tmp 6]) rfl ?_); at_builtin; refine Kd.R_append_rows Kd.bool (w0 := w) w.heap.size rfl (.tmp 5) (.tmp 6) 25 4 (.bool false) 1 rfl Try.underlying25 infoC4 rfl (by decide) (by omega) v317 [] l0 _ _ _ (fun _ => True) (fun _ => False) rfl rfl ?aO ?aR (fun _ _ h => h) (fun _ h => h.elim) ?aF ?aB ?aS ?aL ?_; (case aR => repeat (first | exact (Kd.C_below HR0.out HB.out) | (with_reducible refine Kd.C_alloc ?_ _) | (with_reducible refine Kd.C_drewN ?_ _) | (with_reducible refine Kd.C_drew ?_))); (case aB => exact (by repeat (first | (with_reducible first | exact HB.out | apply zq2 | apply zq1 | apply zqd) | exact HB.out))); (case aF => exact (fun _ _ => trivial)); (case aO => exact (by (with_reducible repeat (first | apply Kd.R_alloc | apply Kd.R_drewN | apply Kd.R_drew)); exact HO318.out)); (case aS => exact (below_size (by repeat (first | (with_reducible first | exact HB.out | apply zq2 | apply zq1 | apply zqd) | exact HB.out)))); (case aL => have := HLEN.out; simp only [List.length_nil]; omega); intro v320 w5 ho hb hg hat; have n0_ := Az.mk (hb); have n1_ := Az.mk (ho); clear HB; clear HO318; have HB := n0_; have HO321 := n1_; clear n0_ n1_; clear ho hb hg hat))
  go_ret
  exact ⟨_, rfl, by (with_reducible repeat (first | apply Kd.R_alloc | apply Kd.R_drewN | apply Kd.R_drew)); exact HO321.out, (by repeat (first | (with_reducible first | exact HB.out | apply zq2 | apply zq1 | apply zqd) | exact HB.out))⟩
theorem drv_C_sl {w : World} {g : Nat} {st : Int} {sp : List Bool} {sl rg : List ByteArray} {ns : List (Nat × Pt)} (h : Drv w g st sp sl rg ns) : Kd.C Kd.string w (some ⟨g, 13, none⟩) sl.length sl :=
  Kd.C_of_reads (d := ByteArray.empty) ⟨rfl, by have := h.lsl; omega, fun _ => ⟨_, rfl, fun j hj => by
    rw [show (⟨g, 13, none⟩ : Addr).add j = ⟨g, 13 + j, none⟩ by (unfold Addr.add; split <;> simp_all), zq4 h.blk]
    exact dc_sl h.lsp h.lsl (by have := h.lsl; omega)⟩⟩
theorem drv_C_rg {w : World} {g : Nat} {st : Int} {sp : List Bool} {sl rg : List ByteArray} {ns : List (Nat × Pt)} (h : Drv w g st sp sl rg ns) : Kd.C Kd.string w (some ⟨g, 25, none⟩) rg.length rg :=
  Kd.C_of_reads (d := ByteArray.empty) ⟨rfl, by have := h.lrg; omega, fun _ => ⟨_, rfl, fun j hj => by
    rw [show (⟨g, 25, none⟩ : Addr).add j = ⟨g, 25 + j, none⟩ by (unfold Addr.add; split <;> simp_all), zq4 h.blk]
    exact dc_rg h.lsp h.lsl h.lrg (by have := h.lrg; omega)⟩⟩
theorem drv_C_sp {w : World} {g : Nat} {st : Int} {sp : List Bool} {sl rg : List ByteArray} {ns : List (Nat × Pt)} (h : Drv w g st sp sl rg ns) : Kd.C Kd.bool w (some ⟨g, 1, none⟩) sp.length sp :=
  Kd.C_of_reads (d := false) ⟨rfl, by have := h.lsp; omega, fun _ => ⟨_, rfl, fun j hj => by
    rw [show (⟨g, 1, none⟩ : Addr).add j = ⟨g, 1 + j, none⟩ by (unfold Addr.add; split <;> simp_all), zq4 h.blk]
    exact dc_sp h.lsp (by have := h.lsp; omega)⟩⟩
end Go.Proofs.Ytkgpnloghmbmlaa.Print
namespace Go.Proofs.Ytkgpnloghmbmlaa.Print
open Go.RowKit Go.Proofs.YtkgpnloghmbmlaaW.PrintWords Go.Proofs.YtkgpnloghmbmlaaW.PrintLast Go.Proofs.YtkgpnloghmbmlaaW.PrintMore Go.Proofs.Ytkgpnloghmbmlaa.Drv
set_option linter.unusedVariables false
set_option linter.unusedSimpArgs false
theorem drv_st {W : World} {g : Nat} {st : Int} {sp : List Bool} {sl rg : List ByteArray} {ns : List (Nat × Pt)} (h : Drv W g st sp sl rg ns) : W.cell? ⟨g, 0, none⟩ = some (.int .i64 st) := (zq4 h.blk 0).trans dc_st
theorem R_setOwn {α : Type} {d : Kd α} {e base g : Nat} {ok : Nat → Prop} {w : World} {v : Value} {xs : List α} (h : d.R e w base ok v xs) (hg : g < base) (j : Nat) (u : Value) : d.R e (w.setCell ⟨g, j, none⟩ u) base ok v xs :=
  Kd.R_mono (Kd.R_keep (Kd.R_bound h) (KeepBut.set_ (KeepBut.refl w g none) j u) (fun k hk => by have := hk.2.1; omega)) (fun k hk => hk.1)
theorem cloneStrN (ad : Addr) (n c0 : Nat) (l0 : List ByteArray) (w : World) (hr0 : Kd.C Kd.string w (some ad) l0.length l0) (hl : l0.length = n) (hlen : n ≤ 4096) :
    Calls Try.prog 88 #[.slice (some ad) n c0] w fun e w' => ∃ v0_ : Value, e = .returned (v0_) ∧ Kd.R Kd.string 9 w' w.heap.size (fun _ => True) v0_ l0 ∧ Below w.heap.size w w' := by
  subst hl
  exact cloneStr ad c0 l0 w hr0 hlen
theorem cloneBoolN (ad : Addr) (n c0 : Nat) (l0 : List Bool) (w : World) (hr0 : Kd.C Kd.bool w (some ad) l0.length l0) (hl : l0.length = n) (hlen : n ≤ 4096) :
    Calls Try.prog 89 #[.slice (some ad) n c0] w fun e w' => ∃ v0_ : Value, e = .returned (v0_) ∧ Kd.R Kd.bool 4 w' w.heap.size (fun _ => True) v0_ l0 ∧ Below w.heap.size w w' := by
  subst hl
  exact cloneBool ad c0 l0 w hr0 hlen
set_option maxHeartbeats 4000000 in
set_option maxRecDepth 100000 in
theorem disk_calls (g : Nat) (st : Int) (sp : List Bool) (sl rg : List ByteArray) (ns : List (Nat × Pt)) (w : World) (hD : Drv w g st sp sl rg ns) (hn : ns.length ≤ 40) :
    Calls Try.prog 50 #[.pointer (some ⟨g, 0, none⟩)] w fun e w' => ∃ v1 v2 v3 v4 : Value, e = .returned (.agg #[.int .i64 st, v1, v2, v3, v4]) ∧ Kd.R Kd.string 9 w' w.heap.size (fun k_ => some k_ ≠ v2.ownBlock) v1 sl ∧ Kd.R Kd.string 9 w' w.heap.size (fun k_ => some k_ ≠ v1.ownBlock) v2 rg ∧ Kd.R Kd.bool 4 w' w.heap.size (fun _ => True) v3 sp ∧ Kd.R k54 54 w' w.heap.size (fun _ => True) v4 (ns.map (·.2)) ∧ Below w.heap.size w w' := by
  have hu28 := Try.underlying28
  have hu80 := Try.underlying80
  have hu75 := Try.underlying75
  have hu76 := Try.underlying76
  have hu77 := Try.underlying77
  have hu73 := Try.underlying73
  have HD := Az.mk hD
  have HN := Az.mk hn
  clear hD hn
  have HB := Az.mk (Below.refl w.heap.size w)
  go_enter Try.func50, Try.ntmps50
  go_wp2_with (first | ((with_reducible refine zqg (N := 2) rfl ?_); refine zqb ?hg (N := 2) ?hd (cs := #[.int .i64 0, .slice none 0 0, .slice none 0 0, .slice none 0 0, .slice none 0 0]) (t := 28) ?hr ?_; (case hd => rfl); (case hg => rfl); (case hr => first | (go_simp; done) | (go_simp; rfl)); intro gr hg w1 hbox hb; have n0_ := Az.mk (below_step (by repeat (first | (with_reducible first | exact HB.out | apply zq2 | apply zq1 | apply zqd) | exact HB.out)) hb); have n1_ := Az.mk hbox; have n2_ := Az.mk (Drv.below (g := g) (st := st) (sp := sp) (sl := sl) (rg := rg) (ns := ns) (by (with_reducible repeat (first | refine drv_drewN ?_ _ | refine drv_drew ?_)); exact HD.out) hb); have HGR : Az (w.heap.size ≤ gr) := ⟨by rw [hg]; exact (below_size (by repeat (first | (with_reducible first | exact HB.out | apply zq2 | apply zq1 | apply zqd) | exact HB.out)))⟩; clear HB HD; have HB := n0_; have BK := n1_; have HD := n2_; clear n0_ n1_ n2_ hb hbox hg))
  have nb_ := Az.mk (zqd HB.out)
  have nd_ := Az.mk (drv_drew HD.out)
  have nk_ := Az.mk (zq8 BK.out)
  clear HB HD BK
  have HB := nb_
  have HD := nd_
  have BK := nk_
  clear nb_ nd_ nk_
  refine start_ (n := 25) (S := fun w' => w'.cell? ⟨g, 0, none⟩ = some (.int .i64 st)) (ds := [24]) #[false, false, false, false, false, false, false, false, false, false, false, false, false, false, false, false, false, false, false, false, false, false, false, false, false] (by kernel_rfl) rfl rfl (drv_st HD.out) (fun hHeld => ?_)
  generalize w1.drew = w3 at HB HD BK hHeld ⊢
  refine zqp (i := 0) (N := (some 3)) (v := ?_) (a' := ?_) #[true, false, false, false, false, false, false, false, false, false, false, false, false, false, false, false, false, false, false, false, false, false, false, false, false] rfl rfl (by kernel_rfl) (fun _ _ _ h => h) (Or.inl ⟨by rfl, ?_⟩) ?_ ?_
  rotate_left
  · intro w'
    go_simp
    with_reducible rfl
  rotate_left
  · simp only [Act.put, List.setIfInBounds_toArray, List.set_cons_zero, List.set_cons_succ]
    rfl
  refine zqp (i := 1) (N := (some 4)) (v := ?_) (a' := ?_) #[true, true, false, false, false, false, false, false, false, false, false, false, false, false, false, false, false, false, false, false, false, false, false, false, false] rfl rfl (by kernel_rfl) (fun _ _ _ h => h) (Or.inl ⟨by rfl, ?_⟩) ?_ ?_
  rotate_left
  · intro w'
    go_simp
    with_reducible rfl
  rotate_left
  · simp only [Act.put, List.setIfInBounds_toArray, List.set_cons_zero, List.set_cons_succ]
    rfl
  refine zqp (i := 2) (N := (some 5)) (v := ?_) (a' := ?_) #[true, true, true, false, false, false, false, false, false, false, false, false, false, false, false, false, false, false, false, false, false, false, false, false, false] rfl rfl (by kernel_rfl) (fun _ _ _ h => h) (Or.inl ⟨by rfl, ?_⟩) ?_ ?_
  rotate_left
  · intro w'
    go_simp
    with_reducible rfl
  rotate_left
  · simp only [Act.put, List.setIfInBounds_toArray, List.set_cons_zero, List.set_cons_succ]
    rfl
  refine zqp (i := 3) (N := (some 6)) (v := ?_) (a' := ?_) #[true, true, true, true, false, false, false, false, false, false, false, false, false, false, false, false, false, false, false, false, false, false, false, false, false] rfl rfl (by kernel_rfl) (fun _ _ _ h => h) (Or.inl ⟨by rfl, ?_⟩) ?_ ?_
  rotate_left
  · intro w'
    go_simp
    with_reducible rfl
  rotate_left
  · simp only [Act.put, List.setIfInBounds_toArray, List.set_cons_zero, List.set_cons_succ]
    rfl
  refine zqt (i := 4) (N := (some 7)) (v := ?_) (a' := ?_) #[true, true, true, true, true, false, false, false, false, false, false, false, false, false, false, false, false, false, false, false, false, false, false, false, false] rfl rfl (by kernel_rfl) (fun _ _ _ h => h) (Or.inl ⟨by rfl, ?_⟩) hHeld ?_ ?_
  rotate_left
  · intro w' hS_
    go_simp
    with_reducible rfl
  rotate_left
  · simp only [Act.put, List.setIfInBounds_toArray, List.set_cons_zero, List.set_cons_succ]
    rfl
  refine zqp (i := 5) (N := (some 8)) (v := ?_) (a' := ?_) #[true, true, true, true, true, true, false, false, false, false, false, false, false, false, false, false, false, false, false, false, false, false, false, false, false] rfl rfl (by kernel_rfl) (fun _ _ _ h => h) (Or.inl ⟨by rfl, ?_⟩) ?_ ?_
  rotate_left
  · intro w'
    go_simp
    with_reducible rfl
  rotate_left
  · simp only [Act.put, List.setIfInBounds_toArray, List.set_cons_zero, List.set_cons_succ]
    rfl
  refine zqp (i := 6) (N := (some 9)) (v := ?_) (a' := ?_) #[true, true, true, true, true, true, true, false, false, false, false, false, false, false, false, false, false, false, false, false, false, false, false, false, false] rfl rfl (by kernel_rfl) (fun _ _ _ h => h) (Or.inl ⟨by rfl, ?_⟩) ?_ ?_
  rotate_left
  · intro w'
    go_simp
    with_reducible rfl
  rotate_left
  · simp only [Act.put, List.setIfInBounds_toArray, List.set_cons_zero, List.set_cons_succ]
    rfl
  refine zqp (i := 7) (N := (some 10)) (v := ?_) (a' := ?_) #[true, true, true, true, true, true, true, true, false, false, false, false, false, false, false, false, false, false, false, false, false, false, false, false, false] rfl rfl (by kernel_rfl) (fun _ _ _ h => h) (Or.inl ⟨by rfl, ?_⟩) ?_ ?_
  rotate_left
  · intro w'
    go_simp
    with_reducible rfl
  rotate_left
  · simp only [Act.put, List.setIfInBounds_toArray, List.set_cons_zero, List.set_cons_succ]
    rfl
  refine zqp (i := 8) (N := (some 11)) (v := ?_) (a' := ?_) #[true, true, true, true, true, true, true, true, true, false, false, false, false, false, false, false, false, false, false, false, false, false, false, false, false] rfl rfl (by kernel_rfl) (fun _ _ _ h => h) (Or.inl ⟨by rfl, ?_⟩) ?_ ?_
  rotate_left
  · intro w'
    go_simp
    rfl
  rotate_left
  · simp only [Act.put, List.setIfInBounds_toArray, List.set_cons_zero, List.set_cons_succ]
    rfl
  refine zqp (i := 10) (N := (some 13)) (v := ?_) (a' := ?_) #[true, true, true, true, true, true, true, true, true, false, true, false, false, false, false, false, false, false, false, false, false, false, false, false, false] rfl rfl (by kernel_rfl) (fun _ _ _ h => h) (Or.inl ⟨by rfl, ?_⟩) ?_ ?_
  rotate_left
  · intro w'
    go_simp
    with_reducible rfl
  rotate_left
  · simp only [Act.put, List.setIfInBounds_toArray, List.set_cons_zero, List.set_cons_succ]
    rfl
  refine zqp (i := 11) (N := (some 14)) (v := ?_) (a' := ?_) #[true, true, true, true, true, true, true, true, true, false, true, true, false, false, false, false, false, false, false, false, false, false, false, false, false] rfl rfl (by kernel_rfl) (fun _ _ _ h => h) (Or.inl ⟨by rfl, ?_⟩) ?_ ?_
  rotate_left
  · intro w'
    go_simp
    with_reducible rfl
  rotate_left
  · simp only [Act.put, List.setIfInBounds_toArray, List.set_cons_zero, List.set_cons_succ]
    rfl
  refine zqp (i := 12) (N := (some 15)) (v := ?_) (a' := ?_) #[true, true, true, true, true, true, true, true, true, false, true, true, true, false, false, false, false, false, false, false, false, false, false, false, false] rfl rfl (by kernel_rfl) (fun _ _ _ h => h) (Or.inl ⟨by rfl, ?_⟩) ?_ ?_
  rotate_left
  · intro w'
    go_simp
    with_reducible rfl
  rotate_left
  · simp only [Act.put, List.setIfInBounds_toArray, List.set_cons_zero, List.set_cons_succ]
    rfl
  refine zqp (i := 13) (N := (some 16)) (v := ?_) (a' := ?_) #[true, true, true, true, true, true, true, true, true, false, true, true, true, true, false, false, false, false, false, false, false, false, false, false, false] rfl rfl (by kernel_rfl) (fun _ _ _ h => h) (Or.inl ⟨by rfl, ?_⟩) ?_ ?_
  rotate_left
  · intro w'
    go_simp
    rfl
  rotate_left
  · simp only [Act.put, List.setIfInBounds_toArray, List.set_cons_zero, List.set_cons_succ]
    rfl
  refine zqp (i := 15) (N := (some 18)) (v := ?_) (a' := ?_) #[true, true, true, true, true, true, true, true, true, false, true, true, true, true, false, true, false, false, false, false, false, false, false, false, false] rfl rfl (by kernel_rfl) (fun _ _ _ h => h) (Or.inl ⟨by rfl, ?_⟩) ?_ ?_
  rotate_left
  · intro w'
    go_simp
    with_reducible rfl
  rotate_left
  · simp only [Act.put, List.setIfInBounds_toArray, List.set_cons_zero, List.set_cons_succ]
    rfl
  refine zqp (i := 16) (N := (some 19)) (v := ?_) (a' := ?_) #[true, true, true, true, true, true, true, true, true, false, true, true, true, true, false, true, true, false, false, false, false, false, false, false, false] rfl rfl (by kernel_rfl) (fun _ _ _ h => h) (Or.inl ⟨by rfl, ?_⟩) ?_ ?_
  rotate_left
  · intro w'
    go_simp
    with_reducible rfl
  rotate_left
  · simp only [Act.put, List.setIfInBounds_toArray, List.set_cons_zero, List.set_cons_succ]
    rfl
  refine zqp (i := 17) (N := (some 20)) (v := ?_) (a' := ?_) #[true, true, true, true, true, true, true, true, true, false, true, true, true, true, false, true, true, true, false, false, false, false, false, false, false] rfl rfl (by kernel_rfl) (fun _ _ _ h => h) (Or.inl ⟨by rfl, ?_⟩) ?_ ?_
  rotate_left
  · intro w'
    go_simp
    with_reducible rfl
  rotate_left
  · simp only [Act.put, List.setIfInBounds_toArray, List.set_cons_zero, List.set_cons_succ]
    rfl
  refine zqp (i := 18) (N := (some 21)) (v := ?_) (a' := ?_) #[true, true, true, true, true, true, true, true, true, false, true, true, true, true, false, true, true, true, true, false, false, false, false, false, false] rfl rfl (by kernel_rfl) (fun _ _ _ h => h) (Or.inl ⟨by rfl, ?_⟩) ?_ ?_
  rotate_left
  · intro w'
    go_simp
    with_reducible rfl
  rotate_left
  · simp only [Act.put, List.setIfInBounds_toArray, List.set_cons_zero, List.set_cons_succ]
    rfl
  refine zqp (i := 19) (N := (some 22)) (v := ?_) (a' := ?_) #[true, true, true, true, true, true, true, true, true, false, true, true, true, true, false, true, true, true, true, true, false, false, false, false, false] rfl rfl (by kernel_rfl) (fun _ _ _ h => h) (Or.inl ⟨by rfl, ?_⟩) ?_ ?_
  rotate_left
  · intro w'
    go_simp
    rfl
  rotate_left
  · simp only [Act.put, List.setIfInBounds_toArray, List.set_cons_zero, List.set_cons_succ]
    rfl
  refine zqp (i := 21) (N := (some 24)) (v := ?_) (a' := ?_) #[true, true, true, true, true, true, true, true, true, false, true, true, true, true, false, true, true, true, true, true, false, true, false, false, false] rfl rfl (by kernel_rfl) (fun _ _ _ h => h) (Or.inl ⟨by rfl, ?_⟩) ?_ ?_
  rotate_left
  · intro w'
    go_simp
    with_reducible rfl
  rotate_left
  · simp only [Act.put, List.setIfInBounds_toArray, List.set_cons_zero, List.set_cons_succ]
    rfl
  refine one_ (i := 9) (N := (some 12)) #[true, true, true, true, true, true, true, true, true, true, true, true, true, true, false, true, true, true, true, true, false, true, false, false, false] rfl rfl (by kernel_rfl) (by decide) (fun K hK => ?_)
  refine goes_ Try.func88 (by kernel_rfl) rfl #[.slice (some ⟨g, 13, none⟩) 12 12] (by rfl) rfl rfl (by (try simp only [List.map_toArray, List.map_cons, List.map_nil]); first | done | rfl) ?_
  refine (cloneStrN ⟨g, 13, none⟩ 12 12 sl _ (drv_C_sl HD.out) HD.out.lsl (by omega)).mono ?_
  rintro e w4 ⟨v1, rfl, ho, hb⟩
  obtain ⟨A1, c1, rfl⟩ := Kd.R_slice ho
  refine ⟨_, rfl, ?_⟩
  have nd_ := Az.mk (Drv.below (g := g) (st := st) (sp := sp) (sl := sl) (rg := rg) (ns := ns) HD.out hb)
  have nb_ := Az.mk (below_step HB.out hb)
  have nk_ := Az.mk (blk_below (g := gr) (o := .cells #[.int .i64 0, .slice none 0 0, .slice none 0 0, .slice none 0 0, .slice none 0 0] 28 (0, 0)) BK.out hb)
  have HV1 : Az (Kd.R Kd.string 9 w4 w3.heap.size (fun _ => True) (.slice A1 sl.length c1) sl) := ⟨ho⟩
  have HG3 : Az (gr < w3.heap.size) := ⟨blk_lt BK.out⟩
  have HS3 : Az (w.heap.size ≤ w3.heap.size) := ⟨below_size HB.out⟩
  clear HD HB BK
  have HD := nd_
  have HB := nb_
  have BK := nk_
  clear nd_ nb_ nk_ ho hb
  refine hK.out _ _ (drv_st HD.out) (fun hHeld => ?_)
  clear hK K
  refine one_ (i := 14) (N := (some 17)) #[true, true, true, true, true, true, true, true, true, true, true, true, true, true, true, true, true, true, true, true, false, true, false, false, false] rfl rfl (by kernel_rfl) (by decide) (fun K hK => ?_)
  refine goes_ Try.func88 (by kernel_rfl) rfl #[.slice (some ⟨g, 25, none⟩) 2 2] (by rfl) rfl rfl (by (try simp only [List.map_toArray, List.map_cons, List.map_nil]); first | done | rfl) ?_
  refine (cloneStrN ⟨g, 25, none⟩ 2 2 rg _ (drv_C_rg HD.out) HD.out.lrg (by omega)).mono ?_
  rintro e w5 ⟨v2, rfl, ho, hb⟩
  obtain ⟨A2, c2, rfl⟩ := Kd.R_slice ho
  refine ⟨_, rfl, ?_⟩
  have nd_ := Az.mk (Drv.below (g := g) (st := st) (sp := sp) (sl := sl) (rg := rg) (ns := ns) HD.out hb)
  have nb_ := Az.mk (below_step HB.out hb)
  have nk_ := Az.mk (blk_below (g := gr) (o := .cells #[.int .i64 0, .slice none 0 0, .slice none 0 0, .slice none 0 0, .slice none 0 0] 28 (0, 0)) BK.out hb)
  have n1_ : Az (Kd.R Kd.string 9 w5 w3.heap.size (fun k_ => some k_ ≠ (Value.slice A2 rg.length c2).ownBlock) (.slice A1 sl.length c1) sl) := ⟨Kd.R_mono (Kd.R_told (Kd.R_old HV1.out hb) (Kd.R_base ho)) (fun _ h => h.1.2)⟩
  have n2_ : Az (Kd.R Kd.string 9 w5 w4.heap.size (fun k_ => some k_ ≠ (Value.slice A1 sl.length c1).ownBlock) (.slice A2 rg.length c2) rg) := ⟨Kd.R_mono (Kd.R_bound ho) (fun k_ hk e_ => by have h1 := Kd.R_lt HV1.out k_ e_.symm; have h2 := hk.2.1; omega)⟩
  have HG4 : Az (gr < w4.heap.size) := ⟨blk_lt BK.out⟩
  have HS4 : Az (w.heap.size ≤ w4.heap.size) := ⟨below_size HB.out⟩
  clear HV1
  have HV1 := n1_
  have HV2 := n2_
  clear n1_ n2_
  clear HD HB BK
  have HD := nd_
  have HB := nb_
  have BK := nk_
  clear nd_ nb_ nk_ ho hb
  refine hK.out _ _ (drv_st HD.out) (fun hHeld => ?_)
  clear hK K
  refine one_ (i := 20) (N := (some 23)) #[true, true, true, true, true, true, true, true, true, true, true, true, true, true, true, true, true, true, true, true, true, true, false, false, false] rfl rfl (by kernel_rfl) (by decide) (fun K hK => ?_)
  refine goes_ Try.func89 (by kernel_rfl) rfl #[.slice (some ⟨g, 1, none⟩) 12 12] (by rfl) rfl rfl (by (try simp only [List.map_toArray, List.map_cons, List.map_nil]); first | done | rfl) ?_
  refine (cloneBoolN ⟨g, 1, none⟩ 12 12 sp _ (drv_C_sp HD.out) HD.out.lsp (by omega)).mono ?_
  rintro e w6 ⟨v3, rfl, ho, hb⟩
  obtain ⟨A3, c3, rfl⟩ := Kd.R_slice ho
  refine ⟨_, rfl, ?_⟩
  have nd_ := Az.mk (Drv.below (g := g) (st := st) (sp := sp) (sl := sl) (rg := rg) (ns := ns) HD.out hb)
  have nb_ := Az.mk (below_step HB.out hb)
  have nk_ := Az.mk (blk_below (g := gr) (o := .cells #[.int .i64 0, .slice none 0 0, .slice none 0 0, .slice none 0 0, .slice none 0 0] 28 (0, 0)) BK.out hb)
  have n1_ := Az.mk (Kd.R_below HV1.out hb)
  have n2_ := Az.mk (Kd.R_below HV2.out hb)
  have HV3 : Az (Kd.R Kd.bool 4 w6 w5.heap.size (fun _ => True) (.slice A3 sp.length c3) sp) := ⟨ho⟩
  have HG5 : Az (gr < w5.heap.size) := ⟨blk_lt BK.out⟩
  have HS5 : Az (w.heap.size ≤ w5.heap.size) := ⟨below_size HB.out⟩
  clear HV1 HV2
  have HV1 := n1_
  have HV2 := n2_
  clear n1_ n2_
  clear HD HB BK
  have HD := nd_
  have HB := nb_
  have BK := nk_
  clear nd_ nb_ nk_ ho hb
  refine hK.out _ _ (drv_st HD.out) (fun hHeld => ?_)
  clear hK K
  refine one_ (i := 22) (N := (some 25)) #[true, true, true, true, true, true, true, true, true, true, true, true, true, true, true, true, true, true, true, true, true, true, true, false, false] rfl rfl (by kernel_rfl) (by decide) (fun K hK => ?_)
  refine goes_ Try.func90 (by kernel_rfl) rfl #[.pointer (some ⟨g, 0, none⟩)] (by rfl) rfl rfl (by (try simp only [List.map_toArray, List.map_cons, List.map_nil]); first | done | rfl) ?_
  refine (waits_calls g st sp sl rg ns _ HD.out HN.out).mono ?_
  rintro e w7 ⟨v4, rfl, ho, hb⟩
  obtain ⟨A4, c4, rfl⟩ := Kd.R_slice ho
  refine ⟨_, rfl, ?_⟩
  have nd_ := Az.mk (Drv.below (g := g) (st := st) (sp := sp) (sl := sl) (rg := rg) (ns := ns) HD.out hb)
  have nb_ := Az.mk (below_step HB.out hb)
  have nk_ := Az.mk (blk_below (g := gr) (o := .cells #[.int .i64 0, .slice none 0 0, .slice none 0 0, .slice none 0 0, .slice none 0 0] 28 (0, 0)) BK.out hb)
  have n1_ := Az.mk (Kd.R_below HV1.out hb)
  have n2_ := Az.mk (Kd.R_below HV2.out hb)
  have n3_ := Az.mk (Kd.R_below HV3.out hb)
  have HV4 : Az (Kd.R k54 54 w7 w6.heap.size (fun _ => True) (.slice A4 ns.length c4) (ns.map (·.2))) := ⟨by simpa only [List.length_map] using ho⟩
  have HG6 : Az (gr < w6.heap.size) := ⟨blk_lt BK.out⟩
  have HS6 : Az (w.heap.size ≤ w6.heap.size) := ⟨below_size HB.out⟩
  clear HV1 HV2 HV3
  have HV1 := n1_
  have HV2 := n2_
  have HV3 := n3_
  clear n1_ n2_ n3_
  clear HD HB BK
  have HD := nd_
  have HB := nb_
  have BK := nk_
  clear nd_ nb_ nk_ ho hb
  refine hK.out _ _ (drv_st HD.out) (fun hHeld => ?_)
  clear hK K
  refine zqp (i := 23) (N := (some 26)) (v := ?_) (a' := ?_) #[true, true, true, true, true, true, true, true, true, true, true, true, true, true, true, true, true, true, true, true, true, true, true, true, false] rfl rfl (by kernel_rfl) (fun _ _ _ h => h) (Or.inl ⟨by rfl, ?_⟩) ?_ ?_
  rotate_left
  · intro w'
    go_simp
    with_reducible rfl
  rotate_left
  · simp only [Act.put, List.setIfInBounds_toArray, List.set_cons_zero, List.set_cons_succ]
    rfl
  refine last_ (i := 24) (N := none) #[true, true, true, true, true, true, true, true, true, true, true, true, true, true, true, true, true, true, true, true, true, true, true, true, true] rfl rfl (by kernel_rfl) (by decide) (fun K hK => ?_)
  have hcz_0 : w7.cell? ⟨gr, 0, none⟩ = some (.int .i64 0) := (zq4 BK.out 0).trans rfl
  have hcz_1 : w7.cell? ⟨gr, 1, none⟩ = some (.slice none 0 0) := (zq4 BK.out 1).trans rfl
  have hcz_2 : w7.cell? ⟨gr, 2, none⟩ = some (.slice none 0 0) := (zq4 BK.out 2).trans rfl
  have hcz_3 : w7.cell? ⟨gr, 3, none⟩ = some (.slice none 0 0) := (zq4 BK.out 3).trans rfl
  have hcz_4 : w7.cell? ⟨gr, 4, none⟩ = some (.slice none 0 0) := (zq4 BK.out 4).trans rfl
  have hfz_0 := zq5 BK.out 0
  have hfz_1 := zq5 BK.out 1
  have hfz_2 := zq5 BK.out 2
  have hfz_3 := zq5 BK.out 3
  have hfz_4 := zq5 BK.out 4
  refine skip_ (w1 := ?_) (by rfl) rfl ?_ ?_
  rotate_left
  · go_simp
    rfl
  refine hK.out _ _ ?_
  clear hK K

  refine done_ (by kernel_rfl) ?_
  go_wp2
  refine bodyPost_ret (results_cell_row rfl _ _ gr 28 #[.int .i64 st, .slice A1 sl.length c1, .slice A2 rg.length c2, .slice A3 sp.length c3, .slice A4 ns.length c4] (0, 0) _ rfl (by
    refine blk_put (cs := #[.int .i64 st, .slice A1 sl.length c1, .slice A2 rg.length c2, .slice A3 sp.length c3, .slice none 0 0]) ?_ 4 _ rfl
    refine blk_put (cs := #[.int .i64 st, .slice A1 sl.length c1, .slice A2 rg.length c2, .slice none 0 0, .slice none 0 0]) ?_ 3 _ rfl
    refine blk_put (cs := #[.int .i64 st, .slice A1 sl.length c1, .slice none 0 0, .slice none 0 0, .slice none 0 0]) ?_ 2 _ rfl
    refine blk_put (cs := #[.int .i64 st, .slice none 0 0, .slice none 0 0, .slice none 0 0, .slice none 0 0]) ?_ 1 _ rfl
    refine blk_put (cs := #[.int .i64 0, .slice none 0 0, .slice none 0 0, .slice none 0 0, .slice none 0 0]) ?_ 0 _ rfl
    exact BK.out) Try.underlying28 rfl (by kernel_rfl)) rfl ?_
  have hset : ∀ {W : World} (h : Below w.heap.size w W) (j : Nat) (u : Value), Below w.heap.size w (W.setCell ⟨gr, j, none⟩ u) := fun h j u => zq3 h HGR.out
  exact ⟨_, _, _, _, rfl, Kd.R_lower (R_setOwn (R_setOwn (R_setOwn (R_setOwn (R_setOwn HV1.out HG3.out 0 _) HG3.out 1 _) HG3.out 2 _) HG3.out 3 _) HG3.out 4 _) HS3.out,
    Kd.R_lower (R_setOwn (R_setOwn (R_setOwn (R_setOwn (R_setOwn HV2.out HG4.out 0 _) HG4.out 1 _) HG4.out 2 _) HG4.out 3 _) HG4.out 4 _) HS4.out,
    Kd.R_lower (R_setOwn (R_setOwn (R_setOwn (R_setOwn (R_setOwn HV3.out HG5.out 0 _) HG5.out 1 _) HG5.out 2 _) HG5.out 3 _) HG5.out 4 _) HS5.out,
    Kd.R_lower (R_setOwn (R_setOwn (R_setOwn (R_setOwn (R_setOwn HV4.out HG6.out 0 _) HG6.out 1 _) HG6.out 2 _) HG6.out 3 _) HG6.out 4 _) HS6.out,
    hset (hset (hset (hset (hset HB.out 0 _) 1 _) 2 _) 3 _) 4 _⟩
end Go.Proofs.Ytkgpnloghmbmlaa.Print
namespace Go.Proofs.Ytkgpnloghmbmlaa.Print
open Go.RowKit Go.Proofs.YtkgpnloghmbmlaaW.PrintWords Go.Proofs.YtkgpnloghmbmlaaW.PrintLast Go.Proofs.YtkgpnloghmbmlaaW.PrintMore
attribute [local go_sem] max2_int min2_int max_two min_two max_three min_three max_four min_four   -- for this text's walks alone
set_option linter.unusedVariables false
set_option linter.unusedSimpArgs false
end Go.Proofs.Ytkgpnloghmbmlaa.Print
namespace Go.Proofs.Ytkgpnloghmbmlaa.Pure
open Go.RowKit Go.Proofs.Ytkgpnloghmbmlaa.Print Go.Proofs.YtkgpnloghmbmlaaW.PrintWords
set_option linter.unusedSimpArgs false
def mk {α : Type} (g : Nat → α) (l : List α) (i : Nat) : List α := (List.range i).map g ++ l.drop i
end Go.Proofs.Ytkgpnloghmbmlaa.Pure
namespace Go.Proofs.Ytkgpnloghmbmlaa.Hd
open Go.RowKit Go.Proofs.Ytkgpnloghmbmlaa.Print Go.Proofs.YtkgpnloghmbmlaaW.PrintWords Go.Proofs.YtkgpnloghmbmlaaW.PrintLast Go.Proofs.Ytkgpnloghmbmlaa.Pure
set_option linter.unusedVariables false
structure Dd where
  st : Int
  l1 : List ByteArray
  l2 : List ByteArray
  l3 : List Bool
  l4 : List S54
structure Mm where
  A1 : Option Addr
  c1 : Nat
  A2 : Option Addr
  c2 : Nat
  A3 : Option Addr
  c3 : Nat
  A4 : Option Addr
  c4 : Nat
def cD (M : Mm) (D : Dd) : Array Value := #[.int .i64 D.st, .slice M.A1 D.l1.length M.c1, .slice M.A2 D.l2.length M.c2, .slice M.A3 D.l3.length M.c3, .slice M.A4 D.l4.length M.c4]
structure Rd (w : World) (M : Mm) (D : Dd) : Prop where
  r1 : Kd.C Kd.string w M.A1 D.l1.length D.l1
  h1 : D.l1.length ≤ M.c1
  r2 : Kd.C Kd.string w M.A2 D.l2.length D.l2
  h2 : D.l2.length ≤ M.c2
  r3 : Kd.C Kd.bool w M.A3 D.l3.length D.l3
  h3 : D.l3.length ≤ M.c3
  r4 : Kd.C k54 w M.A4 D.l4.length D.l4
  h4 : D.l4.length ≤ M.c4
abbrev Mm.s1 (M : Mm) (D : Dd) : Value := .slice M.A1 D.l1.length M.c1
abbrev Mm.s2 (M : Mm) (D : Dd) : Value := .slice M.A2 D.l2.length M.c2
abbrev Mm.s3 (M : Mm) (D : Dd) : Value := .slice M.A3 D.l3.length M.c3
abbrev Mm.s4 (M : Mm) (D : Dd) : Value := .slice M.A4 D.l4.length M.c4
structure Own (w : World) (lo hi : Nat) (M : Mm) (D : Dd) : Prop where
  o1 : Kd.R Kd.string 9 w lo (fun k => k < hi ∧ some k ≠ (M.s2 D).ownBlock) (M.s1 D) D.l1
  o2 : Kd.R Kd.string 9 w lo (fun k => k < hi ∧ some k ≠ (M.s1 D).ownBlock) (M.s2 D) D.l2
  o3 : Kd.R Kd.bool 4 w lo (fun k => k < hi) (M.s3 D) D.l3
  o4 : Kd.R k54 54 w lo (fun k => k < hi) (M.s4 D) D.l4
theorem Rd.below {w w' : World} {M : Mm} {D : Dd} (h : Rd w M D) (hb : Below w.heap.size w w') : Rd w' M D :=
  ⟨Kd.C_below h.r1 hb, h.h1, Kd.C_below h.r2 hb, h.h2, Kd.C_below h.r3 hb, h.h3, Kd.C_below h.r4 hb, h.h4⟩
theorem R_C {α : Type} {d : Kd α} {t : Nat} {w : World} {lo n c : Nat} {A : Option Addr} {ok : Nat → Prop} {xs : List α} (h : d.R t w lo ok (.slice A n c) xs) (hn : n = xs.length) : d.C w A xs.length xs ∧ xs.length ≤ c := by
  obtain ⟨A', c', h1, h2, h3⟩ := Kd.R_reads h
  injection h1 with h1 _ h4
  subst h1
  subst h4
  exact ⟨h3, h2⟩
theorem Own.rd {w : World} {lo hi : Nat} {M : Mm} {D : Dd} (h : Own w lo hi M D) : Rd w M D :=
  ⟨(R_C h.o1 rfl).1, (R_C h.o1 rfl).2, (R_C h.o2 rfl).1, (R_C h.o2 rfl).2, (R_C h.o3 rfl).1, (R_C h.o3 rfl).2, (R_C h.o4 rfl).1, (R_C h.o4 rfl).2⟩
theorem R_in {α : Type} {d : Kd α} {t : Nat} {w w' : World} {lo hi : Nat} {v : Value} {ok : Nat → Prop} {xs : List α} (h : d.R t w lo ok v xs) (hok : ∀ k, ok k → k < hi) (hk : ∀ k, lo ≤ k → k < hi → w'.heap[k]? = w.heap[k]?) : d.R t w' lo ok v xs :=
  Kd.R_mono (Kd.R_move (Kd.R_bound h) fun k h1 => hk k h1.2.1 (hok k h1.1)) fun _ h1 => h1.1
theorem Own.move {w w' : World} {lo hi : Nat} {M : Mm} {D : Dd} (h : Own w lo hi M D) (hk : ∀ k, lo ≤ k → k < hi → w'.heap[k]? = w.heap[k]?) : Own w' lo hi M D :=
  ⟨R_in h.o1 (fun _ h => h.1) hk, R_in h.o2 (fun _ h => h.1) hk, R_in h.o3 (fun _ h => h) hk, R_in h.o4 (fun _ h => h) hk⟩
theorem Hd.own {base : Nat} {w0 w : World} {L : List Part} (h : Hd base w0 w L) (i : Nat) {lo hi : Nat} {wc : World} {M : Mm} {D : Dd} (e : L[i]? = some (.same lo hi wc)) (ho : Own wc lo hi M D) : Own w lo hi M D := ho.move (h.same i e)
theorem Hd.rd {base : Nat} {w0 w : World} {L : List Part} (h : Hd base w0 w L) (i : Nat) {lo hi : Nat} {wc : World} {M : Mm} {D : Dd} (e : L[i]? = some (.same lo hi wc)) (ho : Own wc lo hi M D) : Rd w M D := (h.own i e ho).rd
theorem R_hi {α : Type} {d : Kd α} {t : Nat} {w : World} {lo : Nat} {v : Value} {ok : Nat → Prop} {xs : List α} (h : d.R t w lo ok v xs) : d.R t w lo (fun k => k < w.heap.size ∧ ok k) v xs :=
  Kd.R_mono (Kd.R_bound h) fun _ h1 => ⟨h1.2.2.1, h1.1⟩
theorem own_of {w : World} {lo : Nat} {st : Int} {v1 v2 v3 v4 : Value} {l1 l2 : List ByteArray} {l3 : List Bool} {l4 : List S54} (o1 : Kd.R Kd.string 9 w lo (fun k_ => some k_ ≠ v2.ownBlock) v1 l1) (o2 : Kd.R Kd.string 9 w lo (fun k_ => some k_ ≠ v1.ownBlock) v2 l2) (o3 : Kd.R Kd.bool 4 w lo (fun _ => True) v3 l3) (o4 : Kd.R k54 54 w lo (fun _ => True) v4 l4) :
    ∃ M : Mm, #[.int .i64 st, v1, v2, v3, v4] = cD M ⟨st, l1, l2, l3, l4⟩ ∧ Own w lo w.heap.size M ⟨st, l1, l2, l3, l4⟩ := by
  obtain ⟨A1, c1, rfl⟩ := Kd.R_slice o1
  obtain ⟨A2, c2, rfl⟩ := Kd.R_slice o2
  obtain ⟨A3, c3, rfl⟩ := Kd.R_slice o3
  obtain ⟨A4, c4, rfl⟩ := Kd.R_slice o4
  exact ⟨⟨A1, c1, A2, c2, A3, c3, A4, c4⟩, rfl, R_hi o1, R_hi o2, Kd.R_mono (R_hi o3) fun _ h => h.1, Kd.R_mono (R_hi o4) fun _ h => h.1⟩
def FitsD (D : Dd) : Prop := Fits D.l1 D.l2 D.l3 D.l4.length
def Gives (D : Dd) (w : World) (e : Ending) (w' : World) : Prop := ∃ M : Mm, e = .returned (.agg (cD M D)) ∧ Own w' w.heap.size w'.heap.size M D ∧ Below w.heap.size w w'
theorem gives_of {w w' : World} {e : Ending} {st : Int} {l1 l2 : List ByteArray} {l3 : List Bool} {l4 : List S54} (h : ∃ v1_ v2_ v3_ v4_ : Value, e = .returned (.agg #[.int .i64 st, v1_, v2_, v3_, v4_]) ∧ Kd.R Kd.string 9 w' w.heap.size (fun k_ => some k_ ≠ (v2_ : Value).ownBlock) v1_ l1 ∧ Kd.R Kd.string 9 w' w.heap.size (fun k_ => some k_ ≠ (v1_ : Value).ownBlock) v2_ l2 ∧ Kd.R Kd.bool 4 w' w.heap.size (fun _ => True) v3_ l3 ∧ Kd.R k54 54 w' w.heap.size (fun _ => True) v4_ l4 ∧ Below w.heap.size w w') : Gives ⟨st, l1, l2, l3, l4⟩ w e w' := by
  obtain ⟨v1, v2, v3, v4, he, o1, o2, o3, o4, hb⟩ := h
  obtain ⟨M, hM, ho⟩ := own_of (st := st) o1 o2 o3 o4
  exact ⟨M, by rw [he, hM], ho, hb⟩
theorem R_base {α : Type} {enc : α → Value} {h1 : ∀ x, (enc x).oneCell' = true} {t : Nat} {w : World} {b lo : Nat} {v : Value} {ok ok' : Nat → Prop} {xs : List α} (h : (Kd.scalar enc h1).R t w b ok v xs) (hb : ∀ k, v.ownBlock = some k → lo ≤ k) (hok : ∀ k, v.ownBlock = some k → ok' k) : (Kd.scalar enc h1).R t w lo ok' v xs := by
  obtain ⟨_, inner, ho, hr⟩ := h
  refine ⟨hok, inner, ⟨ho.1, ?_⟩, hr⟩
  rcases ho.2 with h2 | ⟨g, cap, cur, e, hg, r⟩
  · exact .inl h2
  · exact .inr ⟨g, cap, cur, e, hb g (by rw [e]; rfl), r⟩
theorem R_base54 {t : Nat} {w : World} {b lo : Nat} {v : Value} {ok ok' : Nat → Prop} {xs : List S54} (h : k54.R t w b ok v xs) (hb : ∀ k, v.ownBlock = some k → lo ≤ k) (hok : ∀ k, v.ownBlock = some k → ok' k) : k54.R t w lo ok' v xs := by
  obtain ⟨_, inner, ho, hr⟩ := h
  refine ⟨hok, inner, ⟨ho.1, ?_⟩, hr⟩
  rcases ho.2 with h2 | ⟨g, cap, cur, e, hg, r⟩
  · exact .inl h2
  · exact .inr ⟨g, cap, cur, e, hb g (by rw [e]; rfl), r⟩
theorem own_ge {α : Type} {d : Kd α} {t : Nat} {w : World} {b : Nat} {v : Value} {ok : Nat → Prop} {xs : List α} (h : d.R t w b ok v xs) : ∀ k, v.ownBlock = some k → b ≤ k ∧ ok k := fun k hk => by
  obtain ⟨h0, inner, ho, hr⟩ := h
  exact ⟨own_base ho k hk, h0 k hk⟩
end Go.Proofs.Ytkgpnloghmbmlaa.Hd
namespace Go.Proofs.Ytkgpnloghmbmlaa.Hd
open Go.RowKit Go.Proofs.Ytkgpnloghmbmlaa.Print Go.Proofs.YtkgpnloghmbmlaaW.PrintWords Go.Proofs.YtkgpnloghmbmlaaW.PrintLast Go.Proofs.Ytkgpnloghmbmlaa.Pure
set_option linter.unusedVariables false
set_option linter.unusedSimpArgs false
theorem below_of_none {w w1 : World} (hg : w.grownBy w1 none) : Below w.heap.size w w1 := ⟨hg.os, hg.tape, hg.output, hg.size, fun k hk => hg.block k hk (by simp)⟩
theorem own_new {v : Value} {n : Nat} (h : ∃ b, v.ownBlock = some b ∧ n ≤ b) : ∀ k, v.ownBlock = some k → n ≤ k := fun k hk => by
  obtain ⟨b, hb, hn⟩ := h
  rw [hb] at hk
  injection hk with hk
  omega
theorem own_lt' {α : Type} {d : Kd α} {t b : Nat} {w : World} {ok : Nat → Prop} {v : Value} {xs : List α} (h : d.R t w b ok v xs) : ∀ k, v.ownBlock = some k → k < w.heap.size := fun k hk => by
  obtain ⟨_, inner, ho, _⟩ := h
  exact own_lt ho k hk
def Ownerless {α : Type} (d : Kd α) : Prop := ∀ (w w' : World) (b : Nat) (ok ok' : Nat → Prop) (x : α) (cs : List Value), d.M w b ok x cs → d.M w' b ok' x cs
theorem ownerless_string : Ownerless Kd.string := fun _ _ _ _ _ _ _ h => h
theorem ownerless_bool : Ownerless Kd.bool := fun _ _ _ _ _ _ _ h => h
theorem ownerless_k54 : Ownerless k54 := fun _ _ _ _ _ _ _ h => h
theorem R_own_only {α : Type} {d : Kd α} {t b : Nat} {w w' : World} {ok : Nat → Prop} {v : Value} {xs : List α} (h : d.R t w b ok v xs) (hd : Ownerless d) (hk : ∀ k, v.ownBlock = some k → w'.heap[k]? = w.heap[k]?) : d.R t w' b ok v xs := by
  obtain ⟨h0, inner, ho, hr⟩ := h
  exact ⟨h0, inner, own_move ho hk, hr.imp_ fun _ _ hp => hd _ _ _ _ _ _ _ hp⟩
theorem ne_types {α β : Type} {d : Kd α} {d' : Kd β} {t t' b b' : Nat} {w : World} {ok ok' : Nat → Prop} {v v' : Value} {xs : List α} {ys : List β} (h : d.R t w b ok v xs) (h' : d'.R t' w b' ok' v' ys) (ht : t ≠ t') : ∀ k, v.ownBlock = some k → some k ≠ v'.ownBlock := fun k hk e => by
  obtain ⟨_, _, ho, _⟩ := h
  obtain ⟨_, _, ho', _⟩ := h'
  obtain ⟨c, hc⟩ := own_typed ho k hk
  obtain ⟨c', hc'⟩ := own_typed ho' k e.symm
  rw [hc] at hc'
  injection hc' with hc'
  injection hc' with _ hc'
  exact ht hc'
theorem R_far_types {α β : Type} {d : Kd α} {d' : Kd β} {t t' b b' : Nat} {w w1 : World} {ok ok' : Nat → Prop} {v v' : Value} {xs : List α} {ys : List β} (h : d.R t w b ok v xs) (h' : d'.R t' w b' ok' v' ys) (ht : t ≠ t') (hg : w.grownBy w1 v'.ownBlock) (hd : Ownerless d) : d.R t w1 b ok v xs :=
  R_own_only h hd fun k hk => hg.block k (own_lt' h k hk) (ne_types h h' ht k hk)
theorem R_far_ne {α : Type} {d : Kd α} {t b : Nat} {w w1 : World} {ok : Nat → Prop} {v v' : Value} {xs : List α} (h : d.R t w b ok v xs) (hg : w.grownBy w1 v'.ownBlock) (hn : v'.ownBlock = none ∨ v'.ownBlock ≠ v.ownBlock) (hd : Ownerless d) : d.R t w1 b ok v xs :=
  R_own_only h hd fun k hk => hg.block k (own_lt' h k hk) (atom_of' hn hk)
theorem R_far_ne' {α : Type} {d : Kd α} {t b : Nat} {w w1 : World} {ok : Nat → Prop} {v v' : Value} {xs : List α} (h : d.R t w b ok v xs) (hg : w.grownBy w1 v'.ownBlock) (hn : v.ownBlock = none ∨ v.ownBlock ≠ v'.ownBlock) (hd : Ownerless d) : d.R t w1 b ok v xs :=
  R_own_only h hd fun k hk => hg.block k (own_lt' h k hk) (atom_of hn hk)
theorem ne_left {v v1 u : Value} {n : Nat} (h : v1.ownBlock = v.ownBlock ∨ ∃ b, v1.ownBlock = some b ∧ n ≤ b) (hn : v.ownBlock = none ∨ v.ownBlock ≠ u.ownBlock) (hu : ∀ k, u.ownBlock = some k → k < n) : v1.ownBlock = none ∨ v1.ownBlock ≠ u.ownBlock := by
  rcases h with h | h
  · rw [h]; exact hn
  · exact own_apart' (own_new h) hu
theorem ne_right {v v1 u : Value} {n : Nat} (h : v1.ownBlock = v.ownBlock ∨ ∃ b, v1.ownBlock = some b ∧ n ≤ b) (hn : u.ownBlock = none ∨ u.ownBlock ≠ v.ownBlock) (hu : ∀ k, u.ownBlock = some k → k < n) : u.ownBlock = none ∨ u.ownBlock ≠ v1.ownBlock := by
  rcases h with h | h
  · rw [h]; exact hn
  · exact own_apart hu (own_new h)
theorem own_ge2 {α : Type} {d : Kd α} {t b g g' s s' : Nat} {w : World} {ok : Nat → Prop} {v : Value} {xs : List α} {cs cs' : Array Value} (h : d.R t w b ok v xs) (hg : w.heap[g]? = some (.cells cs s (0, 0))) (hg' : w.heap[g']? = some (.cells cs' s' (0, 0))) (ht : t ≠ s ∧ t ≠ s') : ∀ k, v.ownBlock = some k → b ≤ k ∧ k ≠ g ∧ k ≠ g' := fun k hk => by
  obtain ⟨_, _, ho, _⟩ := h
  obtain ⟨c, hc⟩ := own_typed ho k hk
  refine ⟨own_base ho k hk, ?_, ?_⟩
  · rintro rfl
    rw [hc] at hg
    injection hg with hg
    injection hg with _ hg
    exact ht.1 hg
  · rintro rfl
    rw [hc] at hg'
    injection hg' with hg'
    injection hg' with _ hg'
    exact ht.2 hg'
theorem Hd.grown2 {base : Nat} {w0 w w1 : World} {g g' s s' : Nat} {cs cs' : Array Value} {row : Option Nat} (h : Hd base w0 w [.box g cs s, .box g' cs' s']) (hg : w.grownBy w1 row) (hr : ∀ k, row = some k → base ≤ k ∧ k ≠ g ∧ k ≠ g') : Hd base w0 w1 [.box g cs s, .box g' cs' s'] :=
  h.grown hg fun k hk => ⟨(hr k hk).1, fun p hp => by
    have := hr k hk
    rcases List.mem_cons.1 hp with rfl | hp
    · have : (Part.box g cs s).lo = g := rfl; have : (Part.box g cs s).hi = g + 1 := rfl; omega
    · rcases List.mem_cons.1 hp with rfl | hp
      · have : (Part.box g' cs' s').lo = g' := rfl; have : (Part.box g' cs' s').hi = g' + 1 := rfl; omega
      · cases hp⟩
theorem R_set_far {α : Type} {d : Kd α} {t b g s : Nat} {w : World} {ok : Nat → Prop} {v : Value} {xs : List α} {cs : Array Value} (h : d.R t w b ok v xs) (hg : w.heap[g]? = some (.cells cs s (0, 0))) (ht : t ≠ s) (cs' : Array Value) (hd : Ownerless d) : d.R t (w.setRow g cs') b ok v xs :=
  R_own_only h hd fun k hk => setRow_other w g k cs' fun e => by
    obtain ⟨_, _, ho, _⟩ := h
    obtain ⟨c, hc⟩ := own_typed ho k hk
    subst e
    rw [hc] at hg
    injection hg with hg
    injection hg with _ hg
    exact ht hg
theorem infoL9 : (Try.prog.info? 9).map (fun i => (i.zero, i.size, i.bytes)) = some (some (.string ⟨#[]⟩), 1, 16) := by kernel_rfl
theorem infoL4 : (Try.prog.info? 4).map (fun i => (i.zero, i.size, i.bytes)) = some (some (.bool false), 1, 1) := by kernel_rfl
theorem infoL54 : (Try.prog.info? 54).map (fun i => (i.zero, i.size, i.bytes)) = some (some (.agg #[.bool false, .int .i64 0, .string ⟨#[]⟩]), 3, 32) := by kernel_rfl
theorem sizeL28 : (Try.prog.info? 28).map (·.size) = some 5 := by kernel_rfl
def TC : Bool × List (List Nat × List Nat) := (true, [([], []), ([0], [0]), ([], []), ([], []), ([3], [3]), ([2, 4], [2, 4]), ([], []), ([], []), ([7], [7]), ([6, 8, 5], [6, 8]), ([], []), ([], []), ([11], [11]), ([10, 12, 9], [10, 12]), ([], []), ([], []), ([15], [15]), ([14, 16, 13], [14, 16]), ([1, 5, 9, 13, 17], [1, 5, 9, 13, 17]), ([18, 17, 0, 1, 2, 3, 4, 5, 6, 7, 8, 9, 10, 11, 12, 13, 14, 15, 16, 17, 18], [18])])
def BC : List Nat := [0, 1, 0, 0, 8, 28, 0, 0, 128, 508, 0, 0, 2048, 8188, 0, 0, 32768, 131068, 262143, 524287]
theorem tabC : rtab .any (opsOf Try.f80 1) = TC := by kernel_rfl
theorem bitsC : waitsOk TC.2 BC = true := by kernel_rfl
set_option maxHeartbeats 8000000 in
set_option maxRecDepth 100000 in
theorem l3Copy_call {w : World} {M : Mm} {D : Dd} (hf : FitsD D) (h : Rd w M D) : Calls Try.prog 80 #[.agg (cD M D)] w (Gives D w) := by
  have hu28 := Try.underlying28
  have hs28 := sizeL28
  have HF := Az.mk hf
  have HR := Az.mk h
  have H := Az.mk (Hd.start w)
  clear hf h
  go_enter Try.func80, Try.ntmps80
  go_wp2_with (first | ((with_reducible refine zqg (N := 1) rfl ?_); refine H.out.bx rfl (cD M D) 28 ?hr ?_; (case hr => first | (go_simp; done) | (go_simp; rfl)); intro g1 wa H1; clear H; have H := H1; clear H1) | ((with_reducible refine zqg (N := 2) rfl ?_); refine H.out.bx rfl #[.int .i64 0, .slice none 0 0, .slice none 0 0, .slice none 0 0, .slice none 0 0] 28 ?hr ?_; (case hr => first | (go_simp; done) | (go_simp; rfl)); intro g2 wb H1; clear H; have H := H1; clear H1))
  refine start_ (n := 20) (S := fun w' => True) (ds := []) #[false, false, false, false, false, false, false, false, false, false, false, false, false, false, false, false, false, false, false, false] (by kernel_rfl) rfl rfl trivial (fun hHeld => ?_)
  refine with_tabW tabC bitsC (fun HT_ HW_ => ?_)
  have HD := Az.mk H.out.drew
  clear hHeld H
  generalize wb.drew = wd at HD ⊢
  refine zqp (i := 0) (N := some 3) (v := ?_) (a' := ?_) #[true, false, false, false, false, false, false, false, false, false, false, false, false, false, false, false, false, false, false, false] rfl rfl (by kernel_rfl) (fun _ _ _ h => h) (Or.inl ⟨by rfl, ?_⟩) ?_ ?_
  rotate_left
  · intro w'
    go_simp
    with_reducible rfl
  rotate_left
  · simp only [Act.put, List.setIfInBounds_toArray, List.set_cons_zero, List.set_cons_succ, i64_w, i32_w]
    rfl
  refine zqp (i := 3) (N := some 6) (v := ?_) (a' := ?_) #[true, false, false, true, false, false, false, false, false, false, false, false, false, false, false, false, false, false, false, false] rfl rfl (by kernel_rfl) (fun _ _ _ h => h) (Or.inl ⟨by rfl, ?_⟩) ?_ ?_
  rotate_left
  · intro w'
    go_simp
    with_reducible rfl
  rotate_left
  · simp only [Act.put, List.setIfInBounds_toArray, List.set_cons_zero, List.set_cons_succ, i64_w, i32_w]
    rfl
  refine zqp (i := 7) (N := some 10) (v := ?_) (a' := ?_) #[true, false, false, true, false, false, false, true, false, false, false, false, false, false, false, false, false, false, false, false] rfl rfl (by kernel_rfl) (fun _ _ _ h => h) (Or.inl ⟨by rfl, ?_⟩) ?_ ?_
  rotate_left
  · intro w'
    go_simp
    with_reducible rfl
  rotate_left
  · simp only [Act.put, List.setIfInBounds_toArray, List.set_cons_zero, List.set_cons_succ, i64_w, i32_w]
    rfl
  refine zqp (i := 11) (N := some 14) (v := ?_) (a' := ?_) #[true, false, false, true, false, false, false, true, false, false, false, true, false, false, false, false, false, false, false, false] rfl rfl (by kernel_rfl) (fun _ _ _ h => h) (Or.inl ⟨by rfl, ?_⟩) ?_ ?_
  rotate_left
  · intro w'
    go_simp
    with_reducible rfl
  rotate_left
  · simp only [Act.put, List.setIfInBounds_toArray, List.set_cons_zero, List.set_cons_succ, i64_w, i32_w]
    rfl
  refine zqp (i := 15) (N := some 18) (v := ?_) (a' := ?_) #[true, false, false, true, false, false, false, true, false, false, false, true, false, false, false, true, false, false, false, false] rfl rfl (by kernel_rfl) (fun _ _ _ h => h) (Or.inl ⟨by rfl, ?_⟩) ?_ ?_
  rotate_left
  · intro w'
    go_simp
    with_reducible rfl
  rotate_left
  · simp only [Act.put, List.setIfInBounds_toArray, List.set_cons_zero, List.set_cons_succ, i64_w, i32_w]
    rfl
  refine inv_at [1, 2, 4, 5, 6, 8, 9, 10, 12, 13, 14, 16, 17, 18, 19] (fun a0_ b a w' => ∃ (b1 : Value) (b2 : Value) (b3 : Value) (b4 : Value) (a1 : Value) (a2 : Value) (a3 : Value) (a4 : Value) (m18_ : Value), a = putSel a0_ b [(1, 4, .int .i64 D.st), (2, 5, b1), (4, 7, .slice M.A1 D.l1.length M.c1), (5, 8, a1), (6, 9, b2), (8, 11, .slice M.A2 D.l2.length M.c2), (9, 12, a2), (10, 13, b3), (12, 15, .slice M.A3 D.l3.length M.c3), (13, 16, a3), (14, 17, b4), (16, 19, .slice M.A4 D.l4.length M.c4), (17, 20, a4), (18, 21, m18_)] ∧ (b 19 = false → Hd w.heap.size w w' [.box g2 #[.int .i64 0, .slice none 0 0, .slice none 0 0, .slice none 0 0, .slice none 0 0] 28, .box g1 (cD M D) 28]) ∧ (b 2 = true → b 5 = false → Kd.R Kd.string 9 w' w.heap.size (fun _ => True) b1 ([] : List ByteArray)) ∧ (b 5 = true → b 19 = false → Kd.R Kd.string 9 w' w.heap.size (fun _ => True) a1 D.l1) ∧ (b 6 = true → b 9 = false → Kd.R Kd.string 9 w' w.heap.size (fun _ => True) b2 ([] : List ByteArray)) ∧ (b 9 = true → b 19 = false → Kd.R Kd.string 9 w' w.heap.size (fun _ => True) a2 D.l2) ∧ (b 10 = true → b 13 = false → Kd.R Kd.bool 4 w' w.heap.size (fun _ => True) b3 ([] : List Bool)) ∧ (b 13 = true → b 19 = false → Kd.R Kd.bool 4 w' w.heap.size (fun _ => True) a3 D.l3) ∧ (b 14 = true → b 17 = false → Kd.R k54 54 w' w.heap.size (fun _ => True) b4 ([] : List S54)) ∧ (b 17 = true → b 19 = false → Kd.R k54 54 w' w.heap.size (fun _ => True) a4 D.l4) ∧ (b 2 = true → b 6 = true → b 5 = false → b 9 = false → (b1 : Value).ownBlock = none ∨ (b1 : Value).ownBlock ≠ (b2 : Value).ownBlock) ∧ (b 5 = true → b 6 = true → b 9 = false → (a1 : Value).ownBlock = none ∨ (a1 : Value).ownBlock ≠ (b2 : Value).ownBlock) ∧ (b 5 = true → b 9 = true → (a1 : Value).ownBlock = none ∨ (a1 : Value).ownBlock ≠ (a2 : Value).ownBlock) ∧ (b 19 = true → (Hd w.heap.size w w' [.box g2 #[.int .i64 D.st, a1, a2, a3, a4] 28, .box g1 (cD M D) 28] ∧ Kd.R Kd.string 9 w' w.heap.size (fun _ => True) a1 D.l1 ∧ Kd.R Kd.string 9 w' w.heap.size (fun _ => True) a2 D.l2 ∧ Kd.R Kd.bool 4 w' w.heap.size (fun _ => True) a3 D.l3 ∧ Kd.R k54 54 w' w.heap.size (fun _ => True) a4 D.l4)) ∧ (b 18 = true → (m18_ : Value) = .agg #[.int .i64 D.st, a1, a2, a3, a4])) HT_.out HW_.out (by kernel_rfl) (by kernel_rfl) ?_ ?_ ?_
  · exact ⟨.bool false, .bool false, .bool false, .bool false, .bool false, .bool false, .bool false, .bool false, .bool false, by simp only [putSel, Bool.false_eq_true, if_false], fun _ => HD.out, fun h_ => absurd h_ (by decide), fun h_ => absurd h_ (by decide), fun h_ => absurd h_ (by decide), fun h_ => absurd h_ (by decide), fun h_ => absurd h_ (by decide), fun h_ => absurd h_ (by decide), fun h_ => absurd h_ (by decide), fun h_ => absurd h_ (by decide), fun h_ => absurd h_ (by decide), fun h_ => absurd h_ (by decide), fun h_ => absurd h_ (by decide), fun h_ => absurd h_ (by decide), fun h_ => absurd h_ (by decide)⟩
  · skip
    clear HD
    refine steps_cons ?_ ?_
    · rintro b a w' ⟨b1, b2, b3, b4, a1, a2, a3, a4, m18_, ha, Q_HD, Q_FB1, Q_FA1, Q_FB2, Q_FA2, Q_FB3, Q_FA3, Q_FB4, Q_FA4, Q_NBB, Q_NAB, Q_NAA, Q_HE, Q_X18_⟩ hb_ hon hoff
      refine ⟨_, rfl, fun K hK => ?_⟩
      have e3 : a.tmps[3]? = some (.pointer (some ⟨g1, 0, none⟩)) := by rw [ha]; exact (putSel_off rfl).trans rfl
      replace ha := Az.mk ha
      have HD := Az.mk (Q_HD (hoff 19 (by kernel_rfl)))
      refine value_ (w1 := w') (v := .int .i64 D.st) (by rfl) rfl (HD.out.run_cell 1 rfl 0 rfl rfl (eval_of e3) Try.underlying3 rfl) ?_
      refine hK.out _ _ ⟨b1, b2, b3, b4, a1, a2, a3, a4, m18_, (by rw [ha.out]; exact putSel_upk 0 hb_ rfl rfl rfl), fun _ => HD.out, fun h0_ h1_ => (Q_FB1 h0_ h1_), fun h0_ h1_ => (Q_FA1 h0_ h1_), fun h0_ h1_ => (Q_FB2 h0_ h1_), fun h0_ h1_ => (Q_FA2 h0_ h1_), fun h0_ h1_ => (Q_FB3 h0_ h1_), fun h0_ h1_ => (Q_FA3 h0_ h1_), fun h0_ h1_ => (Q_FB4 h0_ h1_), fun h0_ h1_ => (Q_FA4 h0_ h1_), fun h0_ h1_ h2_ h3_ => (Q_NBB h0_ h1_ h2_ h3_), fun h0_ h1_ h2_ => (Q_NAB h0_ h1_ h2_), fun h0_ h1_ => (Q_NAA h0_ h1_), fun h0_ => absurd ((hoff 19 (by kernel_rfl)).symm.trans h0_) (by decide), fun h0_ => absurd ((hoff 18 (by kernel_rfl)).symm.trans h0_) (by decide)⟩
    refine steps_cons ?_ ?_
    · rintro b a w' ⟨b1, b2, b3, b4, a1, a2, a3, a4, m18_, ha, Q_HD, Q_FB1, Q_FA1, Q_FB2, Q_FA2, Q_FB3, Q_FA3, Q_FB4, Q_FA4, Q_NBB, Q_NAB, Q_NAA, Q_HE, Q_X18_⟩ hb_ hon hoff
      refine ⟨_, rfl, fun K hK => ?_⟩
      replace ha := Az.mk ha
      have HD := Az.mk (Q_HD (hoff 19 (by kernel_rfl)))
      refine Kd.R_lit_step Kd.string w.heap.size 9 (by rfl) (N := 5) rfl (xs := ([] : List ByteArray)) (inner := []) (ok := fun _ => True) (okp := fun _ => True) (w0 := w) ?hr (Reps.none _ _) (fun _ hk => hk) trivial HD.out.bel HD.out.base_le (by simp) ?_
      (case hr => first | (go_simp; done) | (go_simp; rfl))
      intro v1 w1 hr1 _ hg1 hn1
      have hb1 := below_of_none hg1
      refine hK.out _ _ ⟨v1, b2, b3, b4, a1, a2, a3, a4, m18_, (by rw [ha.out]; exact putSel_upk 1 hb_ rfl rfl rfl), fun _ => HD.out.step hb1, fun _ _ => hr1, fun h0_ _ => absurd ((hoff 5 (by kernel_rfl)).symm.trans h0_) (by decide), fun h0_ h1_ => Kd.R_below (Q_FB2 h0_ h1_) hb1, fun h0_ _ => absurd ((hoff 9 (by kernel_rfl)).symm.trans h0_) (by decide), fun h0_ h1_ => Kd.R_below (Q_FB3 h0_ h1_) hb1, fun h0_ _ => absurd ((hoff 13 (by kernel_rfl)).symm.trans h0_) (by decide), fun h0_ h1_ => Kd.R_below (Q_FB4 h0_ h1_) hb1, fun h0_ _ => absurd ((hoff 17 (by kernel_rfl)).symm.trans h0_) (by decide), fun h0_ h1_ h2_ h3_ => own_apart' (own_new hn1) (own_lt' (Q_FB2 h1_ h3_)), fun h0_ _ _ => absurd ((hoff 5 (by kernel_rfl)).symm.trans h0_) (by decide), fun h0_ _ => absurd ((hoff 5 (by kernel_rfl)).symm.trans h0_) (by decide), fun h0_ => absurd ((hoff 19 (by kernel_rfl)).symm.trans h0_) (by decide), fun h0_ => absurd ((hoff 18 (by kernel_rfl)).symm.trans h0_) (by decide)⟩
    refine steps_cons ?_ ?_
    · rintro b a w' ⟨b1, b2, b3, b4, a1, a2, a3, a4, m18_, ha, Q_HD, Q_FB1, Q_FA1, Q_FB2, Q_FA2, Q_FB3, Q_FA3, Q_FB4, Q_FA4, Q_NBB, Q_NAB, Q_NAA, Q_HE, Q_X18_⟩ hb_ hon hoff
      refine ⟨_, rfl, fun K hK => ?_⟩
      have e6 : a.tmps[6]? = some (.pointer (some ⟨g1, 1, none⟩)) := by rw [ha]; exact (putSel_off rfl).trans rfl
      replace ha := Az.mk ha
      have HD := Az.mk (Q_HD (hoff 19 (by kernel_rfl)))
      refine value_ (w1 := w') (v := .slice M.A1 D.l1.length M.c1) (by rfl) rfl (HD.out.run_cell 1 rfl 1 rfl rfl (eval_of e6) Try.underlying24 rfl) ?_
      refine hK.out _ _ ⟨b1, b2, b3, b4, a1, a2, a3, a4, m18_, (by rw [ha.out]; exact putSel_upk 2 hb_ rfl rfl rfl), fun _ => HD.out, fun h0_ h1_ => (Q_FB1 h0_ h1_), fun h0_ _ => absurd ((hoff 5 (by kernel_rfl)).symm.trans h0_) (by decide), fun h0_ h1_ => (Q_FB2 h0_ h1_), fun h0_ _ => absurd ((hoff 9 (by kernel_rfl)).symm.trans h0_) (by decide), fun h0_ h1_ => (Q_FB3 h0_ h1_), fun h0_ _ => absurd ((hoff 13 (by kernel_rfl)).symm.trans h0_) (by decide), fun h0_ h1_ => (Q_FB4 h0_ h1_), fun h0_ _ => absurd ((hoff 17 (by kernel_rfl)).symm.trans h0_) (by decide), fun h0_ h1_ h2_ h3_ => (Q_NBB h0_ h1_ h2_ h3_), fun h0_ _ _ => absurd ((hoff 5 (by kernel_rfl)).symm.trans h0_) (by decide), fun h0_ _ => absurd ((hoff 5 (by kernel_rfl)).symm.trans h0_) (by decide), fun h0_ => absurd ((hoff 19 (by kernel_rfl)).symm.trans h0_) (by decide), fun h0_ => absurd ((hoff 18 (by kernel_rfl)).symm.trans h0_) (by decide)⟩
    refine steps_cons ?_ ?_
    · rintro b a w' ⟨b1, b2, b3, b4, a1, a2, a3, a4, m18_, ha, Q_HD, Q_FB1, Q_FA1, Q_FB2, Q_FA2, Q_FB3, Q_FA3, Q_FB4, Q_FA4, Q_NBB, Q_NAB, Q_NAA, Q_HE, Q_X18_⟩ hb_ hon hoff
      refine ⟨_, rfl, fun K hK => ?_⟩
      have e5 : a.tmps[5]? = some (b1) := by rw [ha]; exact putSel_on (e := (2, 5, b1)) 1 rfl rfl (hon 2 (by kernel_rfl)) rfl
      have e7 : a.tmps[7]? = some (.slice M.A1 D.l1.length M.c1) := by rw [ha]; exact putSel_on (e := (4, 7, .slice M.A1 D.l1.length M.c1)) 2 rfl rfl (hon 4 (by kernel_rfl)) rfl
      replace ha := Az.mk ha
      have HD := Az.mk (Q_HD (hoff 19 (by kernel_rfl)))
      have FB1 := Az.mk (Q_FB1 (hon 2 (by kernel_rfl)) hb_)
      refine Kd.R_append_rows_step Kd.string (w0 := w) w.heap.size (by rfl) (.tmp 5) (.tmp 7) 24 9 (.string ⟨#[]⟩) 16 rfl Try.underlying24 infoL9 rfl (by decide) (by omega) b1 [] D.l1 M.A1 D.l1.length M.c1 (fun _ => True) (fun _ => False) (eval_of e5) (eval_of e7) FB1.out (HD.out.C HR.out.r1) (fun _ _ h => h) (fun _ h => h.elim) (fun _ _ => trivial) HD.out.bel HD.out.base_le ?hl ?_
      (case hl => have := HF.out.h1; simp only [List.length_nil]; omega)
      intro v1 w1 hr1 _ hg1 hn1
      rw [List.nil_append] at hr1
      refine hK.out _ _ ⟨b1, b2, b3, b4, v1, a2, a3, a4, m18_, (by rw [ha.out]; exact putSel_upk 3 hb_ rfl rfl rfl), fun _ => HD.out.grown2 hg1 (own_ge2 FB1.out (HD.out.box 0 rfl) (HD.out.box 1 rfl) (by decide)), fun _ h1_ => absurd ((up_self b 5).symm.trans h1_) (by decide), fun _ _ => hr1, fun h0_ h1_ => R_far_ne (Q_FB2 h0_ h1_) hg1 (Q_NBB (hon 2 (by kernel_rfl)) h0_ hb_ h1_) ownerless_string, fun h0_ _ => absurd ((hoff 9 (by kernel_rfl)).symm.trans h0_) (by decide), fun h0_ h1_ => R_far_types (Q_FB3 h0_ h1_) FB1.out (by decide) hg1 (ownerless_bool), fun h0_ _ => absurd ((hoff 13 (by kernel_rfl)).symm.trans h0_) (by decide), fun h0_ h1_ => R_far_types (Q_FB4 h0_ h1_) FB1.out (by decide) hg1 (ownerless_k54), fun h0_ _ => absurd ((hoff 17 (by kernel_rfl)).symm.trans h0_) (by decide), fun _ _ h2_ _ => absurd ((up_self b 5).symm.trans h2_) (by decide), fun h0_ h1_ h2_ => ne_left hn1 (Q_NBB (hon 2 (by kernel_rfl)) h1_ hb_ h2_) (own_lt' (Q_FB2 h1_ h2_)), fun _ h1_ => absurd ((hoff 9 (by kernel_rfl)).symm.trans h1_) (by decide), fun h0_ => absurd ((hoff 19 (by kernel_rfl)).symm.trans h0_) (by decide), fun h0_ => absurd ((hoff 18 (by kernel_rfl)).symm.trans h0_) (by decide)⟩
    refine steps_cons ?_ ?_
    · rintro b a w' ⟨b1, b2, b3, b4, a1, a2, a3, a4, m18_, ha, Q_HD, Q_FB1, Q_FA1, Q_FB2, Q_FA2, Q_FB3, Q_FA3, Q_FB4, Q_FA4, Q_NBB, Q_NAB, Q_NAA, Q_HE, Q_X18_⟩ hb_ hon hoff
      refine ⟨_, rfl, fun K hK => ?_⟩
      replace ha := Az.mk ha
      have HD := Az.mk (Q_HD (hoff 19 (by kernel_rfl)))
      refine Kd.R_lit_step Kd.string w.heap.size 9 (by rfl) (N := 9) rfl (xs := ([] : List ByteArray)) (inner := []) (ok := fun _ => True) (okp := fun _ => True) (w0 := w) ?hr (Reps.none _ _) (fun _ hk => hk) trivial HD.out.bel HD.out.base_le (by simp) ?_
      (case hr => first | (go_simp; done) | (go_simp; rfl))
      intro v1 w1 hr1 _ hg1 hn1
      have hb1 := below_of_none hg1
      refine hK.out _ _ ⟨b1, v1, b3, b4, a1, a2, a3, a4, m18_, (by rw [ha.out]; exact putSel_upk 4 hb_ rfl rfl rfl), fun _ => HD.out.step hb1, fun h0_ h1_ => Kd.R_below (Q_FB1 h0_ h1_) hb1, fun h0_ h1_ => Kd.R_below (Q_FA1 h0_ h1_) hb1, fun _ _ => hr1, fun h0_ _ => absurd ((hoff 9 (by kernel_rfl)).symm.trans h0_) (by decide), fun h0_ h1_ => Kd.R_below (Q_FB3 h0_ h1_) hb1, fun h0_ _ => absurd ((hoff 13 (by kernel_rfl)).symm.trans h0_) (by decide), fun h0_ h1_ => Kd.R_below (Q_FB4 h0_ h1_) hb1, fun h0_ _ => absurd ((hoff 17 (by kernel_rfl)).symm.trans h0_) (by decide), fun h0_ h1_ h2_ h3_ => own_apart (own_lt' (Q_FB1 h0_ h2_)) (own_new hn1), fun h0_ h1_ h2_ => own_apart (own_lt' (Q_FA1 h0_ (hoff 19 (by kernel_rfl)))) (own_new hn1), fun _ h1_ => absurd ((hoff 9 (by kernel_rfl)).symm.trans h1_) (by decide), fun h0_ => absurd ((hoff 19 (by kernel_rfl)).symm.trans h0_) (by decide), fun h0_ => absurd ((hoff 18 (by kernel_rfl)).symm.trans h0_) (by decide)⟩
    refine steps_cons ?_ ?_
    · rintro b a w' ⟨b1, b2, b3, b4, a1, a2, a3, a4, m18_, ha, Q_HD, Q_FB1, Q_FA1, Q_FB2, Q_FA2, Q_FB3, Q_FA3, Q_FB4, Q_FA4, Q_NBB, Q_NAB, Q_NAA, Q_HE, Q_X18_⟩ hb_ hon hoff
      refine ⟨_, rfl, fun K hK => ?_⟩
      have e10 : a.tmps[10]? = some (.pointer (some ⟨g1, 2, none⟩)) := by rw [ha]; exact (putSel_off rfl).trans rfl
      replace ha := Az.mk ha
      have HD := Az.mk (Q_HD (hoff 19 (by kernel_rfl)))
      refine value_ (w1 := w') (v := .slice M.A2 D.l2.length M.c2) (by rfl) rfl (HD.out.run_cell 1 rfl 2 rfl rfl (eval_of e10) Try.underlying24 rfl) ?_
      refine hK.out _ _ ⟨b1, b2, b3, b4, a1, a2, a3, a4, m18_, (by rw [ha.out]; exact putSel_upk 5 hb_ rfl rfl rfl), fun _ => HD.out, fun h0_ h1_ => (Q_FB1 h0_ h1_), fun h0_ h1_ => (Q_FA1 h0_ h1_), fun h0_ h1_ => (Q_FB2 h0_ h1_), fun h0_ _ => absurd ((hoff 9 (by kernel_rfl)).symm.trans h0_) (by decide), fun h0_ h1_ => (Q_FB3 h0_ h1_), fun h0_ _ => absurd ((hoff 13 (by kernel_rfl)).symm.trans h0_) (by decide), fun h0_ h1_ => (Q_FB4 h0_ h1_), fun h0_ _ => absurd ((hoff 17 (by kernel_rfl)).symm.trans h0_) (by decide), fun h0_ h1_ h2_ h3_ => (Q_NBB h0_ h1_ h2_ h3_), fun h0_ h1_ h2_ => (Q_NAB h0_ h1_ h2_), fun _ h1_ => absurd ((hoff 9 (by kernel_rfl)).symm.trans h1_) (by decide), fun h0_ => absurd ((hoff 19 (by kernel_rfl)).symm.trans h0_) (by decide), fun h0_ => absurd ((hoff 18 (by kernel_rfl)).symm.trans h0_) (by decide)⟩
    refine steps_cons ?_ ?_
    · rintro b a w' ⟨b1, b2, b3, b4, a1, a2, a3, a4, m18_, ha, Q_HD, Q_FB1, Q_FA1, Q_FB2, Q_FA2, Q_FB3, Q_FA3, Q_FB4, Q_FA4, Q_NBB, Q_NAB, Q_NAA, Q_HE, Q_X18_⟩ hb_ hon hoff
      refine ⟨_, rfl, fun K hK => ?_⟩
      have e9 : a.tmps[9]? = some (b2) := by rw [ha]; exact putSel_on (e := (6, 9, b2)) 4 rfl rfl (hon 6 (by kernel_rfl)) rfl
      have e11 : a.tmps[11]? = some (.slice M.A2 D.l2.length M.c2) := by rw [ha]; exact putSel_on (e := (8, 11, .slice M.A2 D.l2.length M.c2)) 5 rfl rfl (hon 8 (by kernel_rfl)) rfl
      replace ha := Az.mk ha
      have HD := Az.mk (Q_HD (hoff 19 (by kernel_rfl)))
      have FA1 := Az.mk (Q_FA1 (hon 5 (by kernel_rfl)) (hoff 19 (by kernel_rfl)))
      have FB2 := Az.mk (Q_FB2 (hon 6 (by kernel_rfl)) hb_)
      have NAB := Az.mk (Q_NAB (hon 5 (by kernel_rfl)) (hon 6 (by kernel_rfl)) hb_)
      refine Kd.R_append_rows_step Kd.string (w0 := w) w.heap.size (by rfl) (.tmp 9) (.tmp 11) 24 9 (.string ⟨#[]⟩) 16 rfl Try.underlying24 infoL9 rfl (by decide) (by omega) b2 [] D.l2 M.A2 D.l2.length M.c2 (fun _ => True) (fun _ => False) (eval_of e9) (eval_of e11) FB2.out (HD.out.C HR.out.r2) (fun _ _ h => h) (fun _ h => h.elim) (fun _ _ => trivial) HD.out.bel HD.out.base_le ?hl ?_
      (case hl => have := HF.out.h2; simp only [List.length_nil]; omega)
      intro v1 w1 hr1 _ hg1 hn1
      rw [List.nil_append] at hr1
      refine hK.out _ _ ⟨b1, b2, b3, b4, a1, v1, a3, a4, m18_, (by rw [ha.out]; exact putSel_upk 6 hb_ rfl rfl rfl), fun _ => HD.out.grown2 hg1 (own_ge2 FB2.out (HD.out.box 0 rfl) (HD.out.box 1 rfl) (by decide)), fun _ h1_ => absurd ((hon 5 (by kernel_rfl)).symm.trans h1_) (by decide), fun _ _ => R_far_ne' FA1.out hg1 (NAB.out) (ownerless_string), fun _ h1_ => absurd ((up_self b 9).symm.trans h1_) (by decide), fun _ _ => hr1, fun h0_ h1_ => R_far_types (Q_FB3 h0_ h1_) FB2.out (by decide) hg1 (ownerless_bool), fun h0_ _ => absurd ((hoff 13 (by kernel_rfl)).symm.trans h0_) (by decide), fun h0_ h1_ => R_far_types (Q_FB4 h0_ h1_) FB2.out (by decide) hg1 (ownerless_k54), fun h0_ _ => absurd ((hoff 17 (by kernel_rfl)).symm.trans h0_) (by decide), fun _ _ _ h3_ => absurd ((up_self b 9).symm.trans h3_) (by decide), fun _ _ h2_ => absurd ((up_self b 9).symm.trans h2_) (by decide), fun _ _ => ne_right hn1 NAB.out (own_lt' FA1.out), fun h0_ => absurd ((hoff 19 (by kernel_rfl)).symm.trans h0_) (by decide), fun h0_ => absurd ((hoff 18 (by kernel_rfl)).symm.trans h0_) (by decide)⟩
    refine steps_cons ?_ ?_
    · rintro b a w' ⟨b1, b2, b3, b4, a1, a2, a3, a4, m18_, ha, Q_HD, Q_FB1, Q_FA1, Q_FB2, Q_FA2, Q_FB3, Q_FA3, Q_FB4, Q_FA4, Q_NBB, Q_NAB, Q_NAA, Q_HE, Q_X18_⟩ hb_ hon hoff
      refine ⟨_, rfl, fun K hK => ?_⟩
      replace ha := Az.mk ha
      have HD := Az.mk (Q_HD (hoff 19 (by kernel_rfl)))
      refine Kd.R_lit_step Kd.bool w.heap.size 4 (by rfl) (N := 13) rfl (xs := ([] : List Bool)) (inner := []) (ok := fun _ => True) (okp := fun _ => True) (w0 := w) ?hr (Reps.none _ _) (fun _ hk => hk) trivial HD.out.bel HD.out.base_le (by simp) ?_
      (case hr => first | (go_simp; done) | (go_simp; rfl))
      intro v1 w1 hr1 _ hg1 hn1
      have hb1 := below_of_none hg1
      refine hK.out _ _ ⟨b1, b2, v1, b4, a1, a2, a3, a4, m18_, (by rw [ha.out]; exact putSel_upk 7 hb_ rfl rfl rfl), fun _ => HD.out.step hb1, fun h0_ h1_ => Kd.R_below (Q_FB1 h0_ h1_) hb1, fun h0_ h1_ => Kd.R_below (Q_FA1 h0_ h1_) hb1, fun h0_ h1_ => Kd.R_below (Q_FB2 h0_ h1_) hb1, fun h0_ h1_ => Kd.R_below (Q_FA2 h0_ h1_) hb1, fun _ _ => hr1, fun h0_ _ => absurd ((hoff 13 (by kernel_rfl)).symm.trans h0_) (by decide), fun h0_ h1_ => Kd.R_below (Q_FB4 h0_ h1_) hb1, fun h0_ _ => absurd ((hoff 17 (by kernel_rfl)).symm.trans h0_) (by decide), fun h0_ h1_ h2_ h3_ => (Q_NBB h0_ h1_ h2_ h3_), fun h0_ h1_ h2_ => (Q_NAB h0_ h1_ h2_), fun h0_ h1_ => (Q_NAA h0_ h1_), fun h0_ => absurd ((hoff 19 (by kernel_rfl)).symm.trans h0_) (by decide), fun h0_ => absurd ((hoff 18 (by kernel_rfl)).symm.trans h0_) (by decide)⟩
    refine steps_cons ?_ ?_
    · rintro b a w' ⟨b1, b2, b3, b4, a1, a2, a3, a4, m18_, ha, Q_HD, Q_FB1, Q_FA1, Q_FB2, Q_FA2, Q_FB3, Q_FA3, Q_FB4, Q_FA4, Q_NBB, Q_NAB, Q_NAA, Q_HE, Q_X18_⟩ hb_ hon hoff
      refine ⟨_, rfl, fun K hK => ?_⟩
      have e14 : a.tmps[14]? = some (.pointer (some ⟨g1, 3, none⟩)) := by rw [ha]; exact (putSel_off rfl).trans rfl
      replace ha := Az.mk ha
      have HD := Az.mk (Q_HD (hoff 19 (by kernel_rfl)))
      refine value_ (w1 := w') (v := .slice M.A3 D.l3.length M.c3) (by rfl) rfl (HD.out.run_cell 1 rfl 3 rfl rfl (eval_of e14) Try.underlying25 rfl) ?_
      refine hK.out _ _ ⟨b1, b2, b3, b4, a1, a2, a3, a4, m18_, (by rw [ha.out]; exact putSel_upk 8 hb_ rfl rfl rfl), fun _ => HD.out, fun h0_ h1_ => (Q_FB1 h0_ h1_), fun h0_ h1_ => (Q_FA1 h0_ h1_), fun h0_ h1_ => (Q_FB2 h0_ h1_), fun h0_ h1_ => (Q_FA2 h0_ h1_), fun h0_ h1_ => (Q_FB3 h0_ h1_), fun h0_ _ => absurd ((hoff 13 (by kernel_rfl)).symm.trans h0_) (by decide), fun h0_ h1_ => (Q_FB4 h0_ h1_), fun h0_ _ => absurd ((hoff 17 (by kernel_rfl)).symm.trans h0_) (by decide), fun h0_ h1_ h2_ h3_ => (Q_NBB h0_ h1_ h2_ h3_), fun h0_ h1_ h2_ => (Q_NAB h0_ h1_ h2_), fun h0_ h1_ => (Q_NAA h0_ h1_), fun h0_ => absurd ((hoff 19 (by kernel_rfl)).symm.trans h0_) (by decide), fun h0_ => absurd ((hoff 18 (by kernel_rfl)).symm.trans h0_) (by decide)⟩
    refine steps_cons ?_ ?_
    · rintro b a w' ⟨b1, b2, b3, b4, a1, a2, a3, a4, m18_, ha, Q_HD, Q_FB1, Q_FA1, Q_FB2, Q_FA2, Q_FB3, Q_FA3, Q_FB4, Q_FA4, Q_NBB, Q_NAB, Q_NAA, Q_HE, Q_X18_⟩ hb_ hon hoff
      refine ⟨_, rfl, fun K hK => ?_⟩
      have e13 : a.tmps[13]? = some (b3) := by rw [ha]; exact putSel_on (e := (10, 13, b3)) 7 rfl rfl (hon 10 (by kernel_rfl)) rfl
      have e15 : a.tmps[15]? = some (.slice M.A3 D.l3.length M.c3) := by rw [ha]; exact putSel_on (e := (12, 15, .slice M.A3 D.l3.length M.c3)) 8 rfl rfl (hon 12 (by kernel_rfl)) rfl
      replace ha := Az.mk ha
      have HD := Az.mk (Q_HD (hoff 19 (by kernel_rfl)))
      have FA1 := Az.mk (Q_FA1 (hon 5 (by kernel_rfl)) (hoff 19 (by kernel_rfl)))
      have FA2 := Az.mk (Q_FA2 (hon 9 (by kernel_rfl)) (hoff 19 (by kernel_rfl)))
      have FB3 := Az.mk (Q_FB3 (hon 10 (by kernel_rfl)) hb_)
      have NAA := Az.mk (Q_NAA (hon 5 (by kernel_rfl)) (hon 9 (by kernel_rfl)))
      refine Kd.R_append_rows_step Kd.bool (w0 := w) w.heap.size (by rfl) (.tmp 13) (.tmp 15) 25 4 (.bool false) 1 rfl Try.underlying25 infoL4 rfl (by decide) (by omega) b3 [] D.l3 M.A3 D.l3.length M.c3 (fun _ => True) (fun _ => False) (eval_of e13) (eval_of e15) FB3.out (HD.out.C HR.out.r3) (fun _ _ h => h) (fun _ h => h.elim) (fun _ _ => trivial) HD.out.bel HD.out.base_le ?hl ?_
      (case hl => have := HF.out.h3; simp only [List.length_nil]; omega)
      intro v1 w1 hr1 _ hg1 hn1
      rw [List.nil_append] at hr1
      refine hK.out _ _ ⟨b1, b2, b3, b4, a1, a2, v1, a4, m18_, (by rw [ha.out]; exact putSel_upk 9 hb_ rfl rfl rfl), fun _ => HD.out.grown2 hg1 (own_ge2 FB3.out (HD.out.box 0 rfl) (HD.out.box 1 rfl) (by decide)), fun _ h1_ => absurd ((hon 5 (by kernel_rfl)).symm.trans h1_) (by decide), fun _ _ => R_far_types FA1.out FB3.out (by decide) hg1 (ownerless_string), fun _ h1_ => absurd ((hon 9 (by kernel_rfl)).symm.trans h1_) (by decide), fun _ _ => R_far_types FA2.out FB3.out (by decide) hg1 (ownerless_string), fun _ h1_ => absurd ((up_self b 13).symm.trans h1_) (by decide), fun _ _ => hr1, fun h0_ h1_ => R_far_types (Q_FB4 h0_ h1_) FB3.out (by decide) hg1 (ownerless_k54), fun h0_ _ => absurd ((hoff 17 (by kernel_rfl)).symm.trans h0_) (by decide), fun _ _ h2_ _ => absurd ((hon 5 (by kernel_rfl)).symm.trans h2_) (by decide), fun _ _ h2_ => absurd ((hon 9 (by kernel_rfl)).symm.trans h2_) (by decide), fun _ _ => NAA.out, fun h0_ => absurd ((hoff 19 (by kernel_rfl)).symm.trans h0_) (by decide), fun h0_ => absurd ((hoff 18 (by kernel_rfl)).symm.trans h0_) (by decide)⟩
    refine steps_cons ?_ ?_
    · rintro b a w' ⟨b1, b2, b3, b4, a1, a2, a3, a4, m18_, ha, Q_HD, Q_FB1, Q_FA1, Q_FB2, Q_FA2, Q_FB3, Q_FA3, Q_FB4, Q_FA4, Q_NBB, Q_NAB, Q_NAA, Q_HE, Q_X18_⟩ hb_ hon hoff
      refine ⟨_, rfl, fun K hK => ?_⟩
      replace ha := Az.mk ha
      have HD := Az.mk (Q_HD (hoff 19 (by kernel_rfl)))
      refine Kd.R_lit_step k54 w.heap.size 54 (by rfl) (N := 17) rfl (xs := ([] : List S54)) (inner := []) (ok := fun _ => True) (okp := fun _ => True) (w0 := w) ?hr (Reps.none _ _) (fun _ hk => hk) trivial HD.out.bel HD.out.base_le (by simp) ?_
      (case hr => first | (go_simp; done) | (go_simp; rfl))
      intro v1 w1 hr1 _ hg1 hn1
      have hb1 := below_of_none hg1
      refine hK.out _ _ ⟨b1, b2, b3, v1, a1, a2, a3, a4, m18_, (by rw [ha.out]; exact putSel_upk 10 hb_ rfl rfl rfl), fun _ => HD.out.step hb1, fun h0_ h1_ => Kd.R_below (Q_FB1 h0_ h1_) hb1, fun h0_ h1_ => Kd.R_below (Q_FA1 h0_ h1_) hb1, fun h0_ h1_ => Kd.R_below (Q_FB2 h0_ h1_) hb1, fun h0_ h1_ => Kd.R_below (Q_FA2 h0_ h1_) hb1, fun h0_ h1_ => Kd.R_below (Q_FB3 h0_ h1_) hb1, fun h0_ h1_ => Kd.R_below (Q_FA3 h0_ h1_) hb1, fun _ _ => hr1, fun h0_ _ => absurd ((hoff 17 (by kernel_rfl)).symm.trans h0_) (by decide), fun h0_ h1_ h2_ h3_ => (Q_NBB h0_ h1_ h2_ h3_), fun h0_ h1_ h2_ => (Q_NAB h0_ h1_ h2_), fun h0_ h1_ => (Q_NAA h0_ h1_), fun h0_ => absurd ((hoff 19 (by kernel_rfl)).symm.trans h0_) (by decide), fun h0_ => absurd ((hoff 18 (by kernel_rfl)).symm.trans h0_) (by decide)⟩
    refine steps_cons ?_ ?_
    · rintro b a w' ⟨b1, b2, b3, b4, a1, a2, a3, a4, m18_, ha, Q_HD, Q_FB1, Q_FA1, Q_FB2, Q_FA2, Q_FB3, Q_FA3, Q_FB4, Q_FA4, Q_NBB, Q_NAB, Q_NAA, Q_HE, Q_X18_⟩ hb_ hon hoff
      refine ⟨_, rfl, fun K hK => ?_⟩
      have e18 : a.tmps[18]? = some (.pointer (some ⟨g1, 4, none⟩)) := by rw [ha]; exact (putSel_off rfl).trans rfl
      replace ha := Az.mk ha
      have HD := Az.mk (Q_HD (hoff 19 (by kernel_rfl)))
      refine value_ (w1 := w') (v := .slice M.A4 D.l4.length M.c4) (by rfl) rfl (HD.out.run_cell 1 rfl 4 rfl rfl (eval_of e18) Try.underlying26 rfl) ?_
      refine hK.out _ _ ⟨b1, b2, b3, b4, a1, a2, a3, a4, m18_, (by rw [ha.out]; exact putSel_upk 11 hb_ rfl rfl rfl), fun _ => HD.out, fun h0_ h1_ => (Q_FB1 h0_ h1_), fun h0_ h1_ => (Q_FA1 h0_ h1_), fun h0_ h1_ => (Q_FB2 h0_ h1_), fun h0_ h1_ => (Q_FA2 h0_ h1_), fun h0_ h1_ => (Q_FB3 h0_ h1_), fun h0_ h1_ => (Q_FA3 h0_ h1_), fun h0_ h1_ => (Q_FB4 h0_ h1_), fun h0_ _ => absurd ((hoff 17 (by kernel_rfl)).symm.trans h0_) (by decide), fun h0_ h1_ h2_ h3_ => (Q_NBB h0_ h1_ h2_ h3_), fun h0_ h1_ h2_ => (Q_NAB h0_ h1_ h2_), fun h0_ h1_ => (Q_NAA h0_ h1_), fun h0_ => absurd ((hoff 19 (by kernel_rfl)).symm.trans h0_) (by decide), fun h0_ => absurd ((hoff 18 (by kernel_rfl)).symm.trans h0_) (by decide)⟩
    refine steps_cons ?_ ?_
    · rintro b a w' ⟨b1, b2, b3, b4, a1, a2, a3, a4, m18_, ha, Q_HD, Q_FB1, Q_FA1, Q_FB2, Q_FA2, Q_FB3, Q_FA3, Q_FB4, Q_FA4, Q_NBB, Q_NAB, Q_NAA, Q_HE, Q_X18_⟩ hb_ hon hoff
      refine ⟨_, rfl, fun K hK => ?_⟩
      have e17 : a.tmps[17]? = some (b4) := by rw [ha]; exact putSel_on (e := (14, 17, b4)) 10 rfl rfl (hon 14 (by kernel_rfl)) rfl
      have e19 : a.tmps[19]? = some (.slice M.A4 D.l4.length M.c4) := by rw [ha]; exact putSel_on (e := (16, 19, .slice M.A4 D.l4.length M.c4)) 11 rfl rfl (hon 16 (by kernel_rfl)) rfl
      replace ha := Az.mk ha
      have HD := Az.mk (Q_HD (hoff 19 (by kernel_rfl)))
      have FA1 := Az.mk (Q_FA1 (hon 5 (by kernel_rfl)) (hoff 19 (by kernel_rfl)))
      have FA2 := Az.mk (Q_FA2 (hon 9 (by kernel_rfl)) (hoff 19 (by kernel_rfl)))
      have FA3 := Az.mk (Q_FA3 (hon 13 (by kernel_rfl)) (hoff 19 (by kernel_rfl)))
      have FB4 := Az.mk (Q_FB4 (hon 14 (by kernel_rfl)) hb_)
      have NAA := Az.mk (Q_NAA (hon 5 (by kernel_rfl)) (hon 9 (by kernel_rfl)))
      refine Kd.R_append_rows_step k54 (w0 := w) w.heap.size (by rfl) (.tmp 17) (.tmp 19) 26 54 (.agg #[.bool false, .int .i64 0, .string ⟨#[]⟩]) 32 rfl Try.underlying26 infoL54 rfl (by decide) (by omega) b4 [] D.l4 M.A4 D.l4.length M.c4 (fun _ => True) (fun _ => False) (eval_of e17) (eval_of e19) FB4.out (HD.out.C HR.out.r4) (fun _ _ h => h) (fun _ h => h.elim) (fun _ _ => trivial) HD.out.bel HD.out.base_le ?hl ?_
      (case hl => have := HF.out.h4; simp only [List.length_nil]; omega)
      intro v1 w1 hr1 _ hg1 hn1
      rw [List.nil_append] at hr1
      refine hK.out _ _ ⟨b1, b2, b3, b4, a1, a2, a3, v1, m18_, (by rw [ha.out]; exact putSel_upk 12 hb_ rfl rfl rfl), fun _ => HD.out.grown2 hg1 (own_ge2 FB4.out (HD.out.box 0 rfl) (HD.out.box 1 rfl) (by decide)), fun _ h1_ => absurd ((hon 5 (by kernel_rfl)).symm.trans h1_) (by decide), fun _ _ => R_far_types FA1.out FB4.out (by decide) hg1 (ownerless_string), fun _ h1_ => absurd ((hon 9 (by kernel_rfl)).symm.trans h1_) (by decide), fun _ _ => R_far_types FA2.out FB4.out (by decide) hg1 (ownerless_string), fun _ h1_ => absurd ((hon 13 (by kernel_rfl)).symm.trans h1_) (by decide), fun _ _ => R_far_types FA3.out FB4.out (by decide) hg1 (ownerless_bool), fun _ h1_ => absurd ((up_self b 17).symm.trans h1_) (by decide), fun _ _ => hr1, fun _ _ h2_ _ => absurd ((hon 5 (by kernel_rfl)).symm.trans h2_) (by decide), fun _ _ h2_ => absurd ((hon 9 (by kernel_rfl)).symm.trans h2_) (by decide), fun _ _ => NAA.out, fun h0_ => absurd ((hoff 19 (by kernel_rfl)).symm.trans h0_) (by decide), fun h0_ => absurd ((hoff 18 (by kernel_rfl)).symm.trans h0_) (by decide)⟩
    refine steps_cons ?_ ?_
    · rintro b a w' ⟨b1, b2, b3, b4, a1, a2, a3, a4, m18_, ha, Q_HD, Q_FB1, Q_FA1, Q_FB2, Q_FA2, Q_FB3, Q_FA3, Q_FB4, Q_FA4, Q_NBB, Q_NAB, Q_NAA, Q_HE, Q_X18_⟩ hb_ hon hoff
      refine ⟨_, rfl, fun K hK => ?_⟩
      have e4 : a.tmps[4]? = some (.int .i64 D.st) := by rw [ha]; exact putSel_on (e := (1, 4, .int .i64 D.st)) 0 rfl rfl (hon 1 (by kernel_rfl)) rfl
      have e8 : a.tmps[8]? = some (a1) := by rw [ha]; exact putSel_on (e := (5, 8, a1)) 3 rfl rfl (hon 5 (by kernel_rfl)) rfl
      have e12 : a.tmps[12]? = some (a2) := by rw [ha]; exact putSel_on (e := (9, 12, a2)) 6 rfl rfl (hon 9 (by kernel_rfl)) rfl
      have e16 : a.tmps[16]? = some (a3) := by rw [ha]; exact putSel_on (e := (13, 16, a3)) 9 rfl rfl (hon 13 (by kernel_rfl)) rfl
      have e20 : a.tmps[20]? = some (a4) := by rw [ha]; exact putSel_on (e := (17, 20, a4)) 12 rfl rfl (hon 17 (by kernel_rfl)) rfl
      replace ha := Az.mk ha
      have HD := Az.mk (Q_HD (hoff 19 (by kernel_rfl)))
      have FA1 := Az.mk (Q_FA1 (hon 5 (by kernel_rfl)) (hoff 19 (by kernel_rfl)))
      have FA2 := Az.mk (Q_FA2 (hon 9 (by kernel_rfl)) (hoff 19 (by kernel_rfl)))
      have FA3 := Az.mk (Q_FA3 (hon 13 (by kernel_rfl)) (hoff 19 (by kernel_rfl)))
      have FA4 := Az.mk (Q_FA4 (hon 17 (by kernel_rfl)) (hoff 19 (by kernel_rfl)))
      have NAA := Az.mk (Q_NAA (hon 5 (by kernel_rfl)) (hon 9 (by kernel_rfl)))
      obtain ⟨p1, q1, rfl⟩ := Kd.R_slice FA1.out
      obtain ⟨p2, q2, rfl⟩ := Kd.R_slice FA2.out
      obtain ⟨p3, q3, rfl⟩ := Kd.R_slice FA3.out
      obtain ⟨p4, q4, rfl⟩ := Kd.R_slice FA4.out
      refine value_ (w1 := w') (v := .agg #[.int .i64 D.st, (.slice p1 D.l1.length q1), (.slice p2 D.l2.length q2), (.slice p3 D.l3.length q3), (.slice p4 D.l4.length q4)]) (by rfl) rfl ?_ ?_
      · go_simp
        (try simp only [i64_w])
        try rfl
      refine hK.out _ _ ⟨b1, b2, b3, b4, (.slice p1 D.l1.length q1), (.slice p2 D.l2.length q2), (.slice p3 D.l3.length q3), (.slice p4 D.l4.length q4), (.agg #[.int .i64 D.st, (.slice p1 D.l1.length q1), (.slice p2 D.l2.length q2), (.slice p3 D.l3.length q3), (.slice p4 D.l4.length q4)]), (by rw [ha.out]; exact putSel_upk 13 hb_ rfl rfl rfl), fun _ => HD.out, fun _ h1_ => absurd ((hon 5 (by kernel_rfl)).symm.trans h1_) (by decide), fun _ _ => FA1.out, fun _ h1_ => absurd ((hon 9 (by kernel_rfl)).symm.trans h1_) (by decide), fun _ _ => FA2.out, fun _ h1_ => absurd ((hon 13 (by kernel_rfl)).symm.trans h1_) (by decide), fun _ _ => FA3.out, fun _ h1_ => absurd ((hon 17 (by kernel_rfl)).symm.trans h1_) (by decide), fun _ _ => FA4.out, fun _ _ h2_ _ => absurd ((hon 5 (by kernel_rfl)).symm.trans h2_) (by decide), fun _ _ h2_ => absurd ((hon 9 (by kernel_rfl)).symm.trans h2_) (by decide), fun _ _ => NAA.out, fun h0_ => absurd ((hoff 19 (by kernel_rfl)).symm.trans h0_) (by decide), fun _ => rfl⟩
    refine steps_cons ?_ ?_
    · rintro b a w' ⟨b1, b2, b3, b4, a1, a2, a3, a4, m18_, ha, Q_HD, Q_FB1, Q_FA1, Q_FB2, Q_FA2, Q_FB3, Q_FA3, Q_FB4, Q_FA4, Q_NBB, Q_NAB, Q_NAA, Q_HE, Q_X18_⟩ hb_ hon hoff
      refine ⟨_, rfl, fun K hK => ?_⟩
      have e2 : a.tmps[2]? = some (.pointer (some ⟨g2, 0, none⟩)) := by rw [ha]; exact (putSel_off rfl).trans rfl
      have e21 : a.tmps[21]? = some (m18_) := by rw [ha]; exact putSel_on (e := (18, 21, m18_)) 13 rfl rfl (hon 18 (by kernel_rfl)) rfl
      rw [Q_X18_ (hon 18 (by kernel_rfl))] at e21
      replace ha := Az.mk ha
      have HD := Az.mk (Q_HD hb_)
      have FA1 := Az.mk (Q_FA1 (hon 5 (by kernel_rfl)) hb_)
      have FA2 := Az.mk (Q_FA2 (hon 9 (by kernel_rfl)) hb_)
      have FA3 := Az.mk (Q_FA3 (hon 13 (by kernel_rfl)) hb_)
      have FA4 := Az.mk (Q_FA4 (hon 17 (by kernel_rfl)) hb_)
      have NAA := Az.mk (Q_NAA (hon 5 (by kernel_rfl)) (hon 9 (by kernel_rfl)))
      have ho : (#[.int .i64 D.st, a1, a2, a3, a4] : Array Value).all (·.oneCell') = true := by
        obtain ⟨_, _, h1⟩ := Kd.R_slice FA1.out
        obtain ⟨_, _, h2⟩ := Kd.R_slice FA2.out
        obtain ⟨_, _, h3⟩ := Kd.R_slice FA3.out
        obtain ⟨_, _, h4⟩ := Kd.R_slice FA4.out
        rw [h1, h2, h3, h4]
        simp [Value.oneCell']
      refine skip_ (by rfl) rfl (HD.out.run_st 0 rfl rfl (eval_of e2) _ (eval_of e21) hs28 rfl ho) ?_
      refine hK.out _ _ ⟨b1, b2, b3, b4, a1, a2, a3, a4, m18_, (by rw [ha.out]; exact putSel_none (v := undef) rfl), fun h0_ => absurd ((up_self b 19).symm.trans h0_) (by decide), fun _ h1_ => absurd ((hon 5 (by kernel_rfl)).symm.trans h1_) (by decide), fun _ h1_ => absurd ((up_self b 19).symm.trans h1_) (by decide), fun _ h1_ => absurd ((hon 9 (by kernel_rfl)).symm.trans h1_) (by decide), fun _ h1_ => absurd ((up_self b 19).symm.trans h1_) (by decide), fun _ h1_ => absurd ((hon 13 (by kernel_rfl)).symm.trans h1_) (by decide), fun _ h1_ => absurd ((up_self b 19).symm.trans h1_) (by decide), fun _ h1_ => absurd ((hon 17 (by kernel_rfl)).symm.trans h1_) (by decide), fun _ h1_ => absurd ((up_self b 19).symm.trans h1_) (by decide), fun _ _ h2_ _ => absurd ((hon 5 (by kernel_rfl)).symm.trans h2_) (by decide), fun _ _ h2_ => absurd ((hon 9 (by kernel_rfl)).symm.trans h2_) (by decide), fun _ _ => NAA.out, fun _ => ⟨HD.out.set_row 0 rfl _, R_set_far FA1.out (HD.out.box 0 rfl) (by decide) _ ownerless_string, R_set_far FA2.out (HD.out.box 0 rfl) (by decide) _ ownerless_string, R_set_far FA3.out (HD.out.box 0 rfl) (by decide) _ ownerless_bool, R_set_far FA4.out (HD.out.box 0 rfl) (by decide) _ ownerless_k54⟩, Q_X18_⟩
    exact steps_nil
  · rintro b a w' hall ⟨b1, b2, b3, b4, a1, a2, a3, a4, m18_, ha, Q_HD, Q_FB1, Q_FA1, Q_FB2, Q_FA2, Q_FB3, Q_FA3, Q_FB4, Q_FA4, Q_NBB, Q_NAB, Q_NAA, Q_HE, Q_X18_⟩
    clear HD
    have hb1_ := hall 1 (by kernel_rfl)
    have hb2_ := hall 2 (by kernel_rfl)
    have hb4_ := hall 4 (by kernel_rfl)
    have hb5_ := hall 5 (by kernel_rfl)
    have hb6_ := hall 6 (by kernel_rfl)
    have hb8_ := hall 8 (by kernel_rfl)
    have hb9_ := hall 9 (by kernel_rfl)
    have hb10_ := hall 10 (by kernel_rfl)
    have hb12_ := hall 12 (by kernel_rfl)
    have hb13_ := hall 13 (by kernel_rfl)
    have hb14_ := hall 14 (by kernel_rfl)
    have hb16_ := hall 16 (by kernel_rfl)
    have hb17_ := hall 17 (by kernel_rfl)
    have hb18_ := hall 18 (by kernel_rfl)
    have hb19_ := hall 19 (by kernel_rfl)
    subst ha
    obtain rfl := Q_X18_ hb18_
    simp only [putSel, hb1_, hb2_, hb4_, hb5_, hb6_, hb8_, hb9_, hb10_, hb12_, hb13_, hb14_, hb16_, hb17_, hb18_, hb19_, if_true, Act.put, List.setIfInBounds_toArray, List.set_cons_zero, List.set_cons_succ]
    clear Q_HD
    clear Q_FB1
    clear Q_FA1
    clear Q_FB2
    clear Q_FA2
    clear Q_FB3
    clear Q_FA3
    clear Q_FB4
    clear Q_FA4
    clear Q_NBB
    clear Q_NAB
    have NAA := Az.mk (Q_NAA hb5_ hb9_)
    clear Q_NAA
    have HE := Az.mk (Q_HE hb19_)
    clear Q_HE
    clear hall hb1_ hb2_ hb4_ hb5_ hb6_ hb8_ hb9_ hb10_ hb12_ hb13_ hb14_ hb16_ hb17_ hb18_ hb19_
    obtain ⟨HE1, o1, o2, o3, o4⟩ := HE.out
    go_wp2
    refine bodyPost_ret (results_cell_row rfl _ _ g2 28 _ (0, 0) _ rfl (HE1.box 0 rfl) Try.underlying28 rfl (by kernel_rfl)) rfl ?_
    have hn : ∀ k, a1.ownBlock = some k → some k ≠ a2.ownBlock := fun k hk => atom_of NAA.out hk
    have hn' : ∀ k, a2.ownBlock = some k → some k ≠ a1.ownBlock := fun k hk => atom_of' NAA.out hk
    obtain ⟨A1, c1, rfl⟩ := Kd.R_slice o1
    obtain ⟨A2, c2, rfl⟩ := Kd.R_slice o2
    obtain ⟨A3, c3, rfl⟩ := Kd.R_slice o3
    obtain ⟨A4, c4, rfl⟩ := Kd.R_slice o4
    refine ⟨⟨A1, c1, A2, c2, A3, c3, A4, c4⟩, rfl, ⟨R_base o1 (fun k hk => (own_ge o1 k hk).1) (fun k hk => ⟨own_lt' o1 k hk, hn k hk⟩), R_base o2 (fun k hk => (own_ge o2 k hk).1) (fun k hk => ⟨own_lt' o2 k hk, hn' k hk⟩), R_base o3 (fun k hk => (own_ge o3 k hk).1) (fun k hk => own_lt' o3 k hk), R_base54 o4 (fun k hk => (own_ge o4 k hk).1) (fun k hk => own_lt' o4 k hk)⟩, HE1.bel⟩
end Go.Proofs.Ytkgpnloghmbmlaa.Hd
namespace Go.Proofs.Ytkgpnloghmbmlaa.Print
open Go.RowKit Go.Proofs.YtkgpnloghmbmlaaW.PrintWords Go.Proofs.Ytkgpnloghmbmlaa.Hd
end Go.Proofs.Ytkgpnloghmbmlaa.Print
namespace Go.Proofs.Ytkgpnloghmbmlaa.Hd
open Go.RowKit Go.Proofs.Ytkgpnloghmbmlaa.Print Go.Proofs.YtkgpnloghmbmlaaW.PrintWords Go.Proofs.YtkgpnloghmbmlaaW.PrintLast Go.Proofs.YtkgpnloghmbmlaaW.PrintMore
set_option linter.unusedVariables false
set_option linter.unusedSimpArgs false
def turned (s : ByteArray) (b : Nat) (by_ : Int) : ByteArray := strOfNums ((bytesOf s).set b (bits .xor .u8 ((bytesOf s)[b]?.getD 0) (by_ % 256)))
def spoilD (D : Dd) (a b : Nat) (by_ : Int) : Dd := if (D.l1.getD a ByteArray.empty).size = 0 ∨ D.l3.getD a false = true then D else { D with l1 := D.l1.set a (turned (D.l1.getD a ByteArray.empty) b by_), l3 := D.l3.set a true }
theorem add0 (b i : Nat) : (⟨b, 0, none⟩ : Addr).add i = ⟨b, i, none⟩ := by unfold Addr.add; split <;> simp_all
theorem own_addr {α : Type} {d : Kd α} {t lo : Nat} {w : World} {ok : Nat → Prop} {A : Option Addr} {n c : Nat} {xs : List α} (h : d.R t w lo ok (.slice A n c) xs) (hn : 0 < xs.length) : ∃ g, A = some ⟨g, 0, none⟩ ∧ lo ≤ g ∧ ok g ∧ g < w.heap.size := by
  have hg := own_ge h
  have hl := own_lt' h
  obtain ⟨_, inner, ho, _⟩ := h
  rcases ho.2 with ⟨h1, h2⟩ | ⟨g, cap, cur, e, _⟩
  · injection h1 with _ h3 _
    omega
  · injection e with e1
    have hk : (Value.slice A n c).ownBlock = some g := by rw [e1]; rfl
    exact ⟨g, e1, (hg g hk).1, (hg g hk).2, hl g hk⟩
theorem Own.put1 {w : World} {lo hi g c1 : Nat} {A2 A3 A4 : Option Addr} {c2 c3 c4 : Nat} {D : Dd} (h : Own w lo hi ⟨some ⟨g, 0, none⟩, c1, A2, c2, A3, c3, A4, c4⟩ D) (i : Nat) (x : ByteArray) : Own (w.setCell ⟨g, i, none⟩ (.string x)) lo hi ⟨some ⟨g, 0, none⟩, c1, A2, c2, A3, c3, A4, c4⟩ { D with l1 := D.l1.set i x } := by
  have hg := (Kd.R_putg (enc := Value.string) (h1 := fun _ => rfl) h.o1 (i : Int) x)
  have hl : (D.l1.set i x).length = D.l1.length := List.length_set
  have h1 : Kd.string.R 9 (w.setCell ⟨g, i, none⟩ (.string x)) lo _ (.slice (some ⟨g, 0, none⟩) D.l1.length c1) (D.l1.set i x) := hg.1
  have hb : w.grownBy (w.setCell ⟨g, i, none⟩ (.string x)) (some g) := hg.2
  refine ⟨?_, ?_, ?_, ?_⟩
  · show Kd.R Kd.string 9 _ lo _ (.slice (some ⟨g, 0, none⟩) (D.l1.set i x).length c1) _
    rw [hl]
    exact h1
  · refine R_own_only (w := w) ?_ ownerless_string fun k hk => hb.block k (own_lt' h.o2 k hk) fun e => (own_ge h.o2 k hk).2.2 e
    show Kd.R Kd.string 9 w lo (fun k => k < hi ∧ some k ≠ (Value.slice (some ⟨g, 0, none⟩) (D.l1.set i x).length c1).ownBlock) _ _
    rw [hl]
    exact h.o2
  · exact R_far_types h.o3 h.o1 (by decide) hb ownerless_bool
  · exact R_far_types h.o4 h.o1 (by decide) hb ownerless_k54
theorem Own.put3 {w : World} {lo hi g c3 : Nat} {A1 A2 A4 : Option Addr} {c1 c2 c4 : Nat} {D : Dd} (h : Own w lo hi ⟨A1, c1, A2, c2, some ⟨g, 0, none⟩, c3, A4, c4⟩ D) (i : Nat) (x : Bool) : Own (w.setCell ⟨g, i, none⟩ (.bool x)) lo hi ⟨A1, c1, A2, c2, some ⟨g, 0, none⟩, c3, A4, c4⟩ { D with l3 := D.l3.set i x } := by
  have hg := (Kd.R_putg (enc := Value.bool) (h1 := fun _ => rfl) h.o3 (i : Int) x)
  have hl : (D.l3.set i x).length = D.l3.length := List.length_set
  have h1 : Kd.bool.R 4 (w.setCell ⟨g, i, none⟩ (.bool x)) lo _ (.slice (some ⟨g, 0, none⟩) D.l3.length c3) (D.l3.set i x) := hg.1
  have hb : w.grownBy (w.setCell ⟨g, i, none⟩ (.bool x)) (some g) := hg.2
  refine ⟨R_far_types h.o1 h.o3 (by decide) hb ownerless_string, R_far_types h.o2 h.o3 (by decide) hb ownerless_string, ?_, R_far_types h.o4 h.o3 (by decide) hb ownerless_k54⟩
  show Kd.R Kd.bool 4 _ lo _ (.slice (some ⟨g, 0, none⟩) (D.l3.set i x).length c3) _
  rw [hl]
  exact h1
theorem cD_set (M : Mm) (D : Dd) (i : Nat) (x : ByteArray) (y : Bool) : cD M { D with l1 := D.l1.set i x, l3 := D.l3.set i y } = cD M D := by simp only [cD, List.length_set]
theorem sizeS5 : (Try.prog.info? 5).map (·.size) = some 1 := by kernel_rfl
theorem sizeS9 : (Try.prog.info? 9).map (·.size) = some 1 := by kernel_rfl
theorem sizeS4 : (Try.prog.info? 4).map (·.size) = some 1 := by kernel_rfl
theorem cD_one1 (M : Mm) (D : Dd) : (cD M D).all (·.oneCell') = true := by simp [cD, Value.oneCell']
end Go.Proofs.Ytkgpnloghmbmlaa.Hd
namespace Go.Proofs.Ytkgpnloghmbmlaa.Print
open Go.RowKit Go.Proofs.YtkgpnloghmbmlaaW.PrintWords Go.Proofs.YtkgpnloghmbmlaaW.PrintLast Go.Proofs.YtkgpnloghmbmlaaW.PrintMore Go.Proofs.Ytkgpnloghmbmlaa.Drv
set_option linter.unusedVariables false
set_option linter.unusedSimpArgs false
def comeSp (p : S54) (sp : List Bool) : List Bool := if p.f0 = true then sp else sp.set p.f1.toNat false
def comeSl (p : S54) (sl : List ByteArray) : List ByteArray := if p.f0 = true then sl else sl.set p.f1.toNat p.f2
def comeRg (p : S54) (rg : List ByteArray) : List ByteArray := if p.f0 = true then rg.set p.f1.toNat p.f2 else rg
set_option maxHeartbeats 4000000 in
set_option maxRecDepth 100000 in
theorem come_ring (g : Nat) (st : Int) (sp : List Bool) (sl rg : List ByteArray) (ns : List (Nat × Pt)) (n : Nat) (tx : ByteArray) (w : World) (hD : Drv w g st sp sl rg ns) (hn : n < 2) :
    Calls Try.prog 100 #[.pointer (some ⟨g, 0, none⟩), .agg #[.bool true, .int .i64 (n : Int), .string tx]] w fun e w' => e = .returned (.tuple #[]) ∧ Drv w' g st sp sl (rg.set n tx) ns ∧ Below g w w' ∧ KeepBut w w' g none := by
  have hu80 := Try.underlying80
  have hu54 := Try.underlying54
  have hu77 := Try.underlying77
  have HGS := Az.mk (blk_lt hD.blk)
  have HGL := Az.mk (Nat.le_of_lt (blk_lt hD.blk))
  have HD := Az.mk hD
  have HN := Az.mk hn
  have HA0 := Az.mk (eq_true (show (0 : Int) ≤ (n : Int) by omega))
  have HA1 := Az.mk (eq_true (show (n : Int) < 2 by omega))
  clear hD hn
  have HK0 := Az.mk (KeepBut.refl w g none)
  have HB := Az.mk (Below.refl g w)
  go_enter Try.func100, Try.ntmps100
  go_wp2_with (first | ((with_reducible refine zqg (N := 3) rfl ?_); refine zqb ?hg (N := 3) ?hd (cs := #[.bool true, .int .i64 (n : Int), .string tx]) (t := 54) ?hr ?_; (case hd => rfl); (case hg => rfl); (case hr => first | (go_simp; done) | (go_simp; rfl)); intro gp hg w1 hbox hb; have n0_ := Az.mk (hb.mono HGL.out); have n1_ := Az.mk hbox; have n2_ := Az.mk (Drv.below (g := g) (st := st) (sp := sp) (sl := sl) (rg := rg) (ns := ns) (by (with_reducible repeat (first | refine drv_drewN ?_ _ | refine drv_drew ?_)); exact HD.out) hb); have HNE : Az (g < gp) := ⟨by rw [hg]; exact HGS.out⟩; have HK := Az.mk (KeepBut.trans HK0.out (KeepBut.of_below hb g none) (.inl rfl)); clear HB HD HK0; have HB := n0_; have BK := n1_; have HD := n2_; clear n0_ n1_ n2_ hb hbox hg; have hcz_0 : w1.cell? ⟨gp, 0, none⟩ = some (.bool true) := (zq4 BK.out 0).trans rfl; have hcz_1 : w1.cell? ⟨gp, 1, none⟩ = some (.int .i64 (n : Int)) := (zq4 BK.out 1).trans rfl; have hcz_2 : w1.cell? ⟨gp, 2, none⟩ = some (.string tx) := (zq4 BK.out 2).trans rfl))
  have nb_ := Az.mk (zqd HB.out)
  have nd_ := Az.mk (drv_drew HD.out)
  have nk_ := Az.mk (zq8 BK.out)
  have nj_ := Az.mk (keep_drew HK.out)
  clear HB HD BK HK
  have HK := nj_
  clear nj_
  have HB := nb_
  have HD := nd_
  have BK := nk_
  clear nb_ nd_ nk_
  refine start_ (n := 9) (S := fun w' => w'.cell? ⟨gp, 1, none⟩ = some (.int .i64 (n : Int)) ∧ w'.cell? ⟨gp, 2, none⟩ = some (.string tx)) (ds := [8]) #[false, false, false, false, false, false, false, false, false] (by kernel_rfl) rfl rfl ⟨(zq4 BK.out 1).trans rfl, (zq4 BK.out 2).trans rfl⟩ (fun hHeld => ?_)
  generalize w1.drew = w2 at HB HD BK HK hHeld ⊢
  refine zqp (i := 0) (N := (some 6)) (v := ?_) (a' := ?_) #[true, false, false, false, false, false, false, false, false] rfl rfl (by kernel_rfl) (fun _ _ _ h => h) (Or.inl ⟨by rfl, ?_⟩) ?_ ?_
  rotate_left
  · intro w'
    go_simp
    with_reducible rfl
  rotate_left
  · simp only [Act.put, List.setIfInBounds_toArray, List.set_cons_zero, List.set_cons_succ]
    rfl
  refine zqp (i := 1) (N := (some 7)) (v := ?_) (a' := ?_) #[true, true, false, false, false, false, false, false, false] rfl rfl (by kernel_rfl) (fun _ _ _ h => h) (Or.inl ⟨by rfl, ?_⟩) ?_ ?_
  rotate_left
  · intro w'
    go_simp
    with_reducible rfl
  rotate_left
  · simp only [Act.put, List.setIfInBounds_toArray, List.set_cons_zero, List.set_cons_succ]
    rfl
  refine zqt (i := 2) (N := (some 8)) (v := ?_) (a' := ?_) #[true, true, true, false, false, false, false, false, false] rfl rfl (by kernel_rfl) (fun _ _ _ h => h) (Or.inl ⟨by rfl, ?_⟩) hHeld ?_ ?_
  rotate_left
  · intro w' hS_
    obtain ⟨s1_, s2_⟩ := hS_
    go_simp
    with_reducible rfl
  rotate_left
  · simp only [Act.put, List.setIfInBounds_toArray, List.set_cons_zero, List.set_cons_succ]
    rfl
  refine zqp (i := 3) (N := (some 9)) (v := ?_) (a' := ?_) #[true, true, true, true, false, false, false, false, false] rfl rfl (by kernel_rfl) (fun _ _ _ h => h) (Or.inl ⟨by rfl, ?_⟩) ?_ ?_
  rotate_left
  · intro w'
    go_simp
    with_reducible rfl
  rotate_left
  · simp only [Act.put, List.setIfInBounds_toArray, List.set_cons_zero, List.set_cons_succ]
    rfl
  refine zqt (i := 4) (N := (some 10)) (v := ?_) (a' := ?_) #[true, true, true, true, true, false, false, false, false] rfl rfl (by kernel_rfl) (fun _ _ _ h => h) (Or.inl ⟨by rfl, ?_⟩) hHeld ?_ ?_
  rotate_left
  · intro w' hS_
    obtain ⟨s1_, s2_⟩ := hS_
    go_simp
    with_reducible rfl
  rotate_left
  · simp only [Act.put, List.setIfInBounds_toArray, List.set_cons_zero, List.set_cons_succ]
    rfl
  refine zqp (i := 5) (N := (some 11)) (v := ?_) (a' := ?_) #[true, true, true, true, true, true, false, false, false] rfl rfl (by kernel_rfl) (fun _ _ _ h => h) (Or.inl ⟨by rfl, ?_⟩) ?_ ?_
  rotate_left
  · intro w'
    go_simp
    with_reducible rfl
  rotate_left
  · simp only [Act.put, List.setIfInBounds_toArray, List.set_cons_zero, List.set_cons_succ]
    rfl
  refine zqp (i := 6) (N := (some 12)) (v := ?_) (a' := ?_) #[true, true, true, true, true, true, true, false, false] rfl rfl (by kernel_rfl) (fun _ _ _ h => h) (Or.inl ⟨by rfl, ?_⟩) ?_ ?_
  rotate_left
  · intro w'
    go_simp
    with_reducible rfl
  rotate_left
  · simp only [Act.put, List.setIfInBounds_toArray, List.set_cons_zero, List.set_cons_succ]
    rfl
  refine zqp (i := 7) (N := (some 13)) (v := ?_) (a' := ?_) #[true, true, true, true, true, true, true, true, false] rfl rfl (by kernel_rfl) (fun _ _ _ h => h) (Or.inl ⟨by rfl, ?_⟩) ?_ ?_
  rotate_left
  · intro w'
    have ha0_ := HA0.out
    have ha1_ := HA1.out
    go_simp
    first | with_reducible rfl | rfl
  rotate_left
  · simp only [Act.put, List.setIfInBounds_toArray, List.set_cons_zero, List.set_cons_succ]
    rfl
  refine last_ (i := 8) (N := none) #[true, true, true, true, true, true, true, true, true] rfl rfl (by kernel_rfl) (by decide) (fun K hK => ?_)
  have hc_ : w2.cell? ⟨g, 25 + n, none⟩ = some (.string (rg.getD n ByteArray.empty)) := (zq4 HD.out.blk (25 + n)).trans (dc_rg HD.out.lsp HD.out.lsl HD.out.lrg HN.out)
  have hf_ : w2.frozen? ⟨g, 25 + n, none⟩ = false := zq5 HD.out.blk (25 + n)
  refine skip_ (w1 := w2.setCell ⟨g, 25 + n, none⟩ (.string tx)) (by rfl) rfl ?_ ?_
  · first | (go_simp; done) | (go_simp; rfl)
  refine hK.out _ _ ?_
  clear hK K
  refine done_ (by kernel_rfl) ?_
  go_wp2
  refine bodyPost_ret (results_none rfl _ _ _) rfl ?_
  exact ⟨rfl, HD.out.putRing HN.out tx, HB.out.setCell (p := ⟨g, 25 + n, none⟩) (Nat.le_refl _) _, KeepBut.set_ HK.out _ _⟩
set_option maxHeartbeats 4000000 in
set_option maxRecDepth 100000 in
theorem come_slot (g : Nat) (st : Int) (sp : List Bool) (sl rg : List ByteArray) (ns : List (Nat × Pt)) (n : Nat) (tx : ByteArray) (w : World) (hD : Drv w g st sp sl rg ns) (hn : n < 12) :
    Calls Try.prog 100 #[.pointer (some ⟨g, 0, none⟩), .agg #[.bool false, .int .i64 (n : Int), .string tx]] w fun e w' => e = .returned (.tuple #[]) ∧ Drv w' g st (sp.set n false) (sl.set n tx) rg ns ∧ Below g w w' ∧ KeepBut w w' g none := by
  have hu80 := Try.underlying80
  have hu75 := Try.underlying75
  have hu54 := Try.underlying54
  have hu76 := Try.underlying76
  have hu73 := Try.underlying73
  have HGS := Az.mk (blk_lt hD.blk)
  have HGL := Az.mk (Nat.le_of_lt (blk_lt hD.blk))
  have HD := Az.mk hD
  have HN := Az.mk hn
  have HA0 := Az.mk (eq_true (show (0 : Int) ≤ (n : Int) by omega))
  have HA1 := Az.mk (eq_true (show (n : Int) < 12 by omega))
  clear hD hn
  have HK0 := Az.mk (KeepBut.refl w g none)
  have HB := Az.mk (Below.refl g w)
  go_enter Try.func100, Try.ntmps100
  go_wp2_with (first | ((with_reducible refine zqg (N := 3) rfl ?_); refine zqb ?hg (N := 3) ?hd (cs := #[.bool false, .int .i64 (n : Int), .string tx]) (t := 54) ?hr ?_; (case hd => rfl); (case hg => rfl); (case hr => first | (go_simp; done) | (go_simp; rfl)); intro gp hg w1 hbox hb; have n0_ := Az.mk (hb.mono HGL.out); have n1_ := Az.mk hbox; have n2_ := Az.mk (Drv.below (g := g) (st := st) (sp := sp) (sl := sl) (rg := rg) (ns := ns) (by (with_reducible repeat (first | refine drv_drewN ?_ _ | refine drv_drew ?_)); exact HD.out) hb); have HNE : Az (g < gp) := ⟨by rw [hg]; exact HGS.out⟩; have HK := Az.mk (KeepBut.trans HK0.out (KeepBut.of_below hb g none) (.inl rfl)); clear HB HD HK0; have HB := n0_; have BK := n1_; have HD := n2_; clear n0_ n1_ n2_ hb hbox hg; have hcz_0 : w1.cell? ⟨gp, 0, none⟩ = some (.bool false) := (zq4 BK.out 0).trans rfl; have hcz_1 : w1.cell? ⟨gp, 1, none⟩ = some (.int .i64 (n : Int)) := (zq4 BK.out 1).trans rfl; have hcz_2 : w1.cell? ⟨gp, 2, none⟩ = some (.string tx) := (zq4 BK.out 2).trans rfl))
  have nb_ := Az.mk (zqd HB.out)
  have nd_ := Az.mk (drv_drew HD.out)
  have nk_ := Az.mk (zq8 BK.out)
  have nj_ := Az.mk (keep_drew HK.out)
  clear HB HD BK HK
  have HK := nj_
  clear nj_
  have HB := nb_
  have HD := nd_
  have BK := nk_
  clear nb_ nd_ nk_
  refine start_ (n := 17) (S := fun w' => w'.cell? ⟨gp, 1, none⟩ = some (.int .i64 (n : Int)) ∧ w'.cell? ⟨gp, 2, none⟩ = some (.string tx)) (ds := [16]) #[false, false, false, false, false, false, false, false, false, false, false, false, false, false, false, false, false] (by kernel_rfl) rfl rfl ⟨(zq4 BK.out 1).trans rfl, (zq4 BK.out 2).trans rfl⟩ (fun hHeld => ?_)
  generalize w1.drew = w2 at HB HD BK HK hHeld ⊢
  refine zqp (i := 0) (N := (some 14)) (v := ?_) (a' := ?_) #[true, false, false, false, false, false, false, false, false, false, false, false, false, false, false, false, false] rfl rfl (by kernel_rfl) (fun _ _ _ h => h) (Or.inl ⟨by rfl, ?_⟩) ?_ ?_
  rotate_left
  · intro w'
    go_simp
    with_reducible rfl
  rotate_left
  · simp only [Act.put, List.setIfInBounds_toArray, List.set_cons_zero, List.set_cons_succ]
    rfl
  refine zqp (i := 1) (N := (some 15)) (v := ?_) (a' := ?_) #[true, true, false, false, false, false, false, false, false, false, false, false, false, false, false, false, false] rfl rfl (by kernel_rfl) (fun _ _ _ h => h) (Or.inl ⟨by rfl, ?_⟩) ?_ ?_
  rotate_left
  · intro w'
    go_simp
    with_reducible rfl
  rotate_left
  · simp only [Act.put, List.setIfInBounds_toArray, List.set_cons_zero, List.set_cons_succ]
    rfl
  refine zqt (i := 2) (N := (some 16)) (v := ?_) (a' := ?_) #[true, true, true, false, false, false, false, false, false, false, false, false, false, false, false, false, false] rfl rfl (by kernel_rfl) (fun _ _ _ h => h) (Or.inl ⟨by rfl, ?_⟩) hHeld ?_ ?_
  rotate_left
  · intro w' hS_
    obtain ⟨s1_, s2_⟩ := hS_
    go_simp
    with_reducible rfl
  rotate_left
  · simp only [Act.put, List.setIfInBounds_toArray, List.set_cons_zero, List.set_cons_succ]
    rfl
  refine zqp (i := 3) (N := (some 17)) (v := ?_) (a' := ?_) #[true, true, true, true, false, false, false, false, false, false, false, false, false, false, false, false, false] rfl rfl (by kernel_rfl) (fun _ _ _ h => h) (Or.inl ⟨by rfl, ?_⟩) ?_ ?_
  rotate_left
  · intro w'
    go_simp
    with_reducible rfl
  rotate_left
  · simp only [Act.put, List.setIfInBounds_toArray, List.set_cons_zero, List.set_cons_succ]
    rfl
  refine zqp (i := 4) (N := (some 18)) (v := ?_) (a' := ?_) #[true, true, true, true, true, false, false, false, false, false, false, false, false, false, false, false, false] rfl rfl (by kernel_rfl) (fun _ _ _ h => h) (Or.inl ⟨by rfl, ?_⟩) ?_ ?_
  rotate_left
  · intro w'
    go_simp
    with_reducible rfl
  rotate_left
  · simp only [Act.put, List.setIfInBounds_toArray, List.set_cons_zero, List.set_cons_succ]
    rfl
  refine zqt (i := 5) (N := (some 19)) (v := ?_) (a' := ?_) #[true, true, true, true, true, true, false, false, false, false, false, false, false, false, false, false, false] rfl rfl (by kernel_rfl) (fun _ _ _ h => h) (Or.inl ⟨by rfl, ?_⟩) hHeld ?_ ?_
  rotate_left
  · intro w' hS_
    obtain ⟨s1_, s2_⟩ := hS_
    go_simp
    with_reducible rfl
  rotate_left
  · simp only [Act.put, List.setIfInBounds_toArray, List.set_cons_zero, List.set_cons_succ]
    rfl
  refine zqp (i := 6) (N := (some 20)) (v := ?_) (a' := ?_) #[true, true, true, true, true, true, true, false, false, false, false, false, false, false, false, false, false] rfl rfl (by kernel_rfl) (fun _ _ _ h => h) (Or.inl ⟨by rfl, ?_⟩) ?_ ?_
  rotate_left
  · intro w'
    go_simp
    with_reducible rfl
  rotate_left
  · simp only [Act.put, List.setIfInBounds_toArray, List.set_cons_zero, List.set_cons_succ]
    rfl
  refine zqt (i := 7) (N := (some 21)) (v := ?_) (a' := ?_) #[true, true, true, true, true, true, true, true, false, false, false, false, false, false, false, false, false] rfl rfl (by kernel_rfl) (fun _ _ _ h => h) (Or.inl ⟨by rfl, ?_⟩) hHeld ?_ ?_
  rotate_left
  · intro w' hS_
    obtain ⟨s1_, s2_⟩ := hS_
    go_simp
    with_reducible rfl
  rotate_left
  · simp only [Act.put, List.setIfInBounds_toArray, List.set_cons_zero, List.set_cons_succ]
    rfl
  refine zqp (i := 8) (N := (some 22)) (v := ?_) (a' := ?_) #[true, true, true, true, true, true, true, true, true, false, false, false, false, false, false, false, false] rfl rfl (by kernel_rfl) (fun _ _ _ h => h) (Or.inl ⟨by rfl, ?_⟩) ?_ ?_
  rotate_left
  · intro w'
    go_simp
    with_reducible rfl
  rotate_left
  · simp only [Act.put, List.setIfInBounds_toArray, List.set_cons_zero, List.set_cons_succ]
    rfl
  refine zqp (i := 9) (N := (some 23)) (v := ?_) (a' := ?_) #[true, true, true, true, true, true, true, true, true, true, false, false, false, false, false, false, false] rfl rfl (by kernel_rfl) (fun _ _ _ h => h) (Or.inl ⟨by rfl, ?_⟩) ?_ ?_
  rotate_left
  · intro w'
    go_simp
    with_reducible rfl
  rotate_left
  · simp only [Act.put, List.setIfInBounds_toArray, List.set_cons_zero, List.set_cons_succ]
    rfl
  refine zqp (i := 10) (N := (some 24)) (v := ?_) (a' := ?_) #[true, true, true, true, true, true, true, true, true, true, true, false, false, false, false, false, false] rfl rfl (by kernel_rfl) (fun _ _ _ h => h) (Or.inl ⟨by rfl, ?_⟩) ?_ ?_
  rotate_left
  · intro w'
    have ha0_ := HA0.out
    have ha1_ := HA1.out
    go_simp
    first | with_reducible rfl | rfl
  rotate_left
  · simp only [Act.put, List.setIfInBounds_toArray, List.set_cons_zero, List.set_cons_succ]
    rfl
  refine zqp (i := 12) (N := (some 25)) (v := ?_) (a' := ?_) #[true, true, true, true, true, true, true, true, true, true, true, false, true, false, false, false, false] rfl rfl (by kernel_rfl) (fun _ _ _ h => h) (Or.inl ⟨by rfl, ?_⟩) ?_ ?_
  rotate_left
  · intro w'
    go_simp
    with_reducible rfl
  rotate_left
  · simp only [Act.put, List.setIfInBounds_toArray, List.set_cons_zero, List.set_cons_succ]
    rfl
  refine zqp (i := 13) (N := (some 26)) (v := ?_) (a' := ?_) #[true, true, true, true, true, true, true, true, true, true, true, false, true, true, false, false, false] rfl rfl (by kernel_rfl) (fun _ _ _ h => h) (Or.inl ⟨by rfl, ?_⟩) ?_ ?_
  rotate_left
  · intro w'
    go_simp
    with_reducible rfl
  rotate_left
  · simp only [Act.put, List.setIfInBounds_toArray, List.set_cons_zero, List.set_cons_succ]
    rfl
  refine zqp (i := 14) (N := (some 27)) (v := ?_) (a' := ?_) #[true, true, true, true, true, true, true, true, true, true, true, false, true, true, true, false, false] rfl rfl (by kernel_rfl) (fun _ _ _ h => h) (Or.inl ⟨by rfl, ?_⟩) ?_ ?_
  rotate_left
  · intro w'
    go_simp
    with_reducible rfl
  rotate_left
  · simp only [Act.put, List.setIfInBounds_toArray, List.set_cons_zero, List.set_cons_succ]
    rfl
  refine one_ (i := 11) (N := none) #[true, true, true, true, true, true, true, true, true, true, true, true, true, true, true, false, false] rfl rfl (by kernel_rfl) (by decide) (fun K hK => ?_)
  have hc_ : w2.cell? ⟨g, 13 + n, none⟩ = some (.string (sl.getD n ByteArray.empty)) := (zq4 HD.out.blk (13 + n)).trans (dc_sl HD.out.lsp HD.out.lsl HN.out)
  have hf_ : w2.frozen? ⟨g, 13 + n, none⟩ = false := zq5 HD.out.blk (13 + n)
  refine skip_ (w1 := w2.setCell ⟨g, 13 + n, none⟩ (.string tx)) (by rfl) rfl ?_ ?_
  · first | (go_simp; done) | (go_simp; rfl)
  have nk_ : Az ((w2.setCell ⟨g, 13 + n, none⟩ (.string tx)).heap[gp]? = some (.cells #[.bool false, .int .i64 (n : Int), .string tx] 54 (0, 0))) := ⟨blk_far BK.out (by have := HNE.out; show gp ≠ g; omega) _⟩
  have nd_ := Az.mk (HD.out.putSlot HN.out tx)
  have nb_ := Az.mk (HB.out.setCell (p := ⟨g, 13 + n, none⟩) (Nat.le_refl _) (.string tx))
  have nj_ := Az.mk (KeepBut.set_ HK.out (13 + n) (.string tx))
  clear hc_ hf_ BK HD HB HK
  have HK := nj_
  clear nj_
  have BK := nk_
  have HD := nd_
  have HB := nb_
  clear nk_ nd_ nb_ hHeld
  refine hK.out _ _ ⟨(zq4 BK.out 1).trans rfl, (zq4 BK.out 2).trans rfl⟩ (fun hHeld => ?_)
  clear hK K
  generalize w2.setCell ⟨g, 13 + n, none⟩ (.string tx) = w3 at BK HD HB HK hHeld ⊢
  refine zqp (i := 15) (N := (some 28)) (v := ?_) (a' := ?_) #[true, true, true, true, true, true, true, true, true, true, true, true, true, true, true, true, false] rfl rfl (by kernel_rfl) (fun _ _ _ h => h) (Or.inl ⟨by rfl, ?_⟩) ?_ ?_
  rotate_left
  · intro w'
    have ha0_ := HA0.out
    have ha1_ := HA1.out
    go_simp
    first | with_reducible rfl | rfl
  rotate_left
  · simp only [Act.put, List.setIfInBounds_toArray, List.set_cons_zero, List.set_cons_succ]
    rfl
  refine last_ (i := 16) (N := none) #[true, true, true, true, true, true, true, true, true, true, true, true, true, true, true, true, true] rfl rfl (by kernel_rfl) (by decide) (fun K hK => ?_)
  have hc_ : w3.cell? ⟨g, 1 + n, none⟩ = some (.bool (sp.getD n false)) := (zq4 HD.out.blk (1 + n)).trans (dc_sp HD.out.lsp HN.out)
  have hf_ : w3.frozen? ⟨g, 1 + n, none⟩ = false := zq5 HD.out.blk (1 + n)
  refine skip_ (w1 := w3.setCell ⟨g, 1 + n, none⟩ (.bool false)) (by rfl) rfl ?_ ?_
  · first | (go_simp; done) | (go_simp; rfl)
  refine hK.out _ _ ?_
  clear hK K
  refine done_ (by kernel_rfl) ?_
  go_wp2
  go_end0
  exact ⟨rfl, HD.out.putSpoilt HN.out false, HB.out.setCell (p := ⟨g, 1 + n, none⟩) (Nat.le_refl _) _, KeepBut.set_ HK.out _ _⟩
theorem come_calls (g : Nat) (st : Int) (sp : List Bool) (sl rg : List ByteArray) (ns : List (Nat × Pt)) (p : S54) (w : World) (hD : Drv w g st sp sl rg ns) (hp : putB p = true) :
    Calls Try.prog 100 #[.pointer (some ⟨g, 0, none⟩), .agg #[.bool p.f0, .int .i64 p.f1, .string p.f2]] w fun e w' => e = .returned (.tuple #[]) ∧ Drv w' g st (comeSp p sp) (comeSl p sl) (comeRg p rg) ns ∧ Below g w w' ∧ KeepBut w w' g none := by
  obtain ⟨f0, f1, f2⟩ := p
  cases f0 with
  | true =>
    simp only [putB, if_true, decide_eq_true_iff] at hp
    obtain ⟨n, rfl⟩ : ∃ n : Nat, f1 = (n : Int) := ⟨f1.toNat, by omega⟩
    have := come_ring g st sp sl rg ns n f2 w hD (by omega)
    simpa [comeSp, comeSl, comeRg] using this
  | false =>
    simp only [putB, Bool.false_eq_true, if_false, decide_eq_true_iff] at hp
    obtain ⟨n, rfl⟩ : ∃ n : Nat, f1 = (n : Int) := ⟨f1.toNat, by omega⟩
    have := come_slot g st sp sl rg ns n f2 w hD (by omega)
    simpa [comeSp, comeSl, comeRg] using this
end Go.Proofs.Ytkgpnloghmbmlaa.Print
namespace Go.Proofs.Ytkgpnloghmbmlaa.Print
open Go.RowKit Go.Proofs.YtkgpnloghmbmlaaW.PrintWords Go.Proofs.YtkgpnloghmbmlaaW.PrintLast Go.Proofs.YtkgpnloghmbmlaaW.PrintMore Go.Proofs.Ytkgpnloghmbmlaa.Drv
set_option linter.unusedVariables false
set_option linter.unusedSimpArgs false
theorem drv_first {W : World} {g b : Nat} {p : S54} {st : Int} {sp : List Bool} {sl rg : List ByteArray} {rs : List (Nat × Pt)} (h : Drv W g st sp sl rg ((b, p) :: rs)) :
    W.cell? ⟨g, 27, none⟩ = some (.pointer (some ⟨b, 0, none⟩)) ∧ W.cell? ⟨b, 0, none⟩ = some (.bool p.f0) ∧ W.cell? ⟨b, 1, none⟩ = some (.int .i64 p.f1) ∧ W.cell? ⟨b, 2, none⟩ = some (.string p.f2) ∧ W.cell? ⟨b, 3, none⟩ = some (toN rs (.pointer none)) ∧ W.frozen? ⟨g, 27, none⟩ = false := by
  have hn : W.heap[b]? = some (.cells #[.bool p.f0, .int .i64 p.f1, .string p.f2, toN rs (.pointer none)] 112 (0, 0)) := h.seg.2.1
  exact ⟨(zq4 h.blk 27).trans (dc_fi h.lsp h.lsl h.lrg), (zq4 hn 0).trans rfl, (zq4 hn 1).trans rfl, (zq4 hn 2).trans rfl, (zq4 hn 3).trans rfl, zq5 h.blk 27⟩
def comeAll (ps : List S54) (x : List Bool × List ByteArray × List ByteArray) : List Bool × List ByteArray × List ByteArray := ps.foldl (fun x p => (comeSp p x.1, comeSl p x.2.1, comeRg p x.2.2)) x
set_option maxHeartbeats 4000000 in
set_option maxRecDepth 100000 in
theorem flush_calls (g : Nat) (st : Int) (sp : List Bool) (sl rg : List ByteArray) (ns : List (Nat × Pt)) (w : World) (hD : Drv w g st sp sl rg ns) (hp : ∀ x ∈ ns, putB x.2 = true) :
    Calls Try.prog 78 #[.pointer (some ⟨g, 0, none⟩)] w fun e w' => e = .returned (.tuple #[]) ∧ Drv w' g st (comeAll (ns.map (·.2)) (sp, sl, rg)).1 (comeAll (ns.map (·.2)) (sp, sl, rg)).2.1 (comeAll (ns.map (·.2)) (sp, sl, rg)).2.2 [] ∧ Below g w w' ∧ KeepBut w w' g none := by
  have hu80 := Try.underlying80
  have hu54 := Try.underlying54
  have hu112 := Try.underlying112
  have HD := Az.mk hD
  have HP := Az.mk hp
  clear hD hp
  have HB := Az.mk (Below.refl g w)
  go_enter Try.func78, Try.ntmps78
  go_wp2
  go_loopg [] ns.length (fun kq w' => ∃ (rs : List (Nat × Pt)) (sp1 : List Bool) (sl1 rg1 : List ByteArray), Az (comeAll (rs.map (·.2)) (sp1, sl1, rg1) = comeAll (ns.map (·.2)) (sp, sl, rg)) ∧ Az (rs.length = kq) ∧ Az (∀ x ∈ rs, putB x.2 = true) ∧ Az (Drv w' g st sp1 sl1 rg1 rs) ∧ Az (Below g w w') ∧ Az (KeepBut w w' g none))
  case atStart => exact ⟨ns, sp, sl, rg, ⟨rfl⟩, ⟨rfl⟩, ⟨HP.out⟩, ⟨HD.out⟩, ⟨HB.out⟩, ⟨KeepBut.refl w g none⟩⟩
  case round =>
    clear HD HB
    obtain ⟨rs, sp1, sl1, rg1, HE, HI, HQ, HD, HB, HK⟩ := hrel
    cases rs with
    | nil =>
      have hfi : wr.cell? ⟨g, 27, none⟩ = some (.pointer none) := (zq4 HD.out.blk 27).trans (dc_fi HD.out.lsp HD.out.lsl HD.out.lrg)
      go_wp2
      go_end0
      exact ⟨rfl, by rw [← HE.out]; exact (by (with_reducible repeat (first | refine drv_drewN ?_ _ | refine drv_drew ?_)); exact HD.out), (by repeat (first | (with_reducible first | exact HB.out | apply zq1 | apply zqd) | exact HB.out)), by (with_reducible repeat (first | apply keep_drewN | apply keep_drew)); exact HK.out⟩
    | cons x rs =>
      obtain ⟨b, p⟩ := x
      have hn := drv_first HD.out
      obtain ⟨q, hnx⟩ : ∃ q, toN rs (.pointer none) = .pointer q := by cases rs <;> exact ⟨_, rfl⟩
      have HNX := Az.mk hnx
      have hfi := hn.1
      have hc_0 := hn.2.1
      have hc_1 := hn.2.2.1
      have hc_2 := hn.2.2.2.1
      have HPB := Az.mk (HQ.out (b, p) (by simp))
      clear hn hnx
      go_wp2_with (first | (go_at_call 100; refine (come_calls g st sp1 sl1 rg1 ((b, p) :: rs) p _ (by (with_reducible repeat (first | refine drv_drewN ?_ _ | refine drv_drew ?_)); exact HD.out) HPB.out).mono ?_; rintro e w9 ⟨rfl, hd, hb, hk⟩; have nj_ := Az.mk (KeepBut.trans (by (with_reducible repeat (first | apply keep_drewN | apply keep_drew)); exact HK.out) hk (.inl rfl)); clear HK hk; have HK := nj_; clear nj_; have hn9 := drv_first hd; have nb_ := Az.mk (Below.trans (by repeat (first | (with_reducible first | exact HB.out | apply zq1 | apply zqd) | exact HB.out)) hb); have HD9 := Az.mk hd; clear HB HD; have HB := nb_; clear nb_ hd hb; have hfi9 : w9.cell? ⟨g, 27, none⟩ = some (.pointer (some ⟨b, 0, none⟩)) := hn9.1; have hff9 : w9.frozen? ⟨g, 27, none⟩ = false := hn9.2.2.2.2.2; have hnx9 : w9.cell? ⟨b, 3, none⟩ = some (.pointer q) := (HNX.out ▸ hn9.2.2.2.2.1); clear hn9))
      go_roundg (gk - 1)
      case measure => have := HI.out; simp only [List.length_cons] at this; omega
      case rel =>
        exact ⟨rs, comeSp p sp1, comeSl p sl1, comeRg p rg1, ⟨by rw [← HE.out]; rfl⟩, ⟨by have := HI.out; simp only [List.length_cons] at this; omega⟩, ⟨fun x hx => HQ.out x (List.mem_cons_of_mem _ hx)⟩,
          ⟨by (with_reducible repeat (first | refine drv_drewN ?_ _ | refine drv_drew ?_)); rw [← HNX.out]; exact Drv.drop HD9.out⟩, ⟨by repeat (first | exact HB.out | refine Below.setCell (p := ⟨g, 27, none⟩) ?_ (Nat.le_refl g) _ | apply zq1 | apply zqd)⟩, ⟨by (with_reducible repeat (first | apply keep_drewN | apply keep_drew)); exact KeepBut.set_ HK.out _ _⟩⟩
end Go.Proofs.Ytkgpnloghmbmlaa.Print
namespace Go.Proofs.Ytkgpnloghmbmlaa.Print
open Go.RowKit Go.Proofs.YtkgpnloghmbmlaaW.PrintWords Go.Proofs.YtkgpnloghmbmlaaW.PrintLast Go.Proofs.YtkgpnloghmbmlaaW.PrintMore Go.Proofs.Ytkgpnloghmbmlaa.Drv
set_option linter.unusedVariables false
set_option linter.unusedSimpArgs false
set_option maxHeartbeats 4000000 in
set_option maxRecDepth 100000 in
theorem put_gone (g : Nat) (st : Int) (sp : List Bool) (sl rg : List ByteArray) (ns : List (Nat × Pt)) (p : S54) (w : World) (hD : Drv w g st sp sl rg ns) (hst : st = 1) :
    Calls Try.prog 84 #[.pointer (some ⟨g, 0, none⟩), .agg #[.bool p.f0, .int .i64 p.f1, .string p.f2]] w fun e w' => e = .returned (.tuple #[]) ∧ Drv w' g st sp sl rg ns ∧ Below g w w' := by
  have hu80 := Try.underlying80
  have hu75 := Try.underlying75
  have hu54 := Try.underlying54
  have HGS := Az.mk (blk_lt hD.blk)
  have HGL := Az.mk (Nat.le_of_lt (blk_lt hD.blk))
  have HLS := Az.mk hD.last_lt
  have HD := Az.mk hD
  subst hst
  clear hD
  have HB := Az.mk (Below.refl g w)
  go_enter Try.func84, Try.ntmps84
  go_wp2_with (first | ((with_reducible refine zqg (N := 3) rfl ?_); refine zqb ?hg (N := 3) ?hd (cs := #[.bool p.f0, .int .i64 p.f1, .string p.f2]) (t := 54) ?hr ?_; (case hd => rfl); (case hg => rfl); (case hr => first | (go_simp; done) | (go_simp; rfl)); intro gp hg w1 hbox hb; have n0_ := Az.mk (hb.mono HGL.out); have n1_ := Az.mk hbox; have n2_ := Az.mk (Drv.below (g := g) (st := 1) (sp := sp) (sl := sl) (rg := rg) (ns := ns) (by (with_reducible repeat (first | refine drv_drewN ?_ _ | refine drv_drew ?_)); exact HD.out) hb); have HNE : Az (lastN g ns < gp) := ⟨by rw [hg]; exact HLS.out⟩; have HGP : Az (gp ≠ g) := ⟨by have h1 := HGS.out; rw [hg]; omega⟩; clear HB HD; have HB := n0_; have BK := n1_; have HD := n2_; clear n0_ n1_ n2_ hb hbox hg; have hst_ : w1.cell? ⟨g, 0, none⟩ = some (.int .i64 1) := drv_st HD.out))
  refine bodyPost_ret (results_none rfl _ _ _) rfl ?_
  exact ⟨rfl, (by (with_reducible repeat (first | refine drv_drewN ?_ _ | refine drv_drew ?_)); exact HD.out), (by repeat (first | (with_reducible first | exact HB.out | apply zq1 | apply zqd) | exact HB.out))⟩
theorem below_glue {g : Nat} {w W w9 : World} (h : Below g w W) (hg : g ≤ w.heap.size) (hb : Below W.heap.size W w9) : Below g w w9 := h.trans (hb.mono (Nat.le_trans hg h.size))
set_option maxHeartbeats 4000000 in
set_option maxRecDepth 100000 in
theorem put_some (g : Nat) (st : Int) (sp : List Bool) (sl rg : List ByteArray) (ns : List (Nat × Pt)) (p : S54) (w : World) (hD : Drv w g st sp sl rg ns) (hst : st ≠ 1) (hn : ns.length < 40) :
    Calls Try.prog 84 #[.pointer (some ⟨g, 0, none⟩), .agg #[.bool p.f0, .int .i64 p.f1, .string p.f2]] w fun e w' => e = .returned (.tuple #[]) ∧ (∃ n, Drv w' g st sp sl rg (ns ++ [(n, p)])) ∧ Below g w w' := by
  have hu80 := Try.underlying80
  have hu75 := Try.underlying75
  have hu54 := Try.underlying54
  have hu112 := Try.underlying112
  have HGS := Az.mk (blk_lt hD.blk)
  have HGL := Az.mk (Nat.le_of_lt (blk_lt hD.blk))
  have HLS := Az.mk hD.last_lt
  have HD := Az.mk hD
  have HN : Az (ns.length ≤ 40) := ⟨by omega⟩
  have hst1 : (st == 1) = false := by rw [beq_eq_false_iff_ne]; exact hst
  have h40 : ((ns.length : Int) == 40) = false := by rw [beq_eq_false_iff_ne]; omega
  have h41 : (ns.length == 40) = false := by rw [beq_eq_false_iff_ne]; omega
  clear hD hst hn
  have HB := Az.mk (Below.refl g w)
  go_enter Try.func84, Try.ntmps84
  go_wp2_with (first | ((with_reducible refine zqg (N := 3) rfl ?_); refine zqb ?hg (N := 3) ?hd (cs := #[.bool p.f0, .int .i64 p.f1, .string p.f2]) (t := 54) ?hr ?_; (case hd => rfl); (case hg => rfl); (case hr => first | (go_simp; done) | (go_simp; rfl)); intro gp hg w1 hbox hb; have n0_ := Az.mk (hb.mono HGL.out); have n1_ := Az.mk hbox; have n2_ := Az.mk (Drv.below (g := g) (st := st) (sp := sp) (sl := sl) (rg := rg) (ns := ns) (by (with_reducible repeat (first | refine drv_drewN ?_ _ | refine drv_drew ?_)); exact HD.out) hb); have HNE : Az (lastN g ns < gp) := ⟨by rw [hg]; exact HLS.out⟩; have HGP : Az (gp ≠ g) := ⟨by have h1 := HGS.out; rw [hg]; omega⟩; clear HB HD; have HB := n0_; have BK := n1_; have HD := n2_; clear n0_ n1_ n2_ hb hbox hg; have hst_ : w1.cell? ⟨g, 0, none⟩ = some (.int .i64 st) := drv_st HD.out) | (go_at_call 90; refine (waits_calls g st sp sl rg ns _ (by (with_reducible repeat (first | refine drv_drewN ?_ _ | refine drv_drew ?_)); exact HD.out) HN.out).mono ?_; rintro e w9 ⟨v9, rfl, ho, hb⟩; obtain ⟨A9, c9, rfl⟩ := Kd.R_slice ho; simp only [List.length_map]; have nd_ := Az.mk (Drv.below (g := g) (st := st) (sp := sp) (sl := sl) (rg := rg) (ns := ns) (by (with_reducible repeat (first | refine drv_drewN ?_ _ | refine drv_drew ?_)); exact HD.out) hb); have nb_ := Az.mk (below_glue (by repeat (first | (with_reducible first | exact HB.out | apply zq1 | apply zqd) | exact HB.out)) HGL.out hb); have nk_ := Az.mk (blk_below (g := gp) (o := .cells #[.bool p.f0, .int .i64 p.f1, .string p.f2] 54 (0, 0)) (by (with_reducible repeat (first | refine zq6 ?_ _ | refine zq8 ?_ | refine zq7 ?_ _)); exact BK.out) hb); clear HB HD BK ho hb; have HB := nb_; have HD := nd_; have BK := nk_; clear nb_ nd_ nk_))
  go_loopg [4] ns.length (fun kq v4 w' => ∃ (dn rs : List (Nat × Pt)), v4 = .pointer (some (linkOf g dn)) ∧ Az (ns = dn ++ rs) ∧ Az (rs.length = kq) ∧ Az (Drv w' g st sp sl rg ns) ∧ Az (w'.heap[gp]? = some (.cells #[.bool p.f0, .int .i64 p.f1, .string p.f2] 54 (0, 0))) ∧ Az (Below g w w'))
  case atStart => exact ⟨[], ns, rfl, ⟨rfl⟩, ⟨rfl⟩, ⟨(by (with_reducible repeat (first | refine drv_drewN ?_ _ | refine drv_drew ?_)); exact HD.out)⟩, ⟨(by (with_reducible repeat (first | refine zq6 ?_ _ | refine zq8 ?_ | refine zq7 ?_ _)); exact BK.out)⟩, ⟨(by repeat (first | (with_reducible first | exact HB.out | apply zq1 | apply zqd) | exact HB.out))⟩⟩
  case round =>
    clear HD BK HB
    obtain ⟨dn, rs, rfl, HE, HI, HD, BK, HB⟩ := hrel
    obtain ⟨lb, lo, hlk0⟩ : ∃ lb lo, (⟨lb, lo, none⟩ : Addr) = linkOf g dn := by cases dn <;> exact ⟨_, _, rfl⟩
    have HLK0 := Az.mk hlk0
    have hlkc : wr.cell? ⟨lb, lo, none⟩ = some (toN rs (.pointer none)) := by
      rw [hlk0]
      exact Drv.link (HE.out ▸ HD.out)
    rw [← hlk0]
    clear hlk0
    cases rs with
    | nil =>
      replace hlkc : wr.cell? ⟨lb, lo, none⟩ = some (.pointer none) := hlkc
      have hE : ns = dn := by have h_ := HE.out; rw [List.append_nil] at h_; exact h_
      have HLK1 : Az ((⟨lb, lo, none⟩ : Addr) = linkOf g ns) := ⟨by rw [HLK0.out, hE]⟩
      have HLB : Az (g ≤ lb) := ⟨by
        have h1 := congrArg Addr.block HLK1.out
        rw [linkOf_block] at h1
        have h2 := HD.out.seg.le
        have h3 : lb = lastN g ns := h1
        omega⟩
      clear HLK0 hE
      have HLK0 := HLK1
      have hcp_0 : wr.cell? ⟨gp, 0, none⟩ = some (.bool p.f0) := (zq4 BK.out 0).trans rfl
      have hcp_1 : wr.cell? ⟨gp, 1, none⟩ = some (.int .i64 p.f1) := (zq4 BK.out 1).trans rfl
      have hcp_2 : wr.cell? ⟨gp, 2, none⟩ = some (.string p.f2) := (zq4 BK.out 2).trans rfl
      go_wp2_with (first | ((with_reducible refine zqg (N := 32) rfl ?_); refine zqb ?hg (N := 32) ?hd (cs := #[.bool p.f0, .int .i64 p.f1, .string p.f2, .pointer none]) (t := 112) ?hr ?_; (case hd => rfl); (case hg => rfl); (case hr => first | (go_simp; done) | (go_simp; rfl)); intro gn hg w21 hbox hb; have n0_ := Az.mk (below_glue (by repeat (first | (with_reducible first | exact HB.out | apply zq1 | apply zqd) | exact HB.out)) HGL.out hb); have n2_ := Az.mk (Drv.below (g := g) (st := st) (sp := sp) (sl := sl) (rg := rg) (ns := ns) (by (with_reducible repeat (first | refine drv_drewN ?_ _ | refine drv_drew ?_)); exact HD.out) hb); have HLN : Az (lastN g ns < gn) := ⟨by rw [hg]; exact Drv.last_lt (st := st) (sp := sp) (sl := sl) (rg := rg) (by (with_reducible repeat (first | refine drv_drewN ?_ _ | refine drv_drew ?_)); exact HD.out)⟩; clear HB HD; have HB := n0_; have HD := n2_; have BN : Az (Go.Proofs.Ytkgpnloghmbmlaa.Drv.Node w21 gn p (.pointer none)) := ⟨hbox⟩; clear n0_ n2_ hb hbox hg; have hlk : w21.cell? ⟨lb, lo, none⟩ = some (.pointer none) := (HLK0.out.symm ▸ HD.out.linkE); have hlf : w21.frozen? ⟨lb, lo, none⟩ = false := (HLK0.out.symm ▸ HD.out.linkFreeE)))
      go_end0
      exact ⟨rfl, ⟨gn, by rw [HLK0.out]; exact Drv.hang HD.out BN.out HLN.out⟩, HB.out.setCell (p := ⟨lb, lo, none⟩) HLB.out _⟩
    | cons x rs =>
      obtain ⟨b, q⟩ := x
      replace hlkc : wr.cell? ⟨lb, lo, none⟩ = some (.pointer (some ⟨b, 0, none⟩)) := hlkc
      go_wp2
      go_roundg (gk - 1)
      case measure => have := HI.out; simp only [List.length_cons] at this; omega
      case rel => exact ⟨dn ++ [(b, q)], rs, by rw [linkOf_snoc], ⟨by have h_ := HE.out; first | (simp at h_; done) | (rw [h_, List.append_assoc]; rfl)⟩, ⟨by have := HI.out; simp only [List.length_cons] at this; omega⟩, ⟨(by (with_reducible repeat (first | refine drv_drewN ?_ _ | refine drv_drew ?_)); exact HD.out)⟩, ⟨(by (with_reducible repeat (first | refine zq6 ?_ _ | refine zq8 ?_ | refine zq7 ?_ _)); exact BK.out)⟩, ⟨(by repeat (first | (with_reducible first | exact HB.out | apply zq1 | apply zqd) | exact HB.out))⟩⟩
set_option maxHeartbeats 4000000 in
set_option maxRecDepth 100000 in
theorem put_full (g : Nat) (st : Int) (sp : List Bool) (sl rg : List ByteArray) (ns : List (Nat × Pt)) (p : S54) (w : World) (hD : Drv w g st sp sl rg ns) (hst : st ≠ 1) (hn : ns.length = 40) (hp : ∀ x ∈ ns, putB x.2 = true) (sp1 : List Bool) (sl1 rg1 : List ByteArray) (hc : comeAll (ns.map (·.2)) (sp, sl, rg) = (sp1, sl1, rg1)) :
    Calls Try.prog 84 #[.pointer (some ⟨g, 0, none⟩), .agg #[.bool p.f0, .int .i64 p.f1, .string p.f2]] w fun e w' => e = .returned (.tuple #[]) ∧ (∃ n, Drv w' g st sp1 sl1 rg1 [(n, p)]) ∧ Below g w w' := by
  have hu80 := Try.underlying80
  have hu75 := Try.underlying75
  have hu54 := Try.underlying54
  have hu112 := Try.underlying112
  have HGS := Az.mk (blk_lt hD.blk)
  have HGL := Az.mk (Nat.le_of_lt (blk_lt hD.blk))
  have HLS := Az.mk hD.last_lt
  have HFL := Az.mk (fun (W : World) (h : Drv W g st sp sl rg ns) => show Calls Try.prog 78 #[.pointer (some ⟨g, 0, none⟩)] W fun e w' => e = .returned (.tuple #[]) ∧ Drv w' g st sp1 sl1 rg1 [] ∧ Below g W w' ∧ KeepBut W w' g none from by
    have := flush_calls g st sp sl rg ns W h hp
    rw [hc] at this
    exact this)
  have HD := Az.mk hD
  have HN : Az (ns.length ≤ 40) := ⟨by omega⟩
  have hst1 : (st == 1) = false := by rw [beq_eq_false_iff_ne]; exact hst
  have h40 : ((ns.length : Int) == 40) = true := by rw [beq_iff_eq]; omega
  have h41 : (ns.length == 40) = true := by rw [beq_iff_eq]; omega
  clear hD hst hn hp hc
  have HB := Az.mk (Below.refl g w)
  go_enter Try.func84, Try.ntmps84
  go_wp2_with (first | ((with_reducible refine zqg (N := 3) rfl ?_); refine zqb ?hg (N := 3) ?hd (cs := #[.bool p.f0, .int .i64 p.f1, .string p.f2]) (t := 54) ?hr ?_; (case hd => rfl); (case hg => rfl); (case hr => first | (go_simp; done) | (go_simp; rfl)); intro gp hg w1 hbox hb; have n0_ := Az.mk (hb.mono HGL.out); have n1_ := Az.mk hbox; have n2_ := Az.mk (Drv.below (g := g) (st := st) (sp := sp) (sl := sl) (rg := rg) (ns := ns) (by (with_reducible repeat (first | refine drv_drewN ?_ _ | refine drv_drew ?_)); exact HD.out) hb); have HNE : Az (lastN g ns < gp) := ⟨by rw [hg]; exact HLS.out⟩; have HGP : Az (gp ≠ g) := ⟨by have h1 := HGS.out; rw [hg]; omega⟩; clear HB HD; have HB := n0_; have BK := n1_; have HD := n2_; clear n0_ n1_ n2_ hb hbox hg; have hst_ : w1.cell? ⟨g, 0, none⟩ = some (.int .i64 st) := drv_st HD.out) | (go_at_call 90; refine (waits_calls g st sp sl rg ns _ (by (with_reducible repeat (first | refine drv_drewN ?_ _ | refine drv_drew ?_)); exact HD.out) HN.out).mono ?_; rintro e w9 ⟨v9, rfl, ho, hb⟩; obtain ⟨A9, c9, rfl⟩ := Kd.R_slice ho; simp only [List.length_map]; have nd_ := Az.mk (Drv.below (g := g) (st := st) (sp := sp) (sl := sl) (rg := rg) (ns := ns) (by (with_reducible repeat (first | refine drv_drewN ?_ _ | refine drv_drew ?_)); exact HD.out) hb); have nb_ := Az.mk (below_glue (by repeat (first | (with_reducible first | exact HB.out | apply zq1 | apply zqd) | exact HB.out)) HGL.out hb); have nk_ := Az.mk (blk_below (g := gp) (o := .cells #[.bool p.f0, .int .i64 p.f1, .string p.f2] 54 (0, 0)) (by (with_reducible repeat (first | refine zq6 ?_ _ | refine zq8 ?_ | refine zq7 ?_ _)); exact BK.out) hb); clear HB HD BK ho hb; have HB := nb_; have HD := nd_; have BK := nk_; clear nb_ nd_ nk_) | (go_at_call 78; refine (HFL.out _ (by (with_reducible repeat (first | refine drv_drewN ?_ _ | refine drv_drew ?_)); exact HD.out)).mono ?_; rintro e w10 ⟨rfl, hd, hb, hk⟩; have nb_ := Az.mk (Below.trans (by repeat (first | (with_reducible first | exact HB.out | apply zq1 | apply zqd) | exact HB.out)) hb); have nk_ := Az.mk (KeepBut.blk hk (o := .cells #[.bool p.f0, .int .i64 p.f1, .string p.f2] 54 (0, 0)) (by (with_reducible repeat (first | refine zq6 ?_ _ | refine zq8 ?_ | refine zq7 ?_ _)); exact BK.out) HGP.out (by simp)); have nd_ := Az.mk hd; clear HB HD BK hb hk hd; have HB := nb_; have BK := nk_; have HD := nd_; clear nb_ nk_ nd_))
  go_loopg [4] ([] : List (Nat × Pt)).length (fun kq v4 w' => ∃ (dn rs : List (Nat × Pt)), v4 = .pointer (some (linkOf g dn)) ∧ Az (([] : List (Nat × Pt)) = dn ++ rs) ∧ Az (rs.length = kq) ∧ Az (Drv w' g st sp1 sl1 rg1 ([] : List (Nat × Pt))) ∧ Az (w'.heap[gp]? = some (.cells #[.bool p.f0, .int .i64 p.f1, .string p.f2] 54 (0, 0))) ∧ Az (Below g w w'))
  case atStart => exact ⟨[], ([] : List (Nat × Pt)), rfl, ⟨rfl⟩, ⟨rfl⟩, ⟨(by (with_reducible repeat (first | refine drv_drewN ?_ _ | refine drv_drew ?_)); exact HD.out)⟩, ⟨(by (with_reducible repeat (first | refine zq6 ?_ _ | refine zq8 ?_ | refine zq7 ?_ _)); exact BK.out)⟩, ⟨(by repeat (first | (with_reducible first | exact HB.out | apply zq1 | apply zqd) | exact HB.out))⟩⟩
  case round =>
    clear HD BK HB
    obtain ⟨dn, rs, rfl, HE, HI, HD, BK, HB⟩ := hrel
    obtain ⟨lb, lo, hlk0⟩ : ∃ lb lo, (⟨lb, lo, none⟩ : Addr) = linkOf g dn := by cases dn <;> exact ⟨_, _, rfl⟩
    have HLK0 := Az.mk hlk0
    have hlkc : wr.cell? ⟨lb, lo, none⟩ = some (toN rs (.pointer none)) := by
      rw [hlk0]
      exact Drv.link (HE.out ▸ HD.out)
    rw [← hlk0]
    clear hlk0
    cases rs with
    | nil =>
      replace hlkc : wr.cell? ⟨lb, lo, none⟩ = some (.pointer none) := hlkc
      have hE : ([] : List (Nat × Pt)) = dn := by have h_ := HE.out; rw [List.append_nil] at h_; exact h_
      have HLK1 : Az ((⟨lb, lo, none⟩ : Addr) = linkOf g ([] : List (Nat × Pt))) := ⟨by rw [HLK0.out, hE]⟩
      have HLB : Az (g ≤ lb) := ⟨by
        have h1 := congrArg Addr.block HLK1.out
        rw [linkOf_block] at h1
        have h2 := HD.out.seg.le
        have h3 : lb = lastN g ([] : List (Nat × Pt)) := h1
        omega⟩
      clear HLK0 hE
      have HLK0 := HLK1
      have hcp_0 : wr.cell? ⟨gp, 0, none⟩ = some (.bool p.f0) := (zq4 BK.out 0).trans rfl
      have hcp_1 : wr.cell? ⟨gp, 1, none⟩ = some (.int .i64 p.f1) := (zq4 BK.out 1).trans rfl
      have hcp_2 : wr.cell? ⟨gp, 2, none⟩ = some (.string p.f2) := (zq4 BK.out 2).trans rfl
      go_wp2_with (first | ((with_reducible refine zqg (N := 32) rfl ?_); refine zqb ?hg (N := 32) ?hd (cs := #[.bool p.f0, .int .i64 p.f1, .string p.f2, .pointer none]) (t := 112) ?hr ?_; (case hd => rfl); (case hg => rfl); (case hr => first | (go_simp; done) | (go_simp; rfl)); intro gn hg w21 hbox hb; have n0_ := Az.mk (below_glue (by repeat (first | (with_reducible first | exact HB.out | apply zq1 | apply zqd) | exact HB.out)) HGL.out hb); have n2_ := Az.mk (Drv.below (g := g) (st := st) (sp := sp1) (sl := sl1) (rg := rg1) (ns := ([] : List (Nat × Pt))) (by (with_reducible repeat (first | refine drv_drewN ?_ _ | refine drv_drew ?_)); exact HD.out) hb); have HLN : Az (lastN g ([] : List (Nat × Pt)) < gn) := ⟨by rw [hg]; exact Drv.last_lt (st := st) (sp := sp1) (sl := sl1) (rg := rg1) (by (with_reducible repeat (first | refine drv_drewN ?_ _ | refine drv_drew ?_)); exact HD.out)⟩; clear HB HD; have HB := n0_; have HD := n2_; have BN : Az (Go.Proofs.Ytkgpnloghmbmlaa.Drv.Node w21 gn p (.pointer none)) := ⟨hbox⟩; clear n0_ n2_ hb hbox hg; have hlk : w21.cell? ⟨lb, lo, none⟩ = some (.pointer none) := (HLK0.out.symm ▸ HD.out.linkE); have hlf : w21.frozen? ⟨lb, lo, none⟩ = false := (HLK0.out.symm ▸ HD.out.linkFreeE)))
      go_end0
      exact ⟨rfl, ⟨gn, by rw [HLK0.out]; exact Drv.hang HD.out BN.out HLN.out⟩, HB.out.setCell (p := ⟨lb, lo, none⟩) HLB.out _⟩
    | cons x rs =>
      obtain ⟨b, q⟩ := x
      replace hlkc : wr.cell? ⟨lb, lo, none⟩ = some (.pointer (some ⟨b, 0, none⟩)) := hlkc
      go_wp2
      go_roundg (gk - 1)
      case measure => have := HI.out; simp only [List.length_cons] at this; omega
      case rel => exact ⟨dn ++ [(b, q)], rs, by rw [linkOf_snoc], ⟨by have h_ := HE.out; first | (simp at h_; done) | (rw [h_, List.append_assoc]; rfl)⟩, ⟨by have := HI.out; simp only [List.length_cons] at this; omega⟩, ⟨(by (with_reducible repeat (first | refine drv_drewN ?_ _ | refine drv_drew ?_)); exact HD.out)⟩, ⟨(by (with_reducible repeat (first | refine zq6 ?_ _ | refine zq8 ?_ | refine zq7 ?_ _)); exact BK.out)⟩, ⟨(by repeat (first | (with_reducible first | exact HB.out | apply zq1 | apply zqd) | exact HB.out))⟩⟩
end Go.Proofs.Ytkgpnloghmbmlaa.Print
namespace Go.Proofs.Ytkgpnloghmbmlaa.Print
open Go.RowKit Go.Proofs.YtkgpnloghmbmlaaW.PrintWords Go.Proofs.YtkgpnloghmbmlaaW.PrintLast Go.Proofs.YtkgpnloghmbmlaaW.PrintMore Go.Proofs.Ytkgpnloghmbmlaa.Drv
set_option linter.unusedVariables false
set_option linter.unusedSimpArgs false
def seenStep (i : Int) (t : ByteArray) (p : S54) : ByteArray := if p.f0 = false ∧ p.f1 = i then p.f2 else t
def seenF (sl : List ByteArray) (wt : List S54) (i : Nat) : ByteArray := wt.foldl (seenStep i) (sl.getD i ByteArray.empty)
set_option maxHeartbeats 4000000 in
set_option maxRecDepth 100000 in
theorem seen_calls (g : Nat) (st : Int) (sp : List Bool) (sl rg : List ByteArray) (ns : List (Nat × Pt)) (ws : List S54) (a : Nat) (w : World) (hD : Drv w g st sp sl rg ns) (hn : ns.length ≤ 40) (ha : a < 12) (hws : ns.map (·.2) = ws) :
    Calls Try.prog 53 #[.pointer (some ⟨g, 0, none⟩), .int .i64 (a : Int)] w fun e w' => e = .returned (.string (seenF sl ws a)) ∧ Below w.heap.size w w' := by
  have hu80 := Try.underlying80
  have hu54 := Try.underlying54
  have hu76 := Try.underlying76
  have HCW := Az.mk (fun (W : World) (hb : Below w.heap.size w W) => hws ▸ waits_calls g st sp sl rg ns W (hD.below hb) hn)
  have HLEN : Az (ws.length ≤ 40) := ⟨by rw [← hws, List.length_map]; exact hn⟩
  obtain ⟨tx, htx⟩ : ∃ t, t = sl.getD a ByteArray.empty := ⟨_, rfl⟩
  have hsl : w.cell? ⟨g, 13 + a, none⟩ = some (.string tx) := by rw [htx]; exact (zq4 hD.blk (13 + a)).trans (dc_sl hD.lsp hD.lsl ha)
  have hsl2 : w.cell? ((⟨g, 13, none⟩ : Addr).add a) = some (.string tx) := by rw [show (⟨g, 13, none⟩ : Addr).add a = ⟨g, 13 + a, none⟩ by (unfold Addr.add; split <;> simp_all)]; exact hsl
  have HTX := Az.mk htx
  have ha0 : (0 : Int) ≤ (a : Int) := by omega
  have ha1 : (a : Int) < 12 := by omega
  have HA := Az.mk ha
  clear hD hn hws htx ha
  replace ha0 := eq_true ha0
  replace ha1 := eq_true ha1
  have HB := Az.mk (Below.refl w.heap.size w)
  go_enter Try.func53, Try.ntmps53
  go_wp2_with (first | (go_at_call 90; refine (HCW.out _ (by repeat (first | (with_reducible first | exact HB.out | apply zq2 | apply zq1 | apply zqd) | exact HB.out))).mono ?_; rintro e w9 ⟨v9, rfl, ho, hb⟩; obtain ⟨A9, c9, rfl⟩ := Kd.R_slice ho; obtain ⟨_, hc9, hr9⟩ := Kd.R_reads' ho; have n0_ := Az.mk (below_step (by repeat (first | (with_reducible first | exact HB.out | apply zq2 | apply zq1 | apply zqd) | exact HB.out)) hb); clear HB; have HB := n0_; have HB9 := Az.mk (Below.refl w9.heap.size w9); have HR9 := Az.mk hr9; clear n0_ hb ho hc9 hr9))
  clear hsl hsl2
  go_loopg [5, 17] ws.length (fun kq v5 v17 w' => ∃ (i : Nat), v17 = .int .i64 (i : Int) ∧ v5 = .string ((ws.take i).foldl (seenStep a) tx) ∧ Az (i + kq = ws.length) ∧ Az (Below w.heap.size w w') ∧ Az (Below w9.heap.size w9 w'))
  case atStart => exact ⟨0, rfl, rfl, ⟨Nat.zero_add _⟩, ⟨(by repeat (first | (with_reducible first | exact HB.out | apply zq2 | apply zq1 | apply zqd) | exact HB.out))⟩, ⟨(by repeat (first | (with_reducible first | exact HB9.out | apply zq2 | apply zq1 | apply zqd) | exact HB9.out))⟩⟩
  case round =>
    obtain ⟨i, rfl, rfl, HI, HB, HB9⟩ := hrel
    by_cases c1 : i < ws.length
    · have c1b0 : decide ((i : Int) < (ws.length : Int)) = true := decide_eq_true (by omega)
      have p1 : (0 : Int) ≤ (i : Int) := by omega
      have q1 : (i : Int) < (ws.length : Int) := by omega
      have hm := HLEN.out
      have HWR := Az.mk (show wrap64 ((i : Int) + 1) = ((i + 1 : Nat) : Int) by unfold wrap64; omega)
      have HC1 := Az.mk c1
      clear hm
      obtain ⟨ad, e1, hx_0, hx_1, hx_2⟩ := at_T54 HR9.out (i : Int) p1 q1
      cases e1
      simp only [Int.toNat_natCast, rd_T54] at hx_0 hx_1 hx_2
      replace hx_0 := (HB9.out.cell (World.block_lt_of_cell? w9 _ hx_0)).trans hx_0
      replace hx_1 := (HB9.out.cell (World.block_lt_of_cell? w9 _ hx_1)).trans hx_1
      replace hx_2 := (HB9.out.cell (World.block_lt_of_cell? w9 _ hx_2)).trans hx_2
      replace p1 := eq_true p1
      replace q1 := eq_true q1
      clear c1
      obtain ⟨x, hE⟩ : ∃ x, x = ws.getD i z54 := ⟨_, rfl⟩
      rw [← hE] at hx_0 hx_1 hx_2
      obtain ⟨tv, htv⟩ : ∃ t, t = (ws.take i).foldl (seenStep a) tx := ⟨_, rfl⟩
      have hst : (ws.take (i + 1)).foldl (seenStep a) tx = seenStep a tv x := by
        rw [List.take_succ_eq_append_getElem HC1.out, List.foldl_append, htv, hE]
        have h1 := HC1.out
        simp [List.getD, h1]
      have hgo : x.f0 = false ∧ x.f1 = (a : Int) ∨ ¬ (x.f0 = false ∧ x.f1 = (a : Int)) := Classical.em _
      rw [← htv]
      have HST0 := Az.mk hst
      clear hst hE htv
      obtain ⟨f0, f1, f2⟩ := x
      simp only at hx_0 hx_1 hx_2
      cases f0 with
      | true =>
        have HST : Az ((ws.take (i + 1)).foldl (seenStep a) tx = tv) := ⟨by rw [HST0.out, seenStep, if_neg (fun h => by cases h.1)]⟩
        clear HST0 hgo
        go_wp2_with (first | ((with_reducible refine zqg (N := 7) rfl ?_); refine zqb ?hg (N := 7) ?hd (cs := #[.bool false, .int .i64 0, .string ⟨#[]⟩]) (t := 54) ?hr ?_; (case hd => rfl); (case hg => rfl); (case hr => first | (go_simp; done) | (go_simp; rfl)); intro gp hg w20 hbox hb; have n0_ := Az.mk (below_step (by repeat (first | (with_reducible first | exact HB.out | apply zq2 | apply zq1 | apply zqd) | exact HB.out)) hb); have n1_ := Az.mk (below_step (by repeat (first | (with_reducible first | exact HB9.out | apply zq2 | apply zq1 | apply zqd) | exact HB9.out)) hb); have HGP : Az (w.heap.size ≤ gp) := ⟨by rw [hg]; exact (below_size (by repeat (first | (with_reducible first | exact HB.out | apply zq2 | apply zq1 | apply zqd) | exact HB.out)))⟩; have HGP9 : Az (w9.heap.size ≤ gp) := ⟨by rw [hg]; exact (below_size (by repeat (first | (with_reducible first | exact HB9.out | apply zq2 | apply zq1 | apply zqd) | exact HB9.out)))⟩; clear HB HB9; have HB := n0_; have HB9 := n1_; have BP := Az.mk hbox; clear n0_ n1_ hb hbox hg; have hcp_0 : w20.cell? ⟨gp, 0, none⟩ = some (.bool false) := (zq4 BP.out 0).trans rfl; have hcp_1 : w20.cell? ⟨gp, 1, none⟩ = some (.int .i64 0) := (zq4 BP.out 1).trans rfl; have hcp_2 : w20.cell? ⟨gp, 2, none⟩ = some (.string ⟨#[]⟩) := (zq4 BP.out 2).trans rfl; have hfp_0 := zq5 BP.out 0; have hfp_1 := zq5 BP.out 1; have hfp_2 := zq5 BP.out 2))
        go_roundg (gk - 1)
        case measure => have := HI.out; have := HC1.out; omega
        case rel => exact ⟨i + 1, by rw [← HWR.out], by rw [HST.out], ⟨by have := HI.out; have := HC1.out; omega⟩, ⟨(by repeat (first | (with_reducible first | exact HB.out | apply zq2 | apply zq1 | apply zqd | refine zq3 ?_ HGP.out) | exact HB.out))⟩, ⟨(by repeat (first | (with_reducible first | exact HB9.out | apply zq2 | apply zq1 | apply zqd | refine zq3 ?_ HGP9.out) | exact HB9.out))⟩⟩
      | false =>
       by_cases h1 : f1 = (a : Int)
       · subst h1
         have HST : Az ((ws.take (i + 1)).foldl (seenStep a) tx = f2) := ⟨by rw [HST0.out, seenStep, if_pos ⟨rfl, rfl⟩]⟩
         clear HST0 hgo
         go_wp2_with (first | ((with_reducible refine zqg (N := 7) rfl ?_); refine zqb ?hg (N := 7) ?hd (cs := #[.bool false, .int .i64 0, .string ⟨#[]⟩]) (t := 54) ?hr ?_; (case hd => rfl); (case hg => rfl); (case hr => first | (go_simp; done) | (go_simp; rfl)); intro gp hg w20 hbox hb; have n0_ := Az.mk (below_step (by repeat (first | (with_reducible first | exact HB.out | apply zq2 | apply zq1 | apply zqd) | exact HB.out)) hb); have n1_ := Az.mk (below_step (by repeat (first | (with_reducible first | exact HB9.out | apply zq2 | apply zq1 | apply zqd) | exact HB9.out)) hb); have HGP : Az (w.heap.size ≤ gp) := ⟨by rw [hg]; exact (below_size (by repeat (first | (with_reducible first | exact HB.out | apply zq2 | apply zq1 | apply zqd) | exact HB.out)))⟩; have HGP9 : Az (w9.heap.size ≤ gp) := ⟨by rw [hg]; exact (below_size (by repeat (first | (with_reducible first | exact HB9.out | apply zq2 | apply zq1 | apply zqd) | exact HB9.out)))⟩; clear HB HB9; have HB := n0_; have HB9 := n1_; have BP := Az.mk hbox; clear n0_ n1_ hb hbox hg; have hcp_0 : w20.cell? ⟨gp, 0, none⟩ = some (.bool false) := (zq4 BP.out 0).trans rfl; have hcp_1 : w20.cell? ⟨gp, 1, none⟩ = some (.int .i64 0) := (zq4 BP.out 1).trans rfl; have hcp_2 : w20.cell? ⟨gp, 2, none⟩ = some (.string ⟨#[]⟩) := (zq4 BP.out 2).trans rfl; have hfp_0 := zq5 BP.out 0; have hfp_1 := zq5 BP.out 1; have hfp_2 := zq5 BP.out 2))
         go_roundg (gk - 1)
         case measure => have := HI.out; have := HC1.out; omega
         case rel => exact ⟨i + 1, by rw [← HWR.out], by rw [HST.out], ⟨by have := HI.out; have := HC1.out; omega⟩, ⟨(by repeat (first | (with_reducible first | exact HB.out | apply zq2 | apply zq1 | apply zqd | refine zq3 ?_ HGP.out) | exact HB.out))⟩, ⟨(by repeat (first | (with_reducible first | exact HB9.out | apply zq2 | apply zq1 | apply zqd | refine zq3 ?_ HGP9.out) | exact HB9.out))⟩⟩
       · have HST : Az ((ws.take (i + 1)).foldl (seenStep a) tx = tv) := ⟨by rw [HST0.out, seenStep, if_neg (fun h => h1 h.2)]⟩
         have h1b : (f1 == (a : Int)) = false := by rw [beq_eq_false_iff_ne]; exact h1
         clear HST0 hgo h1
         go_wp2_with (first | ((with_reducible refine zqg (N := 7) rfl ?_); refine zqb ?hg (N := 7) ?hd (cs := #[.bool false, .int .i64 0, .string ⟨#[]⟩]) (t := 54) ?hr ?_; (case hd => rfl); (case hg => rfl); (case hr => first | (go_simp; done) | (go_simp; rfl)); intro gp hg w20 hbox hb; have n0_ := Az.mk (below_step (by repeat (first | (with_reducible first | exact HB.out | apply zq2 | apply zq1 | apply zqd) | exact HB.out)) hb); have n1_ := Az.mk (below_step (by repeat (first | (with_reducible first | exact HB9.out | apply zq2 | apply zq1 | apply zqd) | exact HB9.out)) hb); have HGP : Az (w.heap.size ≤ gp) := ⟨by rw [hg]; exact (below_size (by repeat (first | (with_reducible first | exact HB.out | apply zq2 | apply zq1 | apply zqd) | exact HB.out)))⟩; have HGP9 : Az (w9.heap.size ≤ gp) := ⟨by rw [hg]; exact (below_size (by repeat (first | (with_reducible first | exact HB9.out | apply zq2 | apply zq1 | apply zqd) | exact HB9.out)))⟩; clear HB HB9; have HB := n0_; have HB9 := n1_; have BP := Az.mk hbox; clear n0_ n1_ hb hbox hg; have hcp_0 : w20.cell? ⟨gp, 0, none⟩ = some (.bool false) := (zq4 BP.out 0).trans rfl; have hcp_1 : w20.cell? ⟨gp, 1, none⟩ = some (.int .i64 0) := (zq4 BP.out 1).trans rfl; have hcp_2 : w20.cell? ⟨gp, 2, none⟩ = some (.string ⟨#[]⟩) := (zq4 BP.out 2).trans rfl; have hfp_0 := zq5 BP.out 0; have hfp_1 := zq5 BP.out 1; have hfp_2 := zq5 BP.out 2))
         go_roundg (gk - 1)
         case measure => have := HI.out; have := HC1.out; omega
         case rel => exact ⟨i + 1, by rw [← HWR.out], by rw [HST.out], ⟨by have := HI.out; have := HC1.out; omega⟩, ⟨(by repeat (first | (with_reducible first | exact HB.out | apply zq2 | apply zq1 | apply zqd | refine zq3 ?_ HGP.out) | exact HB.out))⟩, ⟨(by repeat (first | (with_reducible first | exact HB9.out | apply zq2 | apply zq1 | apply zqd | refine zq3 ?_ HGP9.out) | exact HB9.out))⟩⟩
    · have c1b0 : decide ((i : Int) < (ws.length : Int)) = false := decide_eq_false (by omega)
      have c1b1 : decide (i < ws.length) = false := decide_eq_false c1
      have HF : Az ((ws.take i).foldl (seenStep a) tx = seenF sl ws a) := ⟨by rw [show i = ws.length by have := HI.out; omega, List.take_length, HTX.out]; rfl⟩
      go_wp2
      go_ret
      exact ⟨by first | rfl | (rw [HF.out]; rfl) | (rw [HF.out]), (by repeat (first | (with_reducible first | exact HB.out | apply zq2 | apply zq1 | apply zqd) | exact HB.out))⟩
end Go.Proofs.Ytkgpnloghmbmlaa.Print
namespace Go.Proofs.Ytkgpnloghmbmlaa.Print
open Go.RowKit Go.Proofs.YtkgpnloghmbmlaaW.PrintWords Go.Proofs.YtkgpnloghmbmlaaW.PrintLast Go.Proofs.YtkgpnloghmbmlaaW.PrintMore Go.Proofs.Ytkgpnloghmbmlaa.Drv
set_option linter.unusedVariables false
set_option linter.unusedSimpArgs false
theorem readDisk_bad (a0_0 : Int) (A0_1 : Option Addr) (c0_1 : Nat) (l0_1 : List ByteArray) (A0_2 : Option Addr) (c0_2 : Nat) (l0_2 : List ByteArray) (A0_3 : Option Addr) (c0_3 : Nat) (l0_3 : List Bool) (A0_4 : Option Addr) (c0_4 : Nat) (l0_4 : List (S54)) (w : World) (hr0_1 : Kd.C Kd.string w A0_1 l0_1.length l0_1) (hc0_1 : l0_1.length ≤ c0_1) (hr0_2 : Kd.C Kd.string w A0_2 l0_2.length l0_2) (hc0_2 : l0_2.length ≤ c0_2) (hr0_3 : Kd.C Kd.bool w A0_3 l0_3.length l0_3) (hc0_3 : l0_3.length ≤ c0_3) (hr0_4 : Kd.C k54 w A0_4 l0_4.length l0_4) (hc0_4 : l0_4.length ≤ c0_4) (hg : ¬ Good a0_0 l0_1 l0_2 l0_3 l0_4) :
    Calls Try.prog 52 #[.agg #[.int .i64 a0_0, .slice A0_1 l0_1.length c0_1, .slice A0_2 l0_2.length c0_2, .slice A0_3 l0_3.length c0_3, .slice A0_4 l0_4.length c0_4]] w fun e w' => e = .returned (.tuple #[.pointer none, .bool false]) ∧ Below w.heap.size w w' :=
  (readDisk_calls a0_0 A0_1 c0_1 l0_1 A0_2 c0_2 l0_2 A0_3 c0_3 l0_3 A0_4 c0_4 l0_4 w hr0_1 hc0_1 hr0_2 hc0_2 hr0_3 hc0_3 hr0_4 hc0_4).mono fun e w' h => by
    rcases h with h | h
    · exact h.2
    · exact absurd h.1 hg
theorem readDisk_good (a0_0 : Int) (A0_1 : Option Addr) (c0_1 : Nat) (l0_1 : List ByteArray) (A0_2 : Option Addr) (c0_2 : Nat) (l0_2 : List ByteArray) (A0_3 : Option Addr) (c0_3 : Nat) (l0_3 : List Bool) (A0_4 : Option Addr) (c0_4 : Nat) (l0_4 : List (S54)) (w : World) (hr0_1 : Kd.C Kd.string w A0_1 l0_1.length l0_1) (hc0_1 : l0_1.length ≤ c0_1) (hr0_2 : Kd.C Kd.string w A0_2 l0_2.length l0_2) (hc0_2 : l0_2.length ≤ c0_2) (hr0_3 : Kd.C Kd.bool w A0_3 l0_3.length l0_3) (hc0_3 : l0_3.length ≤ c0_3) (hr0_4 : Kd.C k54 w A0_4 l0_4.length l0_4) (hc0_4 : l0_4.length ≤ c0_4) (hg : Good a0_0 l0_1 l0_2 l0_3 l0_4) :
    Calls Try.prog 52 #[.agg #[.int .i64 a0_0, .slice A0_1 l0_1.length c0_1, .slice A0_2 l0_2.length c0_2, .slice A0_3 l0_3.length c0_3, .slice A0_4 l0_4.length c0_4]] w fun e w' => ∃ g ns, e = .returned (.tuple #[.pointer (some ⟨g, 0, none⟩), .bool true]) ∧ Drv w' g a0_0 l0_3 l0_1 l0_2 ns ∧ ns.map (·.2) = l0_4 ∧ Below w.heap.size w w' :=
  (readDisk_calls a0_0 A0_1 c0_1 l0_1 A0_2 c0_2 l0_2 A0_3 c0_3 l0_3 A0_4 c0_4 l0_4 w hr0_1 hc0_1 hr0_2 hc0_2 hr0_3 hc0_3 hr0_4 hc0_4).mono fun e w' h => by
    rcases h with h | ⟨_, g, ns, h1, _, h3, h4, h5⟩
    · exact absurd hg h.1
    · exact ⟨g, ns, h1, h3, h4, h5⟩
def goodT (st : Int) (sl rg : List ByteArray) (sp : List Bool) (wt : List S54) : Bool :=
  decide (Shaped st sl rg sp wt) && (!(wt.any fun x => !putB x) && (((List.range 12).all fun i => !badSlot (sl.getD i ByteArray.empty) (sp.getD i false)) && (!(rg.any fun x : ByteArray => decide ((x.size : Int) > 700)) && (decide (st ≠ 1) || (sl.all (fun x => x.size == 0) && (rg.all (fun x => x.size == 0) && decide (wt.length = 0)))))))
theorem goodT_iff (st : Int) (sl rg : List ByteArray) (sp : List Bool) (wt : List S54) : goodT st sl rg sp wt = true ↔ Good st sl rg sp wt := by
  unfold goodT
  simp only [Bool.and_eq_true, Bool.or_eq_true, Bool.not_eq_true', decide_eq_true_iff, List.all_eq_true, List.mem_range]
  constructor
  · rintro ⟨h1, h2, h3, h4, h5⟩
    refine ⟨h1, h2, fun i hi => h3 i hi, h4, fun h => ?_⟩
    rcases h5 with h5 | h5
    · exact absurd h h5
    · exact ⟨List.all_eq_true.2 h5.1, List.all_eq_true.2 h5.2.1, h5.2.2⟩
  · intro h
    refine ⟨h.sh, h.wa, fun i hi => h.so i hi, h.ro, ?_⟩
    by_cases e : st = 1
    · exact Or.inr ⟨List.all_eq_true.1 (h.go e).1, List.all_eq_true.1 (h.go e).2.1, (h.go e).2.2⟩
    · exact Or.inl e
instance (st : Int) (sl rg : List ByteArray) (sp : List Bool) (wt : List S54) : Decidable (Good st sl rg sp wt) := decidable_of_iff _ (goodT_iff st sl rg sp wt)
def goodB (a0_0 : Int) (l0_1 l0_2 : List ByteArray) (l0_3 : List Bool) (l0_4 : List S54) : Bool := decide (Good a0_0 l0_1 l0_2 l0_3 l0_4)
def impl_DiskOk.f (a0_0 : Int) (l0_1 l0_2 : List ByteArray) (l0_3 : List Bool) (l0_4 : List S54) : Option Bool := some (goodB a0_0 l0_1 l0_2 l0_3 l0_4)
set_option maxHeartbeats 4000000 in
set_option maxRecDepth 100000 in
theorem impl_DiskOk.calls (a0_0 : Int) (A0_1 : Option Addr) (c0_1 : Nat) (l0_1 : List ByteArray) (A0_2 : Option Addr) (c0_2 : Nat) (l0_2 : List ByteArray) (A0_3 : Option Addr) (c0_3 : Nat) (l0_3 : List Bool) (A0_4 : Option Addr) (c0_4 : Nat) (l0_4 : List (S54)) (r : Bool) (w : World) (hr0_1 : Kd.C Kd.string w A0_1 l0_1.length l0_1) (hc0_1 : l0_1.length ≤ c0_1) (hr0_2 : Kd.C Kd.string w A0_2 l0_2.length l0_2) (hc0_2 : l0_2.length ≤ c0_2) (hr0_3 : Kd.C Kd.bool w A0_3 l0_3.length l0_3) (hc0_3 : l0_3.length ≤ c0_3) (hr0_4 : Kd.C k54 w A0_4 l0_4.length l0_4) (hc0_4 : l0_4.length ≤ c0_4) (h : impl_DiskOk.f a0_0 l0_1 l0_2 l0_3 l0_4 = some r) :
    Calls Try.prog 21 #[.agg #[.int .i64 a0_0, .slice A0_1 l0_1.length c0_1, .slice A0_2 l0_2.length c0_2, .slice A0_3 l0_3.length c0_3, .slice A0_4 l0_4.length c0_4]] w fun e w' => e = .returned (.bool r) ∧ Below w.heap.size w w' := by
  have hu28 := Try.underlying28
  by_cases hg : Good a0_0 l0_1 l0_2 l0_3 l0_4
  · obtain rfl : true = r := by simpa [impl_DiskOk.f, goodB, hg] using h
    have HGD := Az.mk (fun (W : World) (hb : Below w.heap.size w W) => readDisk_good a0_0 A0_1 c0_1 l0_1 A0_2 c0_2 l0_2 A0_3 c0_3 l0_3 A0_4 c0_4 l0_4 W (Kd.C_below hr0_1 hb) hc0_1 (Kd.C_below hr0_2 hb) hc0_2 (Kd.C_below hr0_3 hb) hc0_3 (Kd.C_below hr0_4 hb) hc0_4 hg)
    have HB := Az.mk (Below.refl w.heap.size w)
    clear hr0_1 hc0_1 hr0_2 hc0_2 hr0_3 hc0_3 hr0_4 hc0_4 h hg
    go_enter Try.func21, Try.ntmps21
    go_wp2_with (first | ((with_reducible refine zqg (N := 1) rfl ?_); refine zqb ?hg (N := 1) ?hd (cs := #[.int .i64 a0_0, .slice A0_1 l0_1.length c0_1, .slice A0_2 l0_2.length c0_2, .slice A0_3 l0_3.length c0_3, .slice A0_4 l0_4.length c0_4]) (t := 28) ?hr ?_; (case hd => rfl); (case hg => rfl); (case hr => first | (go_simp; done) | (go_simp; rfl)); intro gb hg w1 hbox hb; have n0_ := Az.mk (below_step (by repeat (first | (with_reducible first | exact HB.out | apply zq2 | apply zq1 | apply zqd) | exact HB.out)) hb); have n1_ := Az.mk hbox; clear HB; have HB := n0_; have BK := n1_; clear n0_ n1_ hb hbox hg; have hcz_0 : w1.cell? ⟨gb, 0, none⟩ = some (.int .i64 a0_0) := (zq4 BK.out 0).trans rfl; have hcz_1 : w1.cell? ⟨gb, 1, none⟩ = some (.slice A0_1 l0_1.length c0_1) := (zq4 BK.out 1).trans rfl; have hcz_2 : w1.cell? ⟨gb, 2, none⟩ = some (.slice A0_2 l0_2.length c0_2) := (zq4 BK.out 2).trans rfl; have hcz_3 : w1.cell? ⟨gb, 3, none⟩ = some (.slice A0_3 l0_3.length c0_3) := (zq4 BK.out 3).trans rfl; have hcz_4 : w1.cell? ⟨gb, 4, none⟩ = some (.slice A0_4 l0_4.length c0_4) := (zq4 BK.out 4).trans rfl) | (go_at_call 52; refine (HGD.out _ (by repeat (first | (with_reducible first | exact HB.out | apply zq2 | apply zq1 | apply zqd) | exact HB.out))).mono ?_; rintro e w9 ⟨gd, ns, rfl, hd, hns, hb⟩; have n0_ := Az.mk (below_step (by repeat (first | (with_reducible first | exact HB.out | apply zq2 | apply zq1 | apply zqd) | exact HB.out)) hb); have HD := Az.mk hd; have HNS := Az.mk hns; clear HB; have HB := n0_; clear n0_ hb hd hns))
    go_ret
    exact ⟨rfl, (by repeat (first | (with_reducible first | exact HB.out | apply zq2 | apply zq1 | apply zqd) | exact HB.out))⟩
  · obtain rfl : false = r := by simpa [impl_DiskOk.f, goodB, hg] using h
    have HBAD := Az.mk (fun (W : World) (hb : Below w.heap.size w W) => readDisk_bad a0_0 A0_1 c0_1 l0_1 A0_2 c0_2 l0_2 A0_3 c0_3 l0_3 A0_4 c0_4 l0_4 W (Kd.C_below hr0_1 hb) hc0_1 (Kd.C_below hr0_2 hb) hc0_2 (Kd.C_below hr0_3 hb) hc0_3 (Kd.C_below hr0_4 hb) hc0_4 hg)
    have HB := Az.mk (Below.refl w.heap.size w)
    clear hr0_1 hc0_1 hr0_2 hc0_2 hr0_3 hc0_3 hr0_4 hc0_4 h hg
    go_enter Try.func21, Try.ntmps21
    go_wp2_with (first | ((with_reducible refine zqg (N := 1) rfl ?_); refine zqb ?hg (N := 1) ?hd (cs := #[.int .i64 a0_0, .slice A0_1 l0_1.length c0_1, .slice A0_2 l0_2.length c0_2, .slice A0_3 l0_3.length c0_3, .slice A0_4 l0_4.length c0_4]) (t := 28) ?hr ?_; (case hd => rfl); (case hg => rfl); (case hr => first | (go_simp; done) | (go_simp; rfl)); intro gb hg w1 hbox hb; have n0_ := Az.mk (below_step (by repeat (first | (with_reducible first | exact HB.out | apply zq2 | apply zq1 | apply zqd) | exact HB.out)) hb); have n1_ := Az.mk hbox; clear HB; have HB := n0_; have BK := n1_; clear n0_ n1_ hb hbox hg; have hcz_0 : w1.cell? ⟨gb, 0, none⟩ = some (.int .i64 a0_0) := (zq4 BK.out 0).trans rfl; have hcz_1 : w1.cell? ⟨gb, 1, none⟩ = some (.slice A0_1 l0_1.length c0_1) := (zq4 BK.out 1).trans rfl; have hcz_2 : w1.cell? ⟨gb, 2, none⟩ = some (.slice A0_2 l0_2.length c0_2) := (zq4 BK.out 2).trans rfl; have hcz_3 : w1.cell? ⟨gb, 3, none⟩ = some (.slice A0_3 l0_3.length c0_3) := (zq4 BK.out 3).trans rfl; have hcz_4 : w1.cell? ⟨gb, 4, none⟩ = some (.slice A0_4 l0_4.length c0_4) := (zq4 BK.out 4).trans rfl) | (go_at_call 52; refine (HBAD.out _ (by repeat (first | (with_reducible first | exact HB.out | apply zq2 | apply zq1 | apply zqd) | exact HB.out))).mono ?_; rintro e w9 ⟨rfl, hb⟩; have n0_ := Az.mk (below_step (by repeat (first | (with_reducible first | exact HB.out | apply zq2 | apply zq1 | apply zqd) | exact HB.out)) hb); clear HB; have HB := n0_; clear n0_ hb))
    go_ret
    exact ⟨rfl, (by repeat (first | (with_reducible first | exact HB.out | apply zq2 | apply zq1 | apply zqd) | exact HB.out))⟩
end Go.Proofs.Ytkgpnloghmbmlaa.Print
namespace Go.Proofs.Ytkgpnloghmbmlaa.Print
open Go.RowKit Go.Proofs.YtkgpnloghmbmlaaW.PrintWords Go.Proofs.YtkgpnloghmbmlaaW.PrintLast Go.Proofs.YtkgpnloghmbmlaaW.PrintMore Go.Proofs.Ytkgpnloghmbmlaa.Drv
set_option linter.unusedVariables false
set_option linter.unusedSimpArgs false
set_option maxHeartbeats 4000000 in
set_option maxRecDepth 100000 in
theorem changed_bad (a0_0 : Int) (A0_1 : Option Addr) (c0_1 : Nat) (l0_1 : List ByteArray) (A0_2 : Option Addr) (c0_2 : Nat) (l0_2 : List ByteArray) (A0_3 : Option Addr) (c0_3 : Nat) (l0_3 : List Bool) (A0_4 : Option Addr) (c0_4 : Nat) (l0_4 : List (S54)) (fv : Value) (w : World) (hr0_1 : Kd.C Kd.string w A0_1 l0_1.length l0_1) (hc0_1 : l0_1.length ≤ c0_1) (hr0_2 : Kd.C Kd.string w A0_2 l0_2.length l0_2) (hc0_2 : l0_2.length ≤ c0_2) (hr0_3 : Kd.C Kd.bool w A0_3 l0_3.length l0_3) (hc0_3 : l0_3.length ≤ c0_3) (hr0_4 : Kd.C k54 w A0_4 l0_4.length l0_4) (hc0_4 : l0_4.length ≤ c0_4) (hg : ¬ Good a0_0 l0_1 l0_2 l0_3 l0_4) :
    Calls Try.prog 76 #[.agg #[.int .i64 a0_0, .slice A0_1 l0_1.length c0_1, .slice A0_2 l0_2.length c0_2, .slice A0_3 l0_3.length c0_3, .slice A0_4 l0_4.length c0_4], fv] w fun e w' => ∃ v1_ v2_ v3_ v4_ : Value, e = .returned (.agg #[.int .i64 0, v1_, v2_, v3_, v4_]) ∧ Kd.R Kd.string 9 w' w.heap.size (fun k_ => some k_ ≠ (v2_ : Value).ownBlock) v1_ ([] : List ByteArray) ∧ Kd.R Kd.string 9 w' w.heap.size (fun k_ => some k_ ≠ (v1_ : Value).ownBlock) v2_ ([] : List ByteArray) ∧ Kd.R Kd.bool 4 w' w.heap.size (fun _ => True) v3_ ([] : List Bool) ∧ Kd.R k54 54 w' w.heap.size (fun _ => True) v4_ ([] : List S54) ∧ Below w.heap.size w w' := by
  have hu28 := Try.underlying28
  have HBAD := Az.mk (fun (W : World) (hb : Below w.heap.size w W) => readDisk_bad a0_0 A0_1 c0_1 l0_1 A0_2 c0_2 l0_2 A0_3 c0_3 l0_3 A0_4 c0_4 l0_4 W (Kd.C_below hr0_1 hb) hc0_1 (Kd.C_below hr0_2 hb) hc0_2 (Kd.C_below hr0_3 hb) hc0_3 (Kd.C_below hr0_4 hb) hc0_4 hg)
  have HB := Az.mk (Below.refl w.heap.size w)
  clear hr0_1 hc0_1 hr0_2 hc0_2 hr0_3 hc0_3 hr0_4 hc0_4 hg
  go_enter Try.func76, Try.ntmps76
  go_wp2_with (first | ((with_reducible refine zqg (N := 2) rfl ?_); refine zqb ?hg (N := 2) ?hd (cs := #[.int .i64 a0_0, .slice A0_1 l0_1.length c0_1, .slice A0_2 l0_2.length c0_2, .slice A0_3 l0_3.length c0_3, .slice A0_4 l0_4.length c0_4]) (t := 28) ?hr ?_; (case hd => rfl); (case hg => rfl); (case hr => first | (go_simp; done) | (go_simp; rfl)); intro gb hg w1 hbox hb; have n0_ := Az.mk (below_step (by repeat (first | (with_reducible first | exact HB.out | apply zq2 | apply zq1 | apply zqd) | exact HB.out)) hb); have BD := Az.mk hbox; clear HB; have HB := n0_; clear n0_ hb hbox hg; have hcd_0 : w1.cell? ⟨gb, 0, none⟩ = some (.int .i64 a0_0) := (zq4 BD.out 0).trans rfl; have hcd_1 : w1.cell? ⟨gb, 1, none⟩ = some (.slice A0_1 l0_1.length c0_1) := (zq4 BD.out 1).trans rfl; have hcd_2 : w1.cell? ⟨gb, 2, none⟩ = some (.slice A0_2 l0_2.length c0_2) := (zq4 BD.out 2).trans rfl; have hcd_3 : w1.cell? ⟨gb, 3, none⟩ = some (.slice A0_3 l0_3.length c0_3) := (zq4 BD.out 3).trans rfl; have hcd_4 : w1.cell? ⟨gb, 4, none⟩ = some (.slice A0_4 l0_4.length c0_4) := (zq4 BD.out 4).trans rfl) | ((with_reducible refine zqg (N := 4) rfl ?_); refine zqb ?hg (N := 4) ?hd (cs := #[.int .i64 0, .slice none 0 0, .slice none 0 0, .slice none 0 0, .slice none 0 0]) (t := 28) ?hr ?_; (case hd => rfl); (case hg => rfl); (case hr => first | (go_simp; done) | (go_simp; rfl)); intro gr hg w2 hbox hb; have n0_ := Az.mk (below_step (by repeat (first | (with_reducible first | exact HB.out | apply zq2 | apply zq1 | apply zqd) | exact HB.out)) hb); have BK := Az.mk hbox; have HGR : Az (w.heap.size ≤ gr) := ⟨by rw [hg]; exact (below_size (by repeat (first | (with_reducible first | exact HB.out | apply zq2 | apply zq1 | apply zqd) | exact HB.out)))⟩; have nd_ := Az.mk (blk_below (g := gb) (o := .cells #[.int .i64 a0_0, .slice A0_1 l0_1.length c0_1, .slice A0_2 l0_2.length c0_2, .slice A0_3 l0_3.length c0_3, .slice A0_4 l0_4.length c0_4] 28 (0, 0)) (by (with_reducible repeat (first | refine zq6 ?_ _ | refine zq8 ?_ | refine zq7 ?_ _)); exact BD.out) hb); clear HB BD; have HB := n0_; have BD := nd_; clear n0_ nd_ hb hbox hg; have hcd_0 : w2.cell? ⟨gb, 0, none⟩ = some (.int .i64 a0_0) := (zq4 BD.out 0).trans rfl; have hcd_1 : w2.cell? ⟨gb, 1, none⟩ = some (.slice A0_1 l0_1.length c0_1) := (zq4 BD.out 1).trans rfl; have hcd_2 : w2.cell? ⟨gb, 2, none⟩ = some (.slice A0_2 l0_2.length c0_2) := (zq4 BD.out 2).trans rfl; have hcd_3 : w2.cell? ⟨gb, 3, none⟩ = some (.slice A0_3 l0_3.length c0_3) := (zq4 BD.out 3).trans rfl; have hcd_4 : w2.cell? ⟨gb, 4, none⟩ = some (.slice A0_4 l0_4.length c0_4) := (zq4 BD.out 4).trans rfl) | (go_at_call 52; refine (HBAD.out _ (by repeat (first | (with_reducible first | exact HB.out | apply zq2 | apply zq1 | apply zqd) | exact HB.out))).mono ?_; rintro e w9 ⟨rfl, hb⟩; have n0_ := Az.mk (below_step (by repeat (first | (with_reducible first | exact HB.out | apply zq2 | apply zq1 | apply zqd) | exact HB.out)) hb); have nk_ := Az.mk (blk_below (g := gr) (o := .cells #[.int .i64 0, .slice none 0 0, .slice none 0 0, .slice none 0 0, .slice none 0 0] 28 (0, 0)) (by (with_reducible repeat (first | refine zq6 ?_ _ | refine zq8 ?_ | refine zq7 ?_ _)); exact BK.out) hb); clear HB BK; have HB := n0_; have BK := nk_; clear n0_ nk_ hb; have hcz_0 : w9.cell? ⟨gr, 0, none⟩ = some (.int .i64 0) := (zq4 BK.out 0).trans rfl; have hcz_1 : w9.cell? ⟨gr, 1, none⟩ = some (.slice none 0 0) := (zq4 BK.out 1).trans rfl; have hcz_2 : w9.cell? ⟨gr, 2, none⟩ = some (.slice none 0 0) := (zq4 BK.out 2).trans rfl; have hcz_3 : w9.cell? ⟨gr, 3, none⟩ = some (.slice none 0 0) := (zq4 BK.out 3).trans rfl; have hcz_4 : w9.cell? ⟨gr, 4, none⟩ = some (.slice none 0 0) := (zq4 BK.out 4).trans rfl; have hfz_0 := zq5 BK.out 0; have hfz_1 := zq5 BK.out 1; have hfz_2 := zq5 BK.out 2; have hfz_3 := zq5 BK.out 3; have hfz_4 := zq5 BK.out 4))
  have hset : ∀ {W : World} (h : Below w.heap.size w W) (j : Nat) (u : Value), Below w.heap.size w (W.setCell ⟨gr, j, none⟩ u) := fun h j u => zq3 h HGR.out
  refine bodyPost_ret (results_cell_row rfl _ _ gr 28 #[.int .i64 0, .slice none 0 0, .slice none 0 0, .slice none 0 0, .slice none 0 0] (0, 0) _ rfl (by
    refine blk_put (cs := #[.int .i64 0, .slice none 0 0, .slice none 0 0, .slice none 0 0, .slice none 0 0]) ?_ 4 _ rfl
    refine blk_put (cs := #[.int .i64 0, .slice none 0 0, .slice none 0 0, .slice none 0 0, .slice none 0 0]) ?_ 3 _ rfl
    refine blk_put (cs := #[.int .i64 0, .slice none 0 0, .slice none 0 0, .slice none 0 0, .slice none 0 0]) ?_ 2 _ rfl
    refine blk_put (cs := #[.int .i64 0, .slice none 0 0, .slice none 0 0, .slice none 0 0, .slice none 0 0]) ?_ 1 _ rfl
    refine blk_put (cs := #[.int .i64 0, .slice none 0 0, .slice none 0 0, .slice none 0 0, .slice none 0 0]) ?_ 0 _ rfl
    exact BK.out) Try.underlying28 rfl (by kernel_rfl)) rfl ?_
  exact ⟨_, _, _, _, rfl, Kd.R_nil _ _ _ _ _, Kd.R_nil _ _ _ _ _, Kd.R_nil _ _ _ _ _, Kd.R_nil _ _ _ _ _, hset (hset (hset (hset (hset HB.out 0 _) 1 _) 2 _) 3 _) 4 _⟩
theorem readDisk_good2 (a0_0 : Int) (A0_1 : Option Addr) (c0_1 : Nat) (l0_1 : List ByteArray) (A0_2 : Option Addr) (c0_2 : Nat) (l0_2 : List ByteArray) (A0_3 : Option Addr) (c0_3 : Nat) (l0_3 : List Bool) (A0_4 : Option Addr) (c0_4 : Nat) (l0_4 : List (S54)) (w : World) (hr0_1 : Kd.C Kd.string w A0_1 l0_1.length l0_1) (hc0_1 : l0_1.length ≤ c0_1) (hr0_2 : Kd.C Kd.string w A0_2 l0_2.length l0_2) (hc0_2 : l0_2.length ≤ c0_2) (hr0_3 : Kd.C Kd.bool w A0_3 l0_3.length l0_3) (hc0_3 : l0_3.length ≤ c0_3) (hr0_4 : Kd.C k54 w A0_4 l0_4.length l0_4) (hc0_4 : l0_4.length ≤ c0_4) (hg : Good a0_0 l0_1 l0_2 l0_3 l0_4) :
    Calls Try.prog 52 #[.agg #[.int .i64 a0_0, .slice A0_1 l0_1.length c0_1, .slice A0_2 l0_2.length c0_2, .slice A0_3 l0_3.length c0_3, .slice A0_4 l0_4.length c0_4]] w fun e w' => ∃ g ns, e = .returned (.tuple #[.pointer (some ⟨g, 0, none⟩), .bool true]) ∧ w.heap.size ≤ g ∧ Drv w' g a0_0 l0_3 l0_1 l0_2 ns ∧ ns.map (·.2) = l0_4 ∧ Below w.heap.size w w' :=
  (readDisk_calls a0_0 A0_1 c0_1 l0_1 A0_2 c0_2 l0_2 A0_3 c0_3 l0_3 A0_4 c0_4 l0_4 w hr0_1 hc0_1 hr0_2 hc0_2 hr0_3 hc0_3 hr0_4 hc0_4).mono fun e w' h => by
    rcases h with h | ⟨_, g, ns, h1, h2, h3, h4, h5⟩
    · exact absurd hg h.1
    · exact ⟨g, ns, h1, h2, h3, h4, h5⟩
set_option maxHeartbeats 4000000 in
set_option maxRecDepth 100000 in
theorem changed_put (a0_0 : Int) (A0_1 : Option Addr) (c0_1 : Nat) (l0_1 : List ByteArray) (A0_2 : Option Addr) (c0_2 : Nat) (l0_2 : List ByteArray) (A0_3 : Option Addr) (c0_3 : Nat) (l0_3 : List Bool) (A0_4 : Option Addr) (c0_4 : Nat) (l0_4 : List (S54)) (cp : Value) (w : World) (hr0_1 : Kd.C Kd.string w A0_1 l0_1.length l0_1) (hc0_1 : l0_1.length ≤ c0_1) (hr0_2 : Kd.C Kd.string w A0_2 l0_2.length l0_2) (hc0_2 : l0_2.length ≤ c0_2) (hr0_3 : Kd.C Kd.bool w A0_3 l0_3.length l0_3) (hc0_3 : l0_3.length ≤ c0_3) (hr0_4 : Kd.C k54 w A0_4 l0_4.length l0_4) (hc0_4 : l0_4.length ≤ c0_4) (hg : Good a0_0 l0_1 l0_2 l0_3 l0_4) (sp2 : List Bool) (sl2 rg2 : List ByteArray) (ws2 : List S54) (hlen : ws2.length ≤ 40)
    (hcl : ∀ (W : World), Below w.heap.size w W → ∀ (g : Nat) (ns : List (Nat × Pt)), Drv W g a0_0 l0_3 l0_1 l0_2 ns → ns.map (·.2) = l0_4 → w.heap.size ≤ g → Calls Try.prog 82 #[.pointer (some ⟨g, 0, none⟩), cp] W fun e w' => ∃ ns2, e = .returned (.bool true) ∧ Drv w' g a0_0 sp2 sl2 rg2 ns2 ∧ ns2.map (·.2) = ws2 ∧ Below g W w') :
    Calls Try.prog 76 #[.agg #[.int .i64 a0_0, .slice A0_1 l0_1.length c0_1, .slice A0_2 l0_2.length c0_2, .slice A0_3 l0_3.length c0_3, .slice A0_4 l0_4.length c0_4], .func (.func 82) #[] #[cp]] w fun e w' => ∃ v1_ v2_ v3_ v4_ : Value, e = .returned (.agg #[.int .i64 a0_0, v1_, v2_, v3_, v4_]) ∧ Kd.R Kd.string 9 w' w.heap.size (fun k_ => some k_ ≠ (v2_ : Value).ownBlock) v1_ sl2 ∧ Kd.R Kd.string 9 w' w.heap.size (fun k_ => some k_ ≠ (v1_ : Value).ownBlock) v2_ rg2 ∧ Kd.R Kd.bool 4 w' w.heap.size (fun _ => True) v3_ sp2 ∧ Kd.R k54 54 w' w.heap.size (fun _ => True) v4_ ws2 ∧ Below w.heap.size w w' := by
  have hu28 := Try.underlying28
  have HGD := Az.mk (fun (W : World) (hb : Below w.heap.size w W) => readDisk_good2 a0_0 A0_1 c0_1 l0_1 A0_2 c0_2 l0_2 A0_3 c0_3 l0_3 A0_4 c0_4 l0_4 W (Kd.C_below hr0_1 hb) hc0_1 (Kd.C_below hr0_2 hb) hc0_2 (Kd.C_below hr0_3 hb) hc0_3 (Kd.C_below hr0_4 hb) hc0_4 hg)
  have HCL := Az.mk hcl
  have HLEN := Az.mk hlen
  have HB := Az.mk (Below.refl w.heap.size w)
  clear hr0_1 hc0_1 hr0_2 hc0_2 hr0_3 hc0_3 hr0_4 hc0_4 hg hcl hlen
  go_enter Try.func76, Try.ntmps76
  go_wp2_with (first | ((with_reducible refine zqg (N := 2) rfl ?_); refine zqb ?hg (N := 2) ?hd (cs := #[.int .i64 a0_0, .slice A0_1 l0_1.length c0_1, .slice A0_2 l0_2.length c0_2, .slice A0_3 l0_3.length c0_3, .slice A0_4 l0_4.length c0_4]) (t := 28) ?hr ?_; (case hd => rfl); (case hg => rfl); (case hr => first | (go_simp; done) | (go_simp; rfl)); intro gb hg w1 hbox hb; have n0_ := Az.mk (below_step (by repeat (first | (with_reducible first | exact HB.out | apply zq2 | apply zq1 | apply zqd) | exact HB.out)) hb); have BD := Az.mk hbox; clear HB; have HB := n0_; clear n0_ hb hbox hg; have hcd_0 : w1.cell? ⟨gb, 0, none⟩ = some (.int .i64 a0_0) := (zq4 BD.out 0).trans rfl; have hcd_1 : w1.cell? ⟨gb, 1, none⟩ = some (.slice A0_1 l0_1.length c0_1) := (zq4 BD.out 1).trans rfl; have hcd_2 : w1.cell? ⟨gb, 2, none⟩ = some (.slice A0_2 l0_2.length c0_2) := (zq4 BD.out 2).trans rfl; have hcd_3 : w1.cell? ⟨gb, 3, none⟩ = some (.slice A0_3 l0_3.length c0_3) := (zq4 BD.out 3).trans rfl; have hcd_4 : w1.cell? ⟨gb, 4, none⟩ = some (.slice A0_4 l0_4.length c0_4) := (zq4 BD.out 4).trans rfl) | ((with_reducible refine zqg (N := 4) rfl ?_); refine zqb ?hg (N := 4) ?hd (cs := #[.int .i64 0, .slice none 0 0, .slice none 0 0, .slice none 0 0, .slice none 0 0]) (t := 28) ?hr ?_; (case hd => rfl); (case hg => rfl); (case hr => first | (go_simp; done) | (go_simp; rfl)); intro gr hg w2 hbox hb; have n0_ := Az.mk (below_step (by repeat (first | (with_reducible first | exact HB.out | apply zq2 | apply zq1 | apply zqd) | exact HB.out)) hb); have BK := Az.mk hbox; have HGR : Az (w.heap.size ≤ gr) := ⟨by rw [hg]; exact (below_size (by repeat (first | (with_reducible first | exact HB.out | apply zq2 | apply zq1 | apply zqd) | exact HB.out)))⟩; have nd_ := Az.mk (blk_below (g := gb) (o := .cells #[.int .i64 a0_0, .slice A0_1 l0_1.length c0_1, .slice A0_2 l0_2.length c0_2, .slice A0_3 l0_3.length c0_3, .slice A0_4 l0_4.length c0_4] 28 (0, 0)) (by (with_reducible repeat (first | refine zq6 ?_ _ | refine zq8 ?_ | refine zq7 ?_ _)); exact BD.out) hb); clear HB BD; have HB := n0_; have BD := nd_; clear n0_ nd_ hb hbox hg; have hcd_0 : w2.cell? ⟨gb, 0, none⟩ = some (.int .i64 a0_0) := (zq4 BD.out 0).trans rfl; have hcd_1 : w2.cell? ⟨gb, 1, none⟩ = some (.slice A0_1 l0_1.length c0_1) := (zq4 BD.out 1).trans rfl; have hcd_2 : w2.cell? ⟨gb, 2, none⟩ = some (.slice A0_2 l0_2.length c0_2) := (zq4 BD.out 2).trans rfl; have hcd_3 : w2.cell? ⟨gb, 3, none⟩ = some (.slice A0_3 l0_3.length c0_3) := (zq4 BD.out 3).trans rfl; have hcd_4 : w2.cell? ⟨gb, 4, none⟩ = some (.slice A0_4 l0_4.length c0_4) := (zq4 BD.out 4).trans rfl) | (go_at_call 52; refine (HGD.out _ (by repeat (first | (with_reducible first | exact HB.out | apply zq2 | apply zq1 | apply zqd) | exact HB.out))).mono ?_; rintro e w9 ⟨gd, ns, rfl, hgd, hd, hns, hb⟩; have n0_ := Az.mk (below_step (by repeat (first | (with_reducible first | exact HB.out | apply zq2 | apply zq1 | apply zqd) | exact HB.out)) hb); have nk_ := Az.mk (blk_below (g := gr) (o := .cells #[.int .i64 0, .slice none 0 0, .slice none 0 0, .slice none 0 0, .slice none 0 0] 28 (0, 0)) (by (with_reducible repeat (first | refine zq6 ?_ _ | refine zq8 ?_ | refine zq7 ?_ _)); exact BK.out) hb); have HRD : Az (gr < gd) := ⟨Nat.lt_of_lt_of_le (blk_lt (by (with_reducible repeat (first | refine zq6 ?_ _ | refine zq8 ?_ | refine zq7 ?_ _)); exact BK.out)) hgd⟩; have HWD : Az (w.heap.size ≤ gd) := ⟨Nat.le_trans (below_size (by repeat (first | (with_reducible first | exact HB.out | apply zq2 | apply zq1 | apply zqd) | exact HB.out))) hgd⟩; have HD := Az.mk hd; have HNS := Az.mk hns; clear HB BK; have HB := n0_; have BK := nk_; clear n0_ nk_ hb hd hns hgd) | (go_at_call 82; refine (HCL.out _ (by repeat (first | (with_reducible first | exact HB.out | apply zq2 | apply zq1 | apply zqd) | exact HB.out)) gd ns (by (with_reducible repeat (first | refine drv_drewN ?_ _ | refine drv_drew ?_)); exact HD.out) HNS.out HWD.out).mono ?_; rintro e w10 ⟨ns2, rfl, hd, hns2_, hb⟩; have hns := hns2_; clear hns2_; have hwg := HGR.out; have n0_ := Az.mk (Below.trans (by repeat (first | (with_reducible first | exact HB.out | apply zq2 | apply zq1 | apply zqd) | exact HB.out)) (hb.mono (by have h1 := HGR.out; have h2 := HRD.out; omega))); have nk_ : Az (w10.heap[gr]? = some (.cells #[.int .i64 0, .slice none 0 0, .slice none 0 0, .slice none 0 0, .slice none 0 0] 28 (0, 0))) := ⟨(hb.block gr HRD.out).trans (by (with_reducible repeat (first | refine zq6 ?_ _ | refine zq8 ?_ | refine zq7 ?_ _)); exact BK.out)⟩; have nd_ := Az.mk hd; have HNS2 := Az.mk hns; clear HB BK HD HNS; have HB := n0_; have BK := nk_; have HD := nd_; clear n0_ nk_ nd_ hd hns hb hwg) | (go_at_call 50; refine (disk_calls gd a0_0 sp2 sl2 rg2 ns2 _ (by (with_reducible repeat (first | refine drv_drewN ?_ _ | refine drv_drew ?_)); exact HD.out) (by have h1 := HLEN.out; have h2 := congrArg List.length HNS2.out; rw [List.length_map] at h2; omega)).mono ?_; rintro e w12 ⟨v1, v2, v3, v4, rfl, ho1, ho2, ho3, ho4, hb⟩; rw [HNS2.out] at ho4; obtain ⟨A1, c1, rfl⟩ := Kd.R_slice ho1; obtain ⟨A2, c2, rfl⟩ := Kd.R_slice ho2; obtain ⟨A3, c3, rfl⟩ := Kd.R_slice ho3; obtain ⟨A4, c4, rfl⟩ := Kd.R_slice ho4; have n0_ := Az.mk (below_step (by repeat (first | (with_reducible first | exact HB.out | apply zq2 | apply zq1 | apply zqd) | exact HB.out)) hb); have n1_ := Az.mk (blk_below (g := gr) (o := .cells #[.int .i64 0, .slice none 0 0, .slice none 0 0, .slice none 0 0, .slice none 0 0] 28 (0, 0)) (by (with_reducible repeat (first | refine zq6 ?_ _ | refine zq8 ?_ | refine zq7 ?_ _)); exact BK.out) hb); have HG5 : Az (gr < _) := ⟨blk_lt (by (with_reducible repeat (first | refine zq6 ?_ _ | refine zq8 ?_ | refine zq7 ?_ _)); exact BK.out)⟩; have HS5 : Az (w.heap.size ≤ _) := ⟨below_size (by repeat (first | (with_reducible first | exact HB.out | apply zq2 | apply zq1 | apply zqd) | exact HB.out))⟩; have HO1 := Az.mk ho1; have HO2 := Az.mk ho2; have HO3 := Az.mk ho3; have HO4 := Az.mk ho4; clear HB BK; have HB := n0_; have BK := n1_; clear n0_ n1_ ho1 ho2 ho3 ho4 hb; have hcz_0 : w12.cell? ⟨gr, 0, none⟩ = some (.int .i64 0) := (zq4 BK.out 0).trans rfl; have hcz_1 : w12.cell? ⟨gr, 1, none⟩ = some (.slice none 0 0) := (zq4 BK.out 1).trans rfl; have hcz_2 : w12.cell? ⟨gr, 2, none⟩ = some (.slice none 0 0) := (zq4 BK.out 2).trans rfl; have hcz_3 : w12.cell? ⟨gr, 3, none⟩ = some (.slice none 0 0) := (zq4 BK.out 3).trans rfl; have hcz_4 : w12.cell? ⟨gr, 4, none⟩ = some (.slice none 0 0) := (zq4 BK.out 4).trans rfl; have hfz_0 := zq5 BK.out 0; have hfz_1 := zq5 BK.out 1; have hfz_2 := zq5 BK.out 2; have hfz_3 := zq5 BK.out 3; have hfz_4 := zq5 BK.out 4))
  have hset : ∀ {W : World} (h : Below w.heap.size w W) (j : Nat) (u : Value), Below w.heap.size w (W.setCell ⟨gr, j, none⟩ u) := fun h j u => zq3 h HGR.out
  refine bodyPost_ret (results_cell_row rfl _ _ gr 28 #[.int .i64 a0_0, .slice A1 sl2.length c1, .slice A2 rg2.length c2, .slice A3 sp2.length c3, .slice A4 ws2.length c4] (0, 0) _ rfl (by
    refine blk_put (cs := #[.int .i64 a0_0, .slice A1 sl2.length c1, .slice A2 rg2.length c2, .slice A3 sp2.length c3, .slice none 0 0]) ?_ 4 _ rfl
    refine blk_put (cs := #[.int .i64 a0_0, .slice A1 sl2.length c1, .slice A2 rg2.length c2, .slice none 0 0, .slice none 0 0]) ?_ 3 _ rfl
    refine blk_put (cs := #[.int .i64 a0_0, .slice A1 sl2.length c1, .slice none 0 0, .slice none 0 0, .slice none 0 0]) ?_ 2 _ rfl
    refine blk_put (cs := #[.int .i64 a0_0, .slice none 0 0, .slice none 0 0, .slice none 0 0, .slice none 0 0]) ?_ 1 _ rfl
    refine blk_put (cs := #[.int .i64 0, .slice none 0 0, .slice none 0 0, .slice none 0 0, .slice none 0 0]) ?_ 0 _ rfl
    exact BK.out) Try.underlying28 rfl (by kernel_rfl)) rfl ?_
  exact ⟨_, _, _, _, rfl, Kd.R_lower (R_setOwn (R_setOwn (R_setOwn (R_setOwn (R_setOwn HO1.out HG5.out 0 _) HG5.out 1 _) HG5.out 2 _) HG5.out 3 _) HG5.out 4 _) HS5.out,
    Kd.R_lower (R_setOwn (R_setOwn (R_setOwn (R_setOwn (R_setOwn HO2.out HG5.out 0 _) HG5.out 1 _) HG5.out 2 _) HG5.out 3 _) HG5.out 4 _) HS5.out,
    Kd.R_lower (R_setOwn (R_setOwn (R_setOwn (R_setOwn (R_setOwn HO3.out HG5.out 0 _) HG5.out 1 _) HG5.out 2 _) HG5.out 3 _) HG5.out 4 _) HS5.out,
    Kd.R_lower (R_setOwn (R_setOwn (R_setOwn (R_setOwn (R_setOwn HO4.out HG5.out 0 _) HG5.out 1 _) HG5.out 2 _) HG5.out 3 _) HG5.out 4 _) HS5.out,
    hset (hset (hset (hset (hset HB.out 0 _) 1 _) 2 _) 3 _) 4 _⟩
set_option maxHeartbeats 4000000 in
set_option maxRecDepth 100000 in
theorem changed_put_no (a0_0 : Int) (A0_1 : Option Addr) (c0_1 : Nat) (l0_1 : List ByteArray) (A0_2 : Option Addr) (c0_2 : Nat) (l0_2 : List ByteArray) (A0_3 : Option Addr) (c0_3 : Nat) (l0_3 : List Bool) (A0_4 : Option Addr) (c0_4 : Nat) (l0_4 : List (S54)) (cp : Value) (w : World) (hr0_1 : Kd.C Kd.string w A0_1 l0_1.length l0_1) (hc0_1 : l0_1.length ≤ c0_1) (hr0_2 : Kd.C Kd.string w A0_2 l0_2.length l0_2) (hc0_2 : l0_2.length ≤ c0_2) (hr0_3 : Kd.C Kd.bool w A0_3 l0_3.length l0_3) (hc0_3 : l0_3.length ≤ c0_3) (hr0_4 : Kd.C k54 w A0_4 l0_4.length l0_4) (hc0_4 : l0_4.length ≤ c0_4) (hg : Good a0_0 l0_1 l0_2 l0_3 l0_4)
    (hcl : ∀ (W : World), Below w.heap.size w W → ∀ (g : Nat) (ns : List (Nat × Pt)), Drv W g a0_0 l0_3 l0_1 l0_2 ns → ns.map (·.2) = l0_4 → w.heap.size ≤ g → Calls Try.prog 82 #[.pointer (some ⟨g, 0, none⟩), cp] W fun e w' => e = .returned (.bool false) ∧ Below g W w') :
    Calls Try.prog 76 #[.agg #[.int .i64 a0_0, .slice A0_1 l0_1.length c0_1, .slice A0_2 l0_2.length c0_2, .slice A0_3 l0_3.length c0_3, .slice A0_4 l0_4.length c0_4], .func (.func 82) #[] #[cp]] w fun e w' => ∃ v1_ v2_ v3_ v4_ : Value, e = .returned (.agg #[.int .i64 0, v1_, v2_, v3_, v4_]) ∧ Kd.R Kd.string 9 w' w.heap.size (fun k_ => some k_ ≠ (v2_ : Value).ownBlock) v1_ ([] : List ByteArray) ∧ Kd.R Kd.string 9 w' w.heap.size (fun k_ => some k_ ≠ (v1_ : Value).ownBlock) v2_ ([] : List ByteArray) ∧ Kd.R Kd.bool 4 w' w.heap.size (fun _ => True) v3_ ([] : List Bool) ∧ Kd.R k54 54 w' w.heap.size (fun _ => True) v4_ ([] : List S54) ∧ Below w.heap.size w w' := by
  have hu28 := Try.underlying28
  have HGD := Az.mk (fun (W : World) (hb : Below w.heap.size w W) => readDisk_good2 a0_0 A0_1 c0_1 l0_1 A0_2 c0_2 l0_2 A0_3 c0_3 l0_3 A0_4 c0_4 l0_4 W (Kd.C_below hr0_1 hb) hc0_1 (Kd.C_below hr0_2 hb) hc0_2 (Kd.C_below hr0_3 hb) hc0_3 (Kd.C_below hr0_4 hb) hc0_4 hg)
  have HCL := Az.mk hcl
  have HB := Az.mk (Below.refl w.heap.size w)
  clear hr0_1 hc0_1 hr0_2 hc0_2 hr0_3 hc0_3 hr0_4 hc0_4 hg hcl
  go_enter Try.func76, Try.ntmps76
  go_wp2_with (first | ((with_reducible refine zqg (N := 2) rfl ?_); refine zqb ?hg (N := 2) ?hd (cs := #[.int .i64 a0_0, .slice A0_1 l0_1.length c0_1, .slice A0_2 l0_2.length c0_2, .slice A0_3 l0_3.length c0_3, .slice A0_4 l0_4.length c0_4]) (t := 28) ?hr ?_; (case hd => rfl); (case hg => rfl); (case hr => first | (go_simp; done) | (go_simp; rfl)); intro gb hg w1 hbox hb; have n0_ := Az.mk (below_step (by repeat (first | (with_reducible first | exact HB.out | apply zq2 | apply zq1 | apply zqd) | exact HB.out)) hb); have BD := Az.mk hbox; clear HB; have HB := n0_; clear n0_ hb hbox hg; have hcd_0 : w1.cell? ⟨gb, 0, none⟩ = some (.int .i64 a0_0) := (zq4 BD.out 0).trans rfl; have hcd_1 : w1.cell? ⟨gb, 1, none⟩ = some (.slice A0_1 l0_1.length c0_1) := (zq4 BD.out 1).trans rfl; have hcd_2 : w1.cell? ⟨gb, 2, none⟩ = some (.slice A0_2 l0_2.length c0_2) := (zq4 BD.out 2).trans rfl; have hcd_3 : w1.cell? ⟨gb, 3, none⟩ = some (.slice A0_3 l0_3.length c0_3) := (zq4 BD.out 3).trans rfl; have hcd_4 : w1.cell? ⟨gb, 4, none⟩ = some (.slice A0_4 l0_4.length c0_4) := (zq4 BD.out 4).trans rfl) | ((with_reducible refine zqg (N := 4) rfl ?_); refine zqb ?hg (N := 4) ?hd (cs := #[.int .i64 0, .slice none 0 0, .slice none 0 0, .slice none 0 0, .slice none 0 0]) (t := 28) ?hr ?_; (case hd => rfl); (case hg => rfl); (case hr => first | (go_simp; done) | (go_simp; rfl)); intro gr hg w2 hbox hb; have n0_ := Az.mk (below_step (by repeat (first | (with_reducible first | exact HB.out | apply zq2 | apply zq1 | apply zqd) | exact HB.out)) hb); have BK := Az.mk hbox; have HGR : Az (w.heap.size ≤ gr) := ⟨by rw [hg]; exact (below_size (by repeat (first | (with_reducible first | exact HB.out | apply zq2 | apply zq1 | apply zqd) | exact HB.out)))⟩; have nd_ := Az.mk (blk_below (g := gb) (o := .cells #[.int .i64 a0_0, .slice A0_1 l0_1.length c0_1, .slice A0_2 l0_2.length c0_2, .slice A0_3 l0_3.length c0_3, .slice A0_4 l0_4.length c0_4] 28 (0, 0)) (by (with_reducible repeat (first | refine zq6 ?_ _ | refine zq8 ?_ | refine zq7 ?_ _)); exact BD.out) hb); clear HB BD; have HB := n0_; have BD := nd_; clear n0_ nd_ hb hbox hg; have hcd_0 : w2.cell? ⟨gb, 0, none⟩ = some (.int .i64 a0_0) := (zq4 BD.out 0).trans rfl; have hcd_1 : w2.cell? ⟨gb, 1, none⟩ = some (.slice A0_1 l0_1.length c0_1) := (zq4 BD.out 1).trans rfl; have hcd_2 : w2.cell? ⟨gb, 2, none⟩ = some (.slice A0_2 l0_2.length c0_2) := (zq4 BD.out 2).trans rfl; have hcd_3 : w2.cell? ⟨gb, 3, none⟩ = some (.slice A0_3 l0_3.length c0_3) := (zq4 BD.out 3).trans rfl; have hcd_4 : w2.cell? ⟨gb, 4, none⟩ = some (.slice A0_4 l0_4.length c0_4) := (zq4 BD.out 4).trans rfl) | (go_at_call 52; refine (HGD.out _ (by repeat (first | (with_reducible first | exact HB.out | apply zq2 | apply zq1 | apply zqd) | exact HB.out))).mono ?_; rintro e w9 ⟨gd, ns, rfl, hgd, hd, hns, hb⟩; have n0_ := Az.mk (below_step (by repeat (first | (with_reducible first | exact HB.out | apply zq2 | apply zq1 | apply zqd) | exact HB.out)) hb); have nk_ := Az.mk (blk_below (g := gr) (o := .cells #[.int .i64 0, .slice none 0 0, .slice none 0 0, .slice none 0 0, .slice none 0 0] 28 (0, 0)) (by (with_reducible repeat (first | refine zq6 ?_ _ | refine zq8 ?_ | refine zq7 ?_ _)); exact BK.out) hb); have HRD : Az (gr < gd) := ⟨Nat.lt_of_lt_of_le (blk_lt (by (with_reducible repeat (first | refine zq6 ?_ _ | refine zq8 ?_ | refine zq7 ?_ _)); exact BK.out)) hgd⟩; have HWD : Az (w.heap.size ≤ gd) := ⟨Nat.le_trans (below_size (by repeat (first | (with_reducible first | exact HB.out | apply zq2 | apply zq1 | apply zqd) | exact HB.out))) hgd⟩; have HD := Az.mk hd; have HNS := Az.mk hns; clear HB BK; have HB := n0_; have BK := nk_; clear n0_ nk_ hb hd hns hgd) | (go_at_call 82; refine (HCL.out _ (by repeat (first | (with_reducible first | exact HB.out | apply zq2 | apply zq1 | apply zqd) | exact HB.out)) gd ns (by (with_reducible repeat (first | refine drv_drewN ?_ _ | refine drv_drew ?_)); exact HD.out) HNS.out HWD.out).mono ?_; rintro e w10 ⟨rfl, hb⟩; have n0_ := Az.mk (Below.trans (by repeat (first | (with_reducible first | exact HB.out | apply zq2 | apply zq1 | apply zqd) | exact HB.out)) (hb.mono (by have h1 := HGR.out; have h2 := HRD.out; omega))); have nk_ : Az (w10.heap[gr]? = some (.cells #[.int .i64 0, .slice none 0 0, .slice none 0 0, .slice none 0 0, .slice none 0 0] 28 (0, 0))) := ⟨(hb.block gr HRD.out).trans (by (with_reducible repeat (first | refine zq6 ?_ _ | refine zq8 ?_ | refine zq7 ?_ _)); exact BK.out)⟩; clear HB BK HD HNS; have HB := n0_; have BK := nk_; clear n0_ nk_ hb; have hcz_0 : w10.cell? ⟨gr, 0, none⟩ = some (.int .i64 0) := (zq4 BK.out 0).trans rfl; have hcz_1 : w10.cell? ⟨gr, 1, none⟩ = some (.slice none 0 0) := (zq4 BK.out 1).trans rfl; have hcz_2 : w10.cell? ⟨gr, 2, none⟩ = some (.slice none 0 0) := (zq4 BK.out 2).trans rfl; have hcz_3 : w10.cell? ⟨gr, 3, none⟩ = some (.slice none 0 0) := (zq4 BK.out 3).trans rfl; have hcz_4 : w10.cell? ⟨gr, 4, none⟩ = some (.slice none 0 0) := (zq4 BK.out 4).trans rfl; have hfz_0 := zq5 BK.out 0; have hfz_1 := zq5 BK.out 1; have hfz_2 := zq5 BK.out 2; have hfz_3 := zq5 BK.out 3; have hfz_4 := zq5 BK.out 4))
  have hset : ∀ {W : World} (h : Below w.heap.size w W) (j : Nat) (u : Value), Below w.heap.size w (W.setCell ⟨gr, j, none⟩ u) := fun h j u => zq3 h HGR.out
  refine bodyPost_ret (results_cell_row rfl _ _ gr 28 #[.int .i64 0, .slice none 0 0, .slice none 0 0, .slice none 0 0, .slice none 0 0] (0, 0) _ rfl (by
    refine blk_put (cs := #[.int .i64 0, .slice none 0 0, .slice none 0 0, .slice none 0 0, .slice none 0 0]) ?_ 4 _ rfl
    refine blk_put (cs := #[.int .i64 0, .slice none 0 0, .slice none 0 0, .slice none 0 0, .slice none 0 0]) ?_ 3 _ rfl
    refine blk_put (cs := #[.int .i64 0, .slice none 0 0, .slice none 0 0, .slice none 0 0, .slice none 0 0]) ?_ 2 _ rfl
    refine blk_put (cs := #[.int .i64 0, .slice none 0 0, .slice none 0 0, .slice none 0 0, .slice none 0 0]) ?_ 1 _ rfl
    refine blk_put (cs := #[.int .i64 0, .slice none 0 0, .slice none 0 0, .slice none 0 0, .slice none 0 0]) ?_ 0 _ rfl
    exact BK.out) Try.underlying28 rfl (by kernel_rfl)) rfl ?_
  exact ⟨_, _, _, _, rfl, Kd.R_nil _ _ _ _ _, Kd.R_nil _ _ _ _ _, Kd.R_nil _ _ _ _ _, Kd.R_nil _ _ _ _ _, hset (hset (hset (hset (hset HB.out 0 _) 1 _) 2 _) 3 _) 4 _⟩
end Go.Proofs.Ytkgpnloghmbmlaa.Print
