/- Proved: how a drive lies in memory (a block of its own, and the writes that wait, each a block behind it), and what a store makes of it. Conditions: none. -/
import Derived.Test.YtkgpnloghmbmlaaPrint0
import Derived.ChangeKeysEq
namespace Go.Proofs.Ytkgpnloghmbmlaa.Drv
open Go.RowKit Go.Proofs.Ytkgpnloghmbmlaa.Print Go.Proofs.YtkgpnloghmbmlaaW.PrintWords
set_option linter.unusedVariables false

abbrev Pt := S54
def Node (w : World) (b : Nat) (p : Pt) (nx : Value) : Prop := w.heap[b]? = some (.cells #[.bool p.f0, .int .i64 p.f1, .string p.f2, nx] 112 (0, 0))
def toN : List (Nat × Pt) → Value → Value
  | [], e => e
  | x :: _, _ => .pointer (some ⟨x.1, 0, none⟩)
theorem toN_append (a b : List (Nat × Pt)) (e : Value) : toN (a ++ b) e = toN a (toN b e) := by cases a <;> rfl
def Seg (w : World) : Nat → List (Nat × Pt) → Value → Prop
  | _, [], _ => True
  | lo, x :: r, e => lo < x.1 ∧ Node w x.1 x.2 (toN r e) ∧ Seg w x.1 r e
def lastN : Nat → List (Nat × Pt) → Nat
  | lo, [] => lo
  | _, x :: r => lastN x.1 r
theorem lastN_snoc (x : Nat × Pt) : ∀ (lo : Nat) (ns : List (Nat × Pt)), lastN lo (ns ++ [x]) = x.1
  | _, [] => rfl
  | _, y :: r => lastN_snoc x y.1 r
theorem Seg.le {w : World} {e : Value} : ∀ {lo : Nat} {ns : List (Nat × Pt)}, Seg w lo ns e → lo ≤ lastN lo ns
  | _, [], _ => Nat.le_refl _
  | lo, x :: r, h => Nat.le_trans (Nat.le_of_lt h.1) (Seg.le h.2.2)
theorem Seg.lt {w : World} {e : Value} : ∀ {lo : Nat} {ns : List (Nat × Pt)}, Seg w lo ns e → lo < w.heap.size → lastN lo ns < w.heap.size
  | _, [], _, h => h
  | lo, x :: r, h, _ => (Seg.lt (lo := x.1) (ns := r) h.2.2 (blk_lt h.2.1) : lastN x.1 r < w.heap.size)
theorem Seg.mono {w : World} {e : Value} {lo lo' : Nat} {ns : List (Nat × Pt)} (h : Seg w lo ns e) (hl : lo' ≤ lo) : Seg w lo' ns e := by
  cases ns with
  | nil => trivial
  | cons x r => exact ⟨Nat.lt_of_le_of_lt hl h.1, h.2⟩
theorem Seg.keep {w w' : World} {e : Value} : ∀ {lo : Nat} {ns : List (Nat × Pt)}, Seg w lo ns e → (∀ k, lo < k → k ≤ lastN lo ns → w'.heap[k]? = w.heap[k]?) → Seg w' lo ns e
  | _, [], _, _ => trivial
  | lo, x :: r, h, hk => ⟨h.1, (hk _ h.1 (Seg.le h.2.2)).trans h.2.1, Seg.keep h.2.2 fun k h1 h2 => hk k (Nat.lt_trans h.1 h1) h2⟩
theorem Seg.append {w : World} {e : Value} {ms : List (Nat × Pt)} : ∀ {lo : Nat} {ns : List (Nat × Pt)}, Seg w lo (ns ++ ms) e ↔ Seg w lo ns (toN ms e) ∧ Seg w (lastN lo ns) ms e
  | _, [] => ⟨fun h => ⟨trivial, h⟩, fun h => h.2⟩
  | lo, x :: r => by
    simp only [List.cons_append, Seg, lastN, toN_append, Seg.append (lo := x.1) (ns := r)]
    exact ⟨fun h => ⟨⟨h.1, h.2.1, h.2.2.1⟩, h.2.2.2⟩, fun h => ⟨h.1.1, h.1.2.1, h.1.2.2, h.2⟩⟩

/-- The cells of a drive. -/
def dcells (st : Int) (sp : List Bool) (sl rg : List ByteArray) (fi : Value) : Array Value :=
  (.int .i64 st :: (sp.map Value.bool ++ (sl.map Value.string ++ (rg.map Value.string ++ [fi])))).toArray
structure Drv (w : World) (g : Nat) (st : Int) (sp : List Bool) (sl rg : List ByteArray) (ns : List (Nat × Pt)) : Prop where
  blk : w.heap[g]? = some (.cells (dcells st sp sl rg (toN ns (.pointer none))) 80 (0, 0))
  seg : Seg w g ns (.pointer none)
  lsp : sp.length = 12
  lsl : sl.length = 12
  lrg : rg.length = 2

section
variable {st : Int} {sp : List Bool} {sl rg : List ByteArray} {fi : Value}
theorem dc_st : (dcells st sp sl rg fi)[0]? = some (.int .i64 st) := by simp [dcells]
theorem dc_sp (hsp : sp.length = 12) {i : Nat} (hi : i < 12) : (dcells st sp sl rg fi)[1 + i]? = some (.bool (sp.getD i false)) := by
  have : i < sp.length := by omega
  simp [dcells, Nat.add_comm 1 i, List.getElem?_append, this, List.getD]
theorem dc_sl (hsp : sp.length = 12) (hsl : sl.length = 12) {i : Nat} (hi : i < 12) : (dcells st sp sl rg fi)[13 + i]? = some (.string (sl.getD i ByteArray.empty)) := by
  have h1 : i < sl.length := by omega
  have e : 13 + i = (12 + i) + 1 := by omega
  have h3 : ¬ 12 + i < sp.length := by omega
  have h4 : 12 + i - sp.length = i := by omega
  rw [e]
  simp [dcells, List.getElem?_append, h1, h3, h4, List.getD]
theorem dc_rg (hsp : sp.length = 12) (hsl : sl.length = 12) (hrg : rg.length = 2) {i : Nat} (hi : i < 2) : (dcells st sp sl rg fi)[25 + i]? = some (.string (rg.getD i ByteArray.empty)) := by
  have h1 : i < rg.length := by omega
  have e : 25 + i = (24 + i) + 1 := by omega
  have h3 : ¬ 24 + i < sp.length := by omega
  have h4 : 24 + i - sp.length = 12 + i := by omega
  have h5 : ¬ 12 + i < sl.length := by omega
  have h6 : 12 + i - sl.length = i := by omega
  rw [e]
  simp [dcells, List.getElem?_append, h1, h3, h4, h5, h6, List.getD]
theorem dc_fi (hsp : sp.length = 12) (hsl : sl.length = 12) (hrg : rg.length = 2) : (dcells st sp sl rg fi)[27]? = some fi := by
  simp [dcells, hsp, hsl, hrg]
theorem dc_size (hsp : sp.length = 12) (hsl : sl.length = 12) (hrg : rg.length = 2) : (dcells st sp sl rg fi).size = 28 := by
  simp [dcells, hsp, hsl, hrg]
theorem set_fi (hsp : sp.length = 12) (hsl : sl.length = 12) (hrg : rg.length = 2) (v : Value) : (dcells st sp sl rg fi).setIfInBounds 27 v = dcells st sp sl rg v := by
  simp [dcells, hsp, hsl, hrg]
theorem set_sp (hsp : sp.length = 12) {i : Nat} (hi : i < 12) (b : Bool) : (dcells st sp sl rg fi).setIfInBounds (1 + i) (.bool b) = dcells st (sp.set i b) sl rg fi := by
  simp [dcells, Nat.add_comm 1 i, hsp, hi, List.map_set]
theorem set_sl (hsp : sp.length = 12) (hsl : sl.length = 12) {i : Nat} (hi : i < 12) (s : ByteArray) : (dcells st sp sl rg fi).setIfInBounds (13 + i) (.string s) = dcells st sp (sl.set i s) rg fi := by
  have e : 13 + i = (12 + i) + 1 := by omega
  have h3 : ¬ 12 + i < sp.length := by omega
  have h4 : 12 + i - sp.length = i := by omega
  rw [e]
  simp [dcells, List.set_append, h3, h4, hsl, hi, List.map_set]
theorem set_rg (hsp : sp.length = 12) (hsl : sl.length = 12) (hrg : rg.length = 2) {i : Nat} (hi : i < 2) (s : ByteArray) : (dcells st sp sl rg fi).setIfInBounds (25 + i) (.string s) = dcells st sp sl (rg.set i s) fi := by
  have e : 25 + i = (24 + i) + 1 := by omega
  have h3 : ¬ 24 + i < sp.length := by omega
  have h4 : 24 + i - sp.length = 12 + i := by omega
  have h5 : ¬ 12 + i < sl.length := by omega
  have h6 : 12 + i - sl.length = i := by omega
  rw [e]
  simp [dcells, List.set_append, h3, h4, h5, h6, hrg, hi, List.map_set]
end

/-- Where the link lies that the writes behind 'ns' hang on. -/
def linkOf (g : Nat) : List (Nat × Pt) → Addr
  | [] => ⟨g, 27, none⟩
  | x :: r => ⟨lastN x.1 r, 3, none⟩

theorem Drv.keep {w w' : World} {g : Nat} {st : Int} {sp : List Bool} {sl rg : List ByteArray} {ns : List (Nat × Pt)} (h : Drv w g st sp sl rg ns) (hk : ∀ k, g ≤ k → k < w.heap.size → w'.heap[k]? = w.heap[k]?) : Drv w' g st sp sl rg ns :=
  ⟨(hk g (Nat.le_refl _) (blk_lt h.blk)).trans h.blk, h.seg.keep (fun k h1 h2 => hk k (Nat.le_of_lt h1) (Nat.lt_of_le_of_lt h2 (h.seg.lt (blk_lt h.blk)))), h.lsp, h.lsl, h.lrg⟩
theorem Drv.below {w w' : World} {g : Nat} {st : Int} {sp : List Bool} {sl rg : List ByteArray} {ns : List (Nat × Pt)} (h : Drv w g st sp sl rg ns) (hk : Below w.heap.size w w') : Drv w' g st sp sl rg ns :=
  h.keep fun k _ h2 => hk.block k h2

/-- A store into the drive's own block. -/
theorem Drv.own {w : World} {g : Nat} {st : Int} {sp : List Bool} {sl rg : List ByteArray} {ns : List (Nat × Pt)} (h : Drv w g st sp sl rg ns) {j : Nat} {v : Value} {sp' : List Bool} {sl' rg' : List ByteArray} {ms : List (Nat × Pt)}
    (e : (dcells st sp sl rg (toN ns (.pointer none))).setIfInBounds j v = dcells st sp' sl' rg' (toN ms (.pointer none))) (hs : Seg w g ms (.pointer none)) (h1 : sp'.length = 12) (h2 : sl'.length = 12) (h3 : rg'.length = 2) :
    Drv (w.setCell ⟨g, j, none⟩ v) g st sp' sl' rg' ms :=
  ⟨e ▸ blk_set h.blk j v, hs.keep (fun k h1 _ => Below.heap_setCell w ⟨g, j, none⟩ v k (by show k ≠ g; omega)), h1, h2, h3⟩
theorem Drv.putRing {w : World} {g : Nat} {st : Int} {sp : List Bool} {sl rg : List ByteArray} {ns : List (Nat × Pt)} (h : Drv w g st sp sl rg ns) {i : Nat} (hi : i < 2) (s : ByteArray) : Drv (w.setCell ⟨g, 25 + i, none⟩ (.string s)) g st sp sl (rg.set i s) ns :=
  h.own (set_rg h.lsp h.lsl h.lrg hi s) h.seg h.lsp h.lsl (by simpa using h.lrg)
theorem Drv.putSlot {w : World} {g : Nat} {st : Int} {sp : List Bool} {sl rg : List ByteArray} {ns : List (Nat × Pt)} (h : Drv w g st sp sl rg ns) {i : Nat} (hi : i < 12) (s : ByteArray) : Drv (w.setCell ⟨g, 13 + i, none⟩ (.string s)) g st sp (sl.set i s) rg ns :=
  h.own (set_sl h.lsp h.lsl hi s) h.seg h.lsp (by simpa using h.lsl) h.lrg
theorem Drv.putSpoilt {w : World} {g : Nat} {st : Int} {sp : List Bool} {sl rg : List ByteArray} {ns : List (Nat × Pt)} (h : Drv w g st sp sl rg ns) {i : Nat} (hi : i < 12) (b : Bool) : Drv (w.setCell ⟨g, 1 + i, none⟩ (.bool b)) g st (sp.set i b) sl rg ns :=
  h.own (set_sp h.lsp hi b) h.seg (by simpa using h.lsp) h.lsl h.lrg
theorem Drv.drop {w : World} {g : Nat} {st : Int} {sp : List Bool} {sl rg : List ByteArray} {x : Nat × Pt} {ns : List (Nat × Pt)} (h : Drv w g st sp sl rg (x :: ns)) : Drv (w.setCell ⟨g, 27, none⟩ (toN ns (.pointer none))) g st sp sl rg ns :=
  h.own (set_fi h.lsp h.lsl h.lrg _) (h.seg.2.2.mono (Nat.le_of_lt h.seg.1)) h.lsp h.lsl h.lrg

/-- The link behind 'ns' holds the way on. -/
theorem Drv.link {w : World} {g : Nat} {st : Int} {sp : List Bool} {sl rg : List ByteArray} {ns ms : List (Nat × Pt)} (h : Drv w g st sp sl rg (ns ++ ms)) : w.cell? (linkOf g ns) = some (toN ms (.pointer none)) := by
  rcases List.eq_nil_or_concat ns with rfl | ⟨r, x, rfl⟩
  · exact (blk_cell h.blk 27).trans (dc_fi h.lsp h.lsl h.lrg)
  · have hs := (Seg.append.1 h.seg).1
    have hx := (Seg.append.1 (by simpa using hs : Seg w g (r ++ [x]) _)).2
    have e : linkOf g (r ++ [x]) = ⟨x.1, 3, none⟩ := by
      cases r with
      | nil => rfl
      | cons y r => exact congrArg (fun b => (⟨b, 3, none⟩ : Addr)) (lastN_snoc x y.1 r)
    simp only [List.concat_eq_append, e]
    exact (blk_cell hx.2.1 3).trans rfl
theorem Drv.linkFree {w : World} {g : Nat} {st : Int} {sp : List Bool} {sl rg : List ByteArray} {ns ms : List (Nat × Pt)} (h : Drv w g st sp sl rg (ns ++ ms)) : w.frozen? (linkOf g ns) = false := by
  rcases List.eq_nil_or_concat ns with rfl | ⟨r, x, rfl⟩
  · exact blk_frozen h.blk 27
  · have hs := (Seg.append.1 h.seg).1
    have hx := (Seg.append.1 (by simpa using hs : Seg w g (r ++ [x]) _)).2
    have e : linkOf g (r ++ [x]) = ⟨x.1, 3, none⟩ := by
      cases r with
      | nil => rfl
      | cons y r => exact congrArg (fun b => (⟨b, 3, none⟩ : Addr)) (lastN_snoc x y.1 r)
    simp only [List.concat_eq_append, e]
    exact blk_frozen hx.2.1 3
/-- A write more hung on. -/
theorem Drv.hang {w : World} {g n : Nat} {p : Pt} {st : Int} {sp : List Bool} {sl rg : List ByteArray} {ns : List (Nat × Pt)} (h : Drv w g st sp sl rg ns) (hn : Node w n p (.pointer none)) (hl : lastN g ns < n) :
    Drv (w.setCell (linkOf g ns) (.pointer (some ⟨n, 0, none⟩))) g st sp sl rg (ns ++ [(n, p)]) := by
  rcases List.eq_nil_or_concat ns with rfl | ⟨r, x, rfl⟩
  · refine ⟨?_, ⟨hl, (Below.heap_setCell w _ _ n (by show n ≠ g; have : g < n := hl; omega)).trans hn, trivial⟩, h.lsp, h.lsl, h.lrg⟩
    have := blk_set h.blk 27 (.pointer (some ⟨n, 0, none⟩))
    rw [set_fi h.lsp h.lsl h.lrg] at this
    exact this
  · simp only [List.concat_eq_append] at h hl ⊢
    have e : linkOf g (r ++ [x]) = ⟨x.1, 3, none⟩ := by
      cases r with
      | nil => rfl
      | cons y r => exact congrArg (fun b => (⟨b, 3, none⟩ : Addr)) (lastN_snoc x y.1 r)
    rw [lastN_snoc] at hl
    obtain ⟨h1, h2⟩ := Seg.append.1 h.seg
    have hg : g ≤ lastN g r := h1.le
    have hx : lastN g r < x.1 := h2.1
    have far : ∀ k, k ≠ x.1 → (w.setCell (linkOf g (r ++ [x])) (.pointer (some ⟨n, 0, none⟩))).heap[k]? = w.heap[k]? := fun k hk => by
      rw [e]
      exact Below.heap_setCell w _ _ k hk
    refine ⟨(far g (by omega)).trans ?_, Seg.append.2 ⟨Seg.append.2 ⟨h1.keep fun k _ hk => far k (by omega), hx, ?_, trivial⟩, ?_, (far n (by omega)).trans hn, trivial⟩, h.lsp, h.lsl, h.lrg⟩
    · have := h.blk
      simp only [toN_append] at this ⊢
      exact this
    · rw [e]
      exact blk_set h2.2.1 3 _
    · rw [lastN_snoc]
      exact hl

theorem linkOf_block (g : Nat) (ns : List (Nat × Pt)) : (linkOf g ns).block = lastN g ns := by cases ns <;> rfl
theorem linkOf_snoc (g n : Nat) (p : Pt) (ns : List (Nat × Pt)) : linkOf g (ns ++ [(n, p)]) = ⟨n, 3, none⟩ := by
  cases ns with
  | nil => rfl
  | cons y r => exact congrArg (fun b => (⟨b, 3, none⟩ : Addr)) (lastN_snoc (n, p) y.1 r)
theorem Drv.keepL {w w' : World} {g : Nat} {st : Int} {sp : List Bool} {sl rg : List ByteArray} {ns : List (Nat × Pt)} (h : Drv w g st sp sl rg ns) (hk : ∀ k, g ≤ k → k ≤ lastN g ns → w'.heap[k]? = w.heap[k]?) : Drv w' g st sp sl rg ns :=
  ⟨(hk g (Nat.le_refl _) h.seg.le).trans h.blk, h.seg.keep (fun k h1 h2 => hk k (Nat.le_of_lt h1) h2), h.lsp, h.lsl, h.lrg⟩
theorem Drv.far {w : World} {g : Nat} {st : Int} {sp : List Bool} {sl rg : List ByteArray} {ns : List (Nat × Pt)} (h : Drv w g st sp sl rg ns) {p : Addr} (hp : lastN g ns < p.block) (v : Value) : Drv (w.setCell p v) g st sp sl rg ns :=
  h.keepL fun k _ hk => Below.heap_setCell w p v k (by omega)
theorem Drv.last_lt {w : World} {g : Nat} {st : Int} {sp : List Bool} {sl rg : List ByteArray} {ns : List (Nat × Pt)} (h : Drv w g st sp sl rg ns) : lastN g ns < w.heap.size := h.seg.lt (blk_lt h.blk)
theorem Drv.linkE {w : World} {g : Nat} {st : Int} {sp : List Bool} {sl rg : List ByteArray} {ns : List (Nat × Pt)} (h : Drv w g st sp sl rg ns) : w.cell? (linkOf g ns) = some (.pointer none) := Drv.link (ms := []) (by rw [List.append_nil]; exact h)
theorem Drv.linkFreeE {w : World} {g : Nat} {st : Int} {sp : List Bool} {sl rg : List ByteArray} {ns : List (Nat × Pt)} (h : Drv w g st sp sl rg ns) : w.frozen? (linkOf g ns) = false := Drv.linkFree (ms := []) (by rw [List.append_nil]; exact h)

/-- Two lists of texts, laid as arrays, held against each other; the second is nothing but empty texts. -/
theorem eqItems_strs {P : Program} {e : TypeId} (he : P.underlying e = some .string) (hc : P.cellsOf e = 1) (d : Nat) (w : World) (xs ys : List ByteArray) : ∀ is : List Nat, (∀ i ∈ is, i < xs.length ∧ i < ys.length) →
    (Op.eqItems (d + 1) e (P.cellsOf e) (xs.map Value.string).toArray (ys.map Value.string).toArray is).run P w = .ok (is.all fun i => (xs.getD i ByteArray.empty).toList == (ys.getD i ByteArray.empty).toList) w
  | [], _ => by simp [Op.eqItems]
  | i :: is, h => by
    obtain ⟨h1, h2⟩ := h i (by simp)
    have hk : P.plainKey e = true := by simp [Program.plainKey, he]
    have p1 : (part e (xs.map Value.string).toArray (i * P.cellsOf e)).run P w = .ok (.string (xs.getD i ByteArray.empty)) w := run_part_plain w hk (by simp [hc, h1, List.getD])
    have p2 : (part e (ys.map Value.string).toArray (i * P.cellsOf e)).run P w = .ok (.string (ys.getD i ByteArray.empty)) w := run_part_plain w hk (by simp [hc, h2, List.getD])
    simp only [Op.eqItems, Sem.run_bind, p1, p2, Result.andThen_ok, run_equalIn_string w d e _ _ he, List.all_cons]
    generalize hb : ((xs.getD i ByteArray.empty).toList == (ys.getD i ByteArray.empty).toList) = b
    cases b
    · simp
    · simpa using eqItems_strs he hc d w xs ys is (fun j hj => h j (by simp [hj]))
theorem equal_strs {P : Program} {t e : TypeId} {n : Nat} (ht : P.underlying t = some (.array n e)) (he : P.underlying e = some .string) (hc : P.cellsOf e = 1) (w : World) (xs : List ByteArray) (hx : xs.length = n) :
    (Op.equalIn 10000 t (.agg (xs.map Value.string).toArray) (.agg ((List.replicate n ByteArray.empty).map Value.string).toArray)).run P w = .ok (xs.all fun s => s.size == 0) w := by
  obtain ⟨i, hi⟩ := info_of_underlying he
  rw [run_equalIn_array w 9999 _ _ ht hi, eqItems_strs he hc 9998 w xs _ (List.range n) (fun i hi => by simp at hi; simp; omega)]
  congr 1
  rw [Bool.eq_iff_iff, List.all_eq_true, List.all_eq_true]
  constructor
  · intro h s hs
    obtain ⟨j, hj, rfl⟩ := List.getElem_of_mem hs
    have := h j (by simp; omega)
    have hj2 : j < n := by omega
    simp [List.getD, hj, hj2, ByteArray.toList_eq] at this
    simp [ByteArray.size, this]
  · intro h j hj
    simp only [List.mem_range] at hj
    have hj1 : j < xs.length := by omega
    have := h _ (List.getElem_mem hj1)
    have h2 : xs[j] = ByteArray.empty := by
      have : xs[j].size = 0 := by simpa using this
      exact ByteArray.ext (Array.eq_empty_of_size_eq_zero this)
    simp [List.getD, hj1, hj, h2]
end Go.Proofs.Ytkgpnloghmbmlaa.Drv
