/- Proved: impl.ModelRead reads the text of a block, or tells a code. Conditions: names as long as strings may be. -/
import Derived.Test.YtmfehjkcefpeoaaExBlock
import Derived.Test.YtmfehjkcefpeoaaPrint11
import Derived.Test.YtmfehjkcefpeoaaMBase
namespace Go.Proofs.Ytmfehjkcefpeoaa.Print
open Go.RowKit Go.Maps Go.WideMaps Go.Proofs.YtmfehjkcefpeoaaW.PrintWords Go.Proofs.YtmfehjkcefpeoaaW.PrintLast Go.Proofs.YtmfehjkcefpeoaaW.PrintMore Go.Proofs.Ytmfehjkcefpeoaa.Pure
set_option linter.unusedVariables false
set_option linter.unusedSimpArgs false

/-! ### boxes -/
def Bx (w : World) (g : Nat) (v : Value) (t : Nat) : Prop := w.heap[g]? = some (.cells #[v] t (0, 0))
theorem Bx.lt {w : World} {g : Nat} {v : Value} {t : Nat} (h : Bx w g v t) : g < w.heap.size := (Array.getElem?_eq_some_iff.1 h).1
theorem Bx.below {w w' : World} {g : Nat} {v : Value} {t : Nat} (h : Bx w g v t) (hb : Below w.heap.size w w') : Bx w' g v t := (hb.block g h.lt).trans h
theorem Bx.cell {w : World} {g : Nat} {v : Value} {t : Nat} (h : Bx w g v t) : w.cell? ⟨g, 0, none⟩ = some v := (cell_of_box_l h).1
theorem Bx.free {w : World} {g : Nat} {v : Value} {t : Nat} (h : Bx w g v t) : w.frozen? ⟨g, 0, none⟩ = false := (cell_of_box_l h).2
theorem Bx.alloc {w : World} {g : Nat} {v : Value} {t : Nat} (h : Bx w g v t) (o : Obj) : Bx (w.alloc o) g v t := h.below ((Below.refl _ w).alloc (Nat.le_refl _) o)
theorem Bx.made (w : World) (v : Value) (t : Nat) : Bx (w.alloc (.cells #[v] t)) w.heap.size v t := World.alloc_heap_new w _
theorem Bx.other {w : World} {g : Nat} {v : Value} {t : Nat} (h : Bx w g v t) {g' : Nat} (hne : g ≠ g') (u : Value) : Bx (w.setCell ⟨g', 0, none⟩ u) g v t := (Below.heap_setCell w ⟨g', 0, none⟩ u g hne).trans h
theorem Bx.set {w : World} {g : Nat} {v : Value} {t : Nat} (h : Bx w g v t) (u : Value) : (w.setCell ⟨g, 0, none⟩ u).cell? ⟨g, 0, none⟩ = some u := World.cell?_setCell_same' _ _ _ (by rw [h.cell]; rfl)

theorem readD_code (l : List S39) (nm : ByteArray) (a : Int) : (readD l nm a).2 = 0 ∨ (readD l nm a).2 = 2 ∨ (readD l nm a).2 = 4 := by
  unfold readD
  split
  · exact Or.inr (Or.inl rfl)
  · split
    · exact Or.inr (Or.inr rfl)
    · exact Or.inl rfl
theorem readD_text (l : List S39) (nm : ByteArray) (a : Int) (h : (readD l nm a).2 ≠ 0) : (readD l nm a).1 = (⟨#[]⟩ : ByteArray) := by
  unfold readD at *
  split
  · rfl
  · split
    · rfl
    · rename_i h1
      simp_all

set_option maxHeartbeats 8000000 in
set_option maxRecDepth 100000 in
theorem readFn_no (gx ga gb gt : Nat) (A0 : Option Addr) (c0 : Nat) (l0 : List S39) (nm : ByteArray) (a : Int) (w : World) (hx : w.cell? ⟨gx, 0, none⟩ = some (.slice A0 l0.length c0)) (ha : w.cell? ⟨ga, 0, none⟩ = some (.string nm)) (hb : w.cell? ⟨gb, 0, none⟩ = some (.int .i64 a))
    (hr0 : Kd.C k39 w A0 l0.length l0) (hc0 : l0.length ≤ c0) (hS : Short l0) (hn : nm.size ≤ maxLen) (h3 : ∀ x ∈ l0, x.f1.length = 3) (hcd : (readD l0 nm a).2 ≠ 0) :
    Calls Try.prog 25 #[.pointer (some ⟨gx, 0, none⟩), .pointer (some ⟨ga, 0, none⟩), .pointer (some ⟨gb, 0, none⟩), .pointer (some ⟨gt, 0, none⟩)] w fun e w' => e = .returned (.int .i64 (readD l0 nm a).2) ∧ Below w.heap.size w w' := by
  have HB := Aside0.mk (Below.refl w.heap.size w)
  have HBL := Aside0.mk (block_calls gx A0 c0 l0 nm a w hx hr0 hc0 hS hn h3)
  obtain ⟨cd, hE⟩ : ∃ cd, cd = (readD l0 nm a).2 := ⟨_, rfl⟩
  rw [← hE] at HBL hcd ⊢
  have c1 : (cd == 0) = false := beq_eq_false_iff_ne.2 hcd
  have c2 : decide (cd = 0) = false := decide_eq_false hcd
  clear hr0 hc0 hS hn h3 hE hcd
  go_enter Try.func25, Try.ntmps25
  go_wp2_with (first
    | (go_at_call 26; refine HBL.out.mono ?_; rintro e w9 ⟨p, rfl, hp, hb9⟩; have n0_ := Aside0.mk (below_step (by repeat (first | (with_reducible first | exact HB.out | apply below_alloc | apply pw_below_drewN | apply below_drew1) | exact HB.out)) hb9); clear HB; have HB := n0_; clear n0_ hb9 hp)
    | go_in)
  go_ret
  exact ⟨rfl, (by repeat (first | (with_reducible first | exact HB.out | apply below_alloc | apply pw_below_drewN | apply below_drew1) | exact HB.out))⟩
set_option maxHeartbeats 8000000 in
set_option maxRecDepth 100000 in
theorem readFn_yes (gx ga gb gt : Nat) (A0 : Option Addr) (c0 : Nat) (l0 : List S39) (nm tx : ByteArray) (a : Int) (w : World) (hx : w.cell? ⟨gx, 0, none⟩ = some (.slice A0 l0.length c0)) (ha : w.cell? ⟨ga, 0, none⟩ = some (.string nm)) (hb : w.cell? ⟨gb, 0, none⟩ = some (.int .i64 a)) (ht : Bx w gt (.string tx) 9)
    (hr0 : Kd.C k39 w A0 l0.length l0) (hc0 : l0.length ≤ c0) (hS : Short l0) (hn : nm.size ≤ maxLen) (h3 : ∀ x ∈ l0, x.f1.length = 3) (hcd : (readD l0 nm a).2 = 0) :
    Calls Try.prog 25 #[.pointer (some ⟨gx, 0, none⟩), .pointer (some ⟨ga, 0, none⟩), .pointer (some ⟨gb, 0, none⟩), .pointer (some ⟨gt, 0, none⟩)] w fun e w' => e = .returned (.int .i64 0) ∧ ∃ w1, Below w.heap.size w w1 ∧ w' = w1.setCell ⟨gt, 0, none⟩ (.string (readD l0 nm a).1) := by
  have HB := Aside0.mk (Below.refl w.heap.size w)
  have HBL := Aside0.mk (block_calls gx A0 c0 l0 nm a w hx hr0 hc0 hS hn h3)
  have HT := Aside0.mk ht
  rw [hcd] at HBL
  obtain ⟨tn, hE⟩ : ∃ tn, tn = (readD l0 nm a).1 := ⟨_, rfl⟩
  rw [← hE] at HBL ⊢
  clear hr0 hc0 hS hn h3 hE hcd ht
  go_enter Try.func25, Try.ntmps25
  go_wp2_with (first
    | (go_at_call 26; refine HBL.out.mono ?_; rintro e w9 ⟨p, rfl, hp, hb9⟩; obtain ⟨ad, rfl, hcell⟩ := hp rfl; have ht9 := (HT.out.below hb9).cell; have hf9 := (HT.out.below hb9).free; have n0_ := Aside0.mk (below_step (by repeat (first | (with_reducible first | exact HB.out | apply below_alloc | apply pw_below_drewN | apply below_drew1) | exact HB.out)) hb9); clear HB; have HB := n0_; clear n0_ hb9 hp)
    | go_in)
  go_ret
  exact ⟨rfl, _, HB.out, rfl⟩

/-! ### copied -/
theorem take_s (l : List S39) (i : Nat) (h : i < l.length) : l.take (i + 1) = l.take i ++ [l.getD i z39] := by
  rw [List.take_add_one]
  simp [List.getD, h]
theorem copy_l0 (l : List S39) (hl : l.length ≤ 4) (h3 : ∀ x ∈ l, x.f1.length = 3) (d : Nat) : ∀ i : Nat, i + d = l.length → Ev (fun k => impl_copyModel.l0 k l (l.length : Int) (i : Int) (l.take i)) l := by
  induction d with
  | zero =>
    intro i hi
    refine Pure.Ev.next ?_
    simp only [impl_copyModel.l0]
    exact Pure.Ev.neg (by omega) (Pure.Ev.ret (by rw [List.take_of_length_le (by omega)]))
  | succ d ih =>
    intro i hi
    have e : wrap64 ((i : Int) + 1) = ((i + 1 : Nat) : Int) := by rw [wrap_ok (by omega)]; omega
    have hih := ih (i + 1) (by omega)
    rw [take_s l i (by omega)] at hih
    have hb := h3 _ (getD_mem (z := z39) (i := i) (l := l) (by omega))
    have hc : slices_Clone_string.f (l.getD i z39).f1 = some (l.getD i z39).f1 := by unfold slices_Clone_string.f; rw [if_pos (by omega)]
    refine Pure.Ev.next ?_
    simp only [impl_copyModel.l0, e, rd39]
    clear e
    exact Pure.Ev.pos (by omega) (Pure.Ev.pos (by omega) (Pure.Ev.pos (by omega) (Pure.Ev.take hc (Pure.Ev.pos (by rw [List.length_take]; omega) hih))))
theorem copy_some (l : List S39) (hl : l.length ≤ 4) (h3 : ∀ x ∈ l, x.f1.length = 3) : ∃ k, impl_copyModel.f k l = some l :=
  Ev.rounds (copy_l0 l hl h3 l.length 0 (Nat.zero_add _))
theorem copy_calls (A0 : Option Addr) (c0 : Nat) (l0 : List S39) (hl : l0.length ≤ 4) (h3 : ∀ x ∈ l0, x.f1.length = 3) (w : World) (hr0 : Kd.C k39 w A0 l0.length l0) (hc0 : l0.length ≤ c0) :
    Calls Try.prog 33 #[.agg #[.slice A0 l0.length c0]] w fun e w' => ∃ A c, e = .returned (.agg #[.slice A l0.length c]) ∧ Kd.C k39 w' A l0.length l0 ∧ l0.length ≤ c ∧ Below w.heap.size w w' := by
  obtain ⟨k, hk⟩ := copy_some l0 hl h3
  refine (impl_copyModel.calls k A0 c0 l0 l0 w hr0 hc0 hk).mono ?_
  rintro e w' ⟨v, rfl, hs, hb⟩
  obtain ⟨A, c, rfl, h1, h2⟩ := Kd.S_reads hs
  exact ⟨A, c, rfl, h2, h1, hb⟩
end Go.Proofs.Ytmfehjkcefpeoaa.Print
