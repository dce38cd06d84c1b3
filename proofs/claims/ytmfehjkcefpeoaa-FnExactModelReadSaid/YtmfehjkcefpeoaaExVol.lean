/- Proved: impl.isVolName tells whether a text has one to three letters. Conditions: none. -/
import Derived.RangeFuncNested
import Derived.RangeFuncBound
import Derived.RangeFuncCalls
import Derived.RangeFuncLeaves
import Derived.RangeFuncFrom
import Derived.RangeFuncBox
import Derived.Shelf.Abstract
import Derived.Shelf.RegionOpen
import Derived.WalkKit
import Derived.OwnWalkIn
import Derived.TacticsInMore
import Derived.LoopNIn
import Derived.LoopIn
import Derived.Outline
import Derived.Lib.Hide
import Derived.Test.YtmfehjkcefpeoaaPrint0
namespace Go.Proofs.Ytmfehjkcefpeoaa.Print
open Go.RowKit Go.Shelf Go.Proofs.YtmfehjkcefpeoaaW.PrintWords

attribute [local go_sem] Oper.semAt_some

/-- A place of a text. -/
def Pos (s : ByteArray) : Type := { k : Nat // k < s.size }
def Pos.byte {s : ByteArray} (x : Pos s) : Int := ((s[x.1]'x.2).toNat : Int)
theorem Pos.byte_bd {s : ByteArray} (x : Pos s) : 0 ≤ x.byte ∧ x.byte < 256 := by
  unfold Pos.byte
  have := (s[x.1]'x.2).toNat_lt
  omega

/-- What a round keeps: the captured box. -/
def KC (Bs : Nat) (A B : World) : Prop := ∀ v, A.cell? ⟨Bs, 0, none⟩ = some v → B.cell? ⟨Bs, 0, none⟩ = some v
theorem KC.refl (Bs : Nat) (A : World) : KC Bs A A := fun _ h => h
theorem KC.trans {Bs : Nat} {A B C : World} (h : KC Bs A B) (k : KC Bs B C) : KC Bs A C := fun v hv => k v (h v hv)
theorem KC.book {Bs : Nat} (W : World) (l : Nat) (o o' : Obj) (h : W.heap[l]? = some o) (hc : o.isCells = false) : KC Bs W (W.putObj l o') :=
  fun _ hv => cell_kept hv (grownBy_putObj' W l o') (fun r e => by cases e; exact ⟨o, h, hc⟩)
theorem KC.set {Bs : Nat} (W : World) (p : Addr) (x : Value) (h : p.block ≠ Bs) : KC Bs W (W.setCell p x) :=
  fun _ hv => (World.cell?_setCell_other W p ⟨Bs, 0, none⟩ x (fun e => h (by rw [e]))).trans hv

set_option maxRecDepth 100000 in
set_option maxHeartbeats 2000000 in
/-- The iterator over a text: each byte with its place, from 1 on. -/
theorem bytesOf1_in (F : Fence) (n : Nat) (h54 : F.fn 36) (hro : F.round = none) (hn : 1 ≤ n) (l Bs : Nat) (s : ByteArray) (hs : s.size ≤ 140737488355328) (J Jx : List (Pos s) → World → Prop)
    (hY : ∀ pre x W, J pre W → pre.length < s.size → YieldAt F (n - 1) Try.prog l #[.int .i64 ((x.1 : Int) + 1), .int .u8 ((s[x.1]'x.2).toNat : Int)] W fun e W' =>
      (e = .returned (.bool true) ∧ J (pre ++ [x]) W' ∧ KC Bs W W') ∨ (e = .returned (.bool false) ∧ Jx (pre ++ [x]) W'))
    (W : World) (hBs : W.cell? ⟨Bs, 0, none⟩ = some (.string s)) (h0 : J [] W) :
    CallsIn F n Try.prog 36 #[.func (.yield l) #[] #[], .pointer (some ⟨Bs, 0, none⟩)] W fun e W' => (∃ v, e = .returned v) ∧
      ((∃ ys : List (Pos s), ys.map (·.1) = List.range s.size ∧ J ys W') ∨ (∃ pre : List (Pos s), (∃ k, k ≤ s.size ∧ pre.map (·.1) = List.range k) ∧ Jx pre W')) := by
  refine callsIn_of_wp Try.func36 rfl h54 ?_ hro
  simp only [Try.ntmps36, List.size_toArray, List.length_cons, List.length_nil, Nat.reduceAdd, Nat.reduceSub, Array.replicate_succ, Array.replicate_zero, List.push_toArray, List.append_toArray, List.nil_append, List.cons_append]
  gi_wp2
  gi_loopw [6] (fun i wr => ∃ (k : Nat) (pre : List (Pos s)), k ≤ s.size ∧ i = .int .i64 k ∧ Hid (pre.map (·.1) = List.range k) ∧ J pre wr ∧ KC Bs W wr)
    (fun i _ => s.size - (intOf i).toNat)
  case atStart => exact ⟨0, [], Nat.zero_le _, rfl, Lib.hid rfl, h0, KC.refl _ _⟩
  case round =>
    obtain ⟨k, pre, hk, rfl, hpre, hJs, hnx⟩ := hrel
    have hBr : wr.cell? ⟨Bs, 0, none⟩ = some (.string s) := hnx _ hBs
    have hlen : pre.length = k := by have := congrArg List.length hpre.out; simpa using this
    by_cases hlt : k < s.size
    · obtain ⟨fn, tmps, assign, body, hy, hR⟩ := hY pre ⟨k, hlt⟩ wr hJs (by omega)
      have Hlen := Lib.hid hlen; clear hlen
      dsimp only at hy
      gi_wp2
      refine hR.mono ?_
      rintro e W3 (⟨rfl, hJ3, hk3⟩ | ⟨rfl, hJx3⟩)
      · gi_wp2
        go_roundw
        case rel => exact ⟨k + 1, _, by omega, by simp, Lib.hid (by rw [List.map_append, hpre.out, List.range_succ]; rfl), hJ3, hnx.trans hk3⟩
        case measure => simp [intOf]; omega
      · gi_wp2
        refine bodyPost_ret (results_none rfl _ _ _) rfl ?_
        exact ⟨⟨_, rfl⟩, .inr ⟨_, ⟨k + 1, by omega, by rw [List.map_append, hpre.out, List.range_succ]; rfl⟩, hJx3⟩⟩
    · obtain rfl : k = s.size := by omega
      have Hlen := Lib.hid hlen; clear hlen
      gi_wp2
      go_end0
      exact ⟨⟨_, rfl⟩, .inl ⟨_, hpre.out, hJs⟩⟩

set_option maxHeartbeats 1000000 in
/-- bytesOf boxes its text; the function value captures the box. -/
theorem bytesOf_in (F : Fence) (n : Nat) (h40 : F.fn 31) (hro : F.round = none) (s : ByteArray) (w : World) :
    CallsIn F n Try.prog 31 #[.string s] w fun e w' => e = .returned (.func (.func 36) #[] #[.pointer (some ⟨w.heap.size, 0, none⟩)]) ∧ w' = w.alloc (.cells #[.string s] 9) := by
  refine callsIn_of_wp Try.func31 rfl h40 ?_ hro
  simp only [Try.ntmps31, List.size_toArray, List.length_cons, List.length_nil, Nat.reduceAdd, Nat.reduceSub, Array.replicate_succ, Array.replicate_zero, List.push_toArray, List.append_toArray, List.nil_append, List.cons_append]
  gi_wp2
  go_ret
  exact ⟨rfl, rfl⟩

/-- The iterator's contract. -/
theorem bytesOf_stops (F : Fence) (n : Nat) (h54 : F.fn 36) (hro : F.round = none) (hn : 1 ≤ n) (Bs : Nat) (s : ByteArray) (hs : s.size ≤ 140737488355328) (w : World) (hBs : Bs < w.heap.size)
    (hc : w.cell? ⟨Bs, 0, none⟩ = some (.string s)) :
    SeqStopsK F n Try.prog 36 #[.pointer (some ⟨Bs, 0, none⟩)] (fun x : Pos s => #[Value.int .i64 ((x.1 : Int) + 1), Value.int .u8 ((s[x.1]'x.2).toNat : Int)]) (KC Bs)
      (fun ys => ys.map (·.1) = List.range s.size) (fun pre => ∃ k, k ≤ s.size ∧ pre.map (·.1) = List.range k) s.size w := fun l J Jx W hW _ _ hY h0 =>
  bytesOf1_in F n h54 hro hn l Bs s hs J Jx hY W ((hW.cell (p := ⟨Bs, 0, none⟩) hBs).trans hc) h0

theorem cell_of_box_l {W : World} {B : Nat} {v : Value} {t : TypeId} (h : W.heap[B]? = some (.cells #[v] t (0, 0))) : W.cell? ⟨B, 0, none⟩ = some v ∧ W.frozen? ⟨B, 0, none⟩ = false := by
  constructor <;> simp [World.cell?, World.frozen?, h]
theorem cell_new_l (W : World) (v : Value) (t : TypeId) : (W.alloc (.cells #[v] t)).cell? ⟨W.heap.size, 0, none⟩ = some v ∧ (W.alloc (.cells #[v] t)).frozen? ⟨W.heap.size, 0, none⟩ = false :=
  cell_of_box_l (World.alloc_heap_new W _)
theorem cell_alloc_l {W : World} {a : Addr} {v : Value} (o : Obj) (h : W.cell? a = some v) : (W.alloc o).cell? a = some v := cell_kept h (World.grownBy_alloc W o none) (fun r e => by cases e)
theorem frozen_alloc_l {W : World} {a : Addr} {v : Value} (o : Obj) (h : W.cell? a = some v) (hf : W.frozen? a = false) : (W.alloc o).frozen? a = false := (frozen_kept h (World.grownBy_alloc W o none) (fun r e => by cases e)).trans hf

/-! ### isVolName -/
def letB (b : Int) : Bool := decide (97 ≤ b ∧ b ≤ 122)
/-- A name: one to three letters. -/
def volB (s : ByteArray) : Bool := decide (1 ≤ s.size ∧ s.size ≤ 3) && (List.range s.size).all fun (i : Nat) => letB (bt s (i : Int))
theorem Pos.byte_bt {s : ByteArray} (x : Pos s) : x.byte = bt s (x.1 : Int) := by
  have := x.2
  simp [Pos.byte, bt, this]
theorem vol_all {s : ByteArray} (h : 1 ≤ s.size ∧ s.size ≤ 3) (l : List (Pos s)) (hl : l.map (·.1) = List.range s.size) (ha : ∀ x ∈ l, letB x.byte = true) : volB s = true := by
  unfold volB
  rw [decide_eq_true h, Bool.true_and, List.all_eq_true]
  intro i hi
  rw [← hl] at hi
  obtain ⟨x, hx, rfl⟩ := List.mem_map.1 hi
  rw [← Pos.byte_bt]
  exact ha x hx
theorem vol_not {s : ByteArray} (x : Pos s) (h : letB x.byte = false) : volB s = false := by
  rw [Bool.eq_false_iff]
  intro hv
  unfold volB at hv
  rw [Bool.and_eq_true, List.all_eq_true] at hv
  have := hv.2 x.1 (List.mem_range.2 x.2)
  rw [← Pos.byte_bt, h] at this
  cases this
theorem vol_long {s : ByteArray} (h : ¬ (1 ≤ s.size ∧ s.size ≤ 3)) : volB s = false := by
  unfold volB
  rw [decide_eq_false h, Bool.false_and]
def impl_isVolName.f (a0 : ByteArray) : Option Bool := some (volB a0)

set_option maxRecDepth 100000 in
set_option maxHeartbeats 4000000 in
theorem isVol_in (F : Fence) (n : Nat) (h38 : F.fn 21) (h40 : F.fn 31) (h54 : F.fn 36) (hro : F.round = none) (hn : 3 ≤ n) (s : ByteArray) (hs : 1 ≤ s.size ∧ s.size ≤ 3) (w : World) :
    CallsIn F n Try.prog 21 #[.string s] w fun e W' => e = .returned (.bool (volB s)) ∧ Below w.heap.size w W' := by
  have h1 : 1 ≤ n := by omega
  have hl : s.toList.length = s.size := by simp [ByteArray.toList_eq]
  have hne : (s.toList == ([] : List UInt8)) = false := by
    rw [Bool.eq_false_iff]
    intro h
    rw [beq_iff_eq] at h
    rw [h] at hl
    simp at hl
    omega
  have hlt : decide ((s.size : Int) > 3) = false := decide_eq_false (by omega)
  refine callsIn_of_wp_marks Try.func21 rfl h38 ?_ hro
  simp only [Try.ntmps21, List.size_toArray, List.length_cons, List.length_nil, Nat.reduceAdd, Nat.reduceSub, Array.replicate_succ, Array.replicate_zero, List.push_toArray, List.append_toArray, List.nil_append, List.cons_append]
  gi_wp2_with (gi_at_call 31; refine (bytesOf_in F (n - 1) h40 hro _ _).mono ?_; rintro e w' ⟨rfl, rfl⟩)
  have hc0 := cell_new_l w (.bool false) 4
  have hb := cell_new_l (w.alloc (.cells #[.bool false] 4)) (.string s) 9
  rw [World.size_alloc] at hb
  have hB0 : Below w.heap.size w ((w.alloc (.cells #[.bool false] 4)).alloc (.cells #[.string s] 9)) := ((Below.refl _ w).alloc (Nat.le_refl _) _).alloc (by simp) _
  refine wpIn_rangeFunc_ownF hro h1 (gf := 36) (lb := #[.pointer (some ⟨w.heap.size + 1, 0, none⟩)]) rfl h54 (enters_of Try.func36 (by kernel_rfl) rfl)
    (bytesOf_stops F (n - 1) h54 hro (by omega) (w.heap.size + 1) s (by omega) _ (by simp) hb.1) KC.trans (fun W l o o' _ h hc _ => KC.book W l o o' h hc) (Below.refl _ _) (fun _ => rfl)
    (fun pre W => ((W.cell? ⟨w.heap.size, 0, none⟩ = some (.bool false) ∧ W.frozen? ⟨w.heap.size, 0, none⟩ = false)) ∧ Below w.heap.size w W ∧ ∀ x ∈ pre, letB x.byte = true)
    (fun c _ W => ((W.cell? ⟨w.heap.size, 0, none⟩ = some (.bool false) ∧ W.frozen? ⟨w.heap.size, 0, none⟩ = false)) ∧ Below w.heap.size w W ∧ c = .ret ∧ volB s = false)
    (OwnFrom.and (Own.from (fun s A B row hs hg hr => ⟨cell_kept hs.1 hg hr, (frozen_kept hs.1 hg hr).trans hs.2⟩) _) (OwnFrom.and (ownFrom_below (Nat.le_refl _) (by simp; omega)) (fun _ _ _ _ hs _ _ => hs)))
    (fun c => OwnFrom.and (Own.from (fun s A B row hs hg hr => ⟨cell_kept hs.1 hg hr, (frozen_kept hs.1 hg hr).trans hs.2⟩) _) (OwnFrom.and (ownFrom_below (Nat.le_refl _) (by simp; omega)) (fun _ _ _ _ hs _ _ => hs)))
    ⟨⟨cell_alloc_l _ hc0.1, frozen_alloc_l _ hc0.1 hc0.2⟩, hB0, by simp⟩
    (fun x => { tmps := #[.string s, undef, .pointer (some ⟨w.heap.size, 0, none⟩), undef, .int .u8 ((s[x.1]'x.2).toNat : Int), .string s, .bool false, .bool false, .string s, .int .i64 (s.size : Int), .bool false, .bool false, .string s, .func (.func 36) #[] #[.pointer (some ⟨w.heap.size + 1, 0, none⟩)], .int .i64 ((x.1 : Int) + 1), .int .u8 ((s[x.1]'x.2).toNat : Int), undef, undef, undef, undef, undef, undef], defers := [] }) ?assign ?body ?done ?stop
  case assign =>
    intro l x W K hK
    gi_wp2
    exact hK
  case body =>
    rintro l pre x W ⟨⟨hc, hf⟩, hB, hA⟩ hlen
    have hbt : x.byte = ((s[x.1]'x.2).toNat : Int) := rfl
    by_cases hL : letB x.byte = true
    · have hL2 : 97 ≤ x.byte ∧ x.byte ≤ 122 := of_decide_eq_true hL
      have d1 : decide (((s[x.1]'x.2).toNat : Int) < 97) = false := decide_eq_false (by omega)
      have d2 : decide (((s[x.1]'x.2).toNat : Int) > 122) = false := decide_eq_false (by omega)
      gi_wp2
      exact ⟨KeepsOthers.refl _, KC.refl _ _, ⟨hc, hf⟩, hB, fun y hy => (List.mem_append.1 hy).elim (hA y) (fun e => by simp at e; subst e; exact hL)⟩
    · have hL' : letB x.byte = false := by simpa using hL
      have hv := Lib.hid (vol_not x hL')
      have hL2 : ¬ (97 ≤ x.byte ∧ x.byte ≤ 122) := of_decide_eq_false hL'
      by_cases d : ((s[x.1]'x.2).toNat : Int) < 97
      · have d1 : decide (((s[x.1]'x.2).toNat : Int) < 97) = true := decide_eq_true d
        gi_wp2
        exact ⟨KeepsOthers.setCell _ _ _, ⟨World.cell?_setCell_same' _ _ _ (by rw [hc]; rfl), by rw [World.frozen?_setCell]; exact hf⟩, hB.setCell (p := ⟨w.heap.size, 0, none⟩) (Nat.le_refl _) _, rfl, hv.out⟩
      · have d1 : decide (((s[x.1]'x.2).toNat : Int) < 97) = false := decide_eq_false d
        have d2 : decide (((s[x.1]'x.2).toNat : Int) > 122) = true := decide_eq_true (by omega)
        gi_wp2
        exact ⟨KeepsOthers.setCell _ _ _, ⟨World.cell?_setCell_same' _ _ _ (by rw [hc]; rfl), by rw [World.frozen?_setCell]; exact hf⟩, hB.setCell (p := ⟨w.heap.size, 0, none⟩) (Nat.le_refl _) _, rfl, hv.out⟩
  case done =>
    rintro D ys W hD hS ⟨⟨hc, hf⟩, hB, hA⟩ hK
    have hv := Lib.hid (vol_all hs ys hS hA)
    clear hS hA
    gi_wp2
    have hK' := (KeepsOthers.setCell W ⟨w.heap.size, 0, none⟩ (.bool true)).same D _ hK rfl
    refine ⟨by simp, .inl ⟨_, _, rfl, run_takeDeferred hK', ?_⟩⟩
    have hc5 := cell_kept (World.cell?_setCell_same' W ⟨w.heap.size, 0, none⟩ (.bool true) (by rw [hc]; rfl)) (grownBy_putObj' _ D (.deferred none)) (fun r e => by cases e; exact ⟨_, hK', rfl⟩)
    refine ⟨.bool true, ?_, by rw [hv.out], (hB.setCell (p := ⟨w.heap.size, 0, none⟩) (Nat.le_refl _) _).trans (belowK_b (w := w) (Nat.le_refl _) _ D _ _ (by simp at hD; omega) hK' rfl rfl)⟩
    simp [results, Try.f21, go_sem, hc5]
  case stop =>
    rintro D c pre W hD _ ⟨⟨hc, hf⟩, hB, rfl, hv0⟩ hK
    have hv := Lib.hid hv0
    clear hv0
    gi_wp2
    refine ⟨by simp, .inl ⟨_, _, rfl, run_takeDeferred hK, ?_⟩⟩
    have hc5 := cell_kept hc (grownBy_putObj' _ D (.deferred none)) (fun r e => by cases e; exact ⟨_, hK, rfl⟩)
    refine ⟨.bool false, ?_, by rw [hv.out], hB.trans (belowK_b (w := w) (Nat.le_refl _) _ D _ _ (by simp at hD; omega) hK rfl rfl)⟩
    simp [results, Try.f21, go_sem, hc5]

set_option maxHeartbeats 1000000 in
theorem isVol_long (s : ByteArray) (hs : ¬ (1 ≤ s.size ∧ s.size ≤ 3)) (w : World) :
    Calls Try.prog 21 #[.string s] w fun e W' => e = .returned (.bool (volB s)) ∧ Below w.heap.size w W' := by
  have hl : s.toList.length = s.size := by simp [ByteArray.toList_eq]
  have hv := Lib.hid (vol_long hs)
  by_cases h0 : s.size = 0
  · have h1 : (s.toList == ([] : List UInt8)) = true := by
      rw [beq_iff_eq]
      exact List.eq_nil_of_length_eq_zero (by omega)
    go_enter Try.func21, Try.ntmps21
    go_wp2
    have hc5 := (cell_new_l w (.bool false) 4).1
    exact bodyPost_ret (v := .bool false) (by simp [results, Try.f21, go_sem, hc5]) rfl ⟨by rw [hv.out], (Below.refl _ w).alloc (Nat.le_refl _) _⟩
  · have h1 : (s.toList == ([] : List UInt8)) = false := by
      rw [Bool.eq_false_iff]
      intro h
      rw [beq_iff_eq] at h
      rw [h] at hl
      simp at hl
      omega
    have h2 : decide ((s.size : Int) > 3) = true := decide_eq_true (by omega)
    go_enter Try.func21, Try.ntmps21
    go_wp2
    have hc5 := (cell_new_l w (.bool false) 4).1
    exact bodyPost_ret (v := .bool false) (by simp [results, Try.f21, go_sem, hc5]) rfl ⟨by rw [hv.out], (Below.refl _ w).alloc (Nat.le_refl _) _⟩
theorem impl_isVolName.calls (a0 : ByteArray) (r : Bool) (w : World) (h : impl_isVolName.f a0 = some r) :
    Calls Try.prog 21 #[.string a0] w fun e w' => e = .returned (.bool r) ∧ Below w.heap.size w w' := by
  obtain rfl : volB a0 = r := by simpa [impl_isVolName.f] using h
  by_cases hs : 1 ≤ a0.size ∧ a0.size ≤ 3
  · exact (callsIn_wide (n := 3)).1 (isVol_in Fence.wide 3 trivial trivial trivial rfl (by omega) a0 hs w)
  · exact isVol_long a0 hs w

end Go.Proofs.Ytmfehjkcefpeoaa.Print
