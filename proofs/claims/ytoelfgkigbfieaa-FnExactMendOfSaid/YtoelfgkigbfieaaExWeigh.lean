/- Proved: impl.weigh adds up byte times (65536 + place) over a text (places from 1 on); impl.bytesOf's iterator hands out the bytes with their places. Conditions: the text has at most 2097152 bytes. -/
import Derived.RangeFuncNested
import Derived.RangeFuncBound
import Derived.RangeFuncCalls
import Derived.RangeFuncLeaves
import Derived.RangeFuncFrom
import Derived.RangeFuncBox
import Derived.Shelf.Abstract
import Derived.Shelf.RegionOpen
import Derived.WalkKit
import Derived.OwnWalkIn
import Derived.TacticsInMore
import Derived.LoopNIn
import Derived.LoopIn
import Derived.Outline
import Derived.Lib.Hide
import Derived.Test.YtoelfgkigbfieaaPrint0
namespace Go.Proofs.Ytoelfgkigbfieaa.Print
open Go.RowKit Go.Shelf Go.Proofs.YtoelfgkigbfieaaW.PrintWords

attribute [local go_sem] Oper.semAt_some

/-- A place of a text. -/
def Pos (s : ByteArray) : Type := { k : Nat // k < s.size }
def Pos.byte {s : ByteArray} (x : Pos s) : Int := ((s[x.1]'x.2).toNat : Int)
theorem Pos.byte_bd {s : ByteArray} (x : Pos s) : 0 ≤ x.byte ∧ x.byte < 256 := by
  unfold Pos.byte
  have := (s[x.1]'x.2).toNat_lt
  omega

/-- What a round keeps: the captured box. -/
def KC (Bs : Nat) (A B : World) : Prop := ∀ v, A.cell? ⟨Bs, 0, none⟩ = some v → B.cell? ⟨Bs, 0, none⟩ = some v
theorem KC.refl (Bs : Nat) (A : World) : KC Bs A A := fun _ h => h
theorem KC.trans {Bs : Nat} {A B C : World} (h : KC Bs A B) (k : KC Bs B C) : KC Bs A C := fun v hv => k v (h v hv)
theorem KC.book {Bs : Nat} (W : World) (l : Nat) (o o' : Obj) (h : W.heap[l]? = some o) (hc : o.isCells = false) : KC Bs W (W.putObj l o') :=
  fun _ hv => cell_kept hv (grownBy_putObj' W l o') (fun r e => by cases e; exact ⟨o, h, hc⟩)
theorem KC.set {Bs : Nat} (W : World) (p : Addr) (x : Value) (h : p.block ≠ Bs) : KC Bs W (W.setCell p x) :=
  fun _ hv => (World.cell?_setCell_other W p ⟨Bs, 0, none⟩ x (fun e => h (by rw [e]))).trans hv

set_option maxRecDepth 100000 in
set_option maxHeartbeats 2000000 in
/-- The iterator over a text: each byte with its place, from 1 on. -/
theorem bytesOf1_in (F : Fence) (n : Nat) (h54 : F.fn 54) (hro : F.round = none) (hn : 1 ≤ n) (l Bs : Nat) (s : ByteArray) (hs : s.size ≤ 140737488355328) (J Jx : List (Pos s) → World → Prop)
    (hY : ∀ pre x W, J pre W → pre.length < s.size → YieldAt F (n - 1) Try.prog l #[.int .i64 ((x.1 : Int) + 1), .int .u8 ((s[x.1]'x.2).toNat : Int)] W fun e W' =>
      (e = .returned (.bool true) ∧ J (pre ++ [x]) W' ∧ KC Bs W W') ∨ (e = .returned (.bool false) ∧ Jx (pre ++ [x]) W'))
    (W : World) (hBs : W.cell? ⟨Bs, 0, none⟩ = some (.string s)) (h0 : J [] W) :
    CallsIn F n Try.prog 54 #[.func (.yield l) #[] #[], .pointer (some ⟨Bs, 0, none⟩)] W fun e W' => (∃ v, e = .returned v) ∧
      ((∃ ys : List (Pos s), ys.map (·.1) = List.range s.size ∧ J ys W') ∨ (∃ pre : List (Pos s), (∃ k, k ≤ s.size ∧ pre.map (·.1) = List.range k) ∧ Jx pre W')) := by
  refine callsIn_of_wp Try.func54 rfl h54 ?_ hro
  simp only [Try.ntmps54, List.size_toArray, List.length_cons, List.length_nil, Nat.reduceAdd, Nat.reduceSub, Array.replicate_succ, Array.replicate_zero, List.push_toArray, List.append_toArray, List.nil_append, List.cons_append]
  gi_wp2
  gi_loopw [6] (fun i wr => ∃ (k : Nat) (pre : List (Pos s)), k ≤ s.size ∧ i = .int .i64 k ∧ Hid (pre.map (·.1) = List.range k) ∧ J pre wr ∧ KC Bs W wr)
    (fun i _ => s.size - (intOf i).toNat)
  case atStart => exact ⟨0, [], Nat.zero_le _, rfl, Lib.hid rfl, h0, KC.refl _ _⟩
  case round =>
    obtain ⟨k, pre, hk, rfl, hpre, hJs, hnx⟩ := hrel
    have hBr : wr.cell? ⟨Bs, 0, none⟩ = some (.string s) := hnx _ hBs
    have hlen : pre.length = k := by have := congrArg List.length hpre.out; simpa using this
    by_cases hlt : k < s.size
    · obtain ⟨fn, tmps, assign, body, hy, hR⟩ := hY pre ⟨k, hlt⟩ wr hJs (by omega)
      have Hlen := Lib.hid hlen; clear hlen
      dsimp only at hy
      gi_wp2
      refine hR.mono ?_
      rintro e W3 (⟨rfl, hJ3, hk3⟩ | ⟨rfl, hJx3⟩)
      · gi_wp2
        go_roundw
        case rel => exact ⟨k + 1, _, by omega, by simp, Lib.hid (by rw [List.map_append, hpre.out, List.range_succ]; rfl), hJ3, hnx.trans hk3⟩
        case measure => simp [intOf]; omega
      · gi_wp2
        refine bodyPost_ret (results_none rfl _ _ _) rfl ?_
        exact ⟨⟨_, rfl⟩, .inr ⟨_, ⟨k + 1, by omega, by rw [List.map_append, hpre.out, List.range_succ]; rfl⟩, hJx3⟩⟩
    · obtain rfl : k = s.size := by omega
      have Hlen := Lib.hid hlen; clear hlen
      gi_wp2
      go_end0
      exact ⟨⟨_, rfl⟩, .inl ⟨_, hpre.out, hJs⟩⟩

set_option maxHeartbeats 1000000 in
/-- bytesOf boxes its text; the function value captures the box. -/
theorem bytesOf_in (F : Fence) (n : Nat) (h40 : F.fn 40) (hro : F.round = none) (s : ByteArray) (w : World) :
    CallsIn F n Try.prog 40 #[.string s] w fun e w' => e = .returned (.func (.func 54) #[] #[.pointer (some ⟨w.heap.size, 0, none⟩)]) ∧ w' = w.alloc (.cells #[.string s] 9) := by
  refine callsIn_of_wp Try.func40 rfl h40 ?_ hro
  simp only [Try.ntmps40, List.size_toArray, List.length_cons, List.length_nil, Nat.reduceAdd, Nat.reduceSub, Array.replicate_succ, Array.replicate_zero, List.push_toArray, List.append_toArray, List.nil_append, List.cons_append]
  gi_wp2
  go_ret
  exact ⟨rfl, rfl⟩

/-- The iterator's contract. -/
theorem bytesOf_stops (F : Fence) (n : Nat) (h54 : F.fn 54) (hro : F.round = none) (hn : 1 ≤ n) (Bs : Nat) (s : ByteArray) (hs : s.size ≤ 140737488355328) (w : World) (hBs : Bs < w.heap.size)
    (hc : w.cell? ⟨Bs, 0, none⟩ = some (.string s)) :
    SeqStopsK F n Try.prog 54 #[.pointer (some ⟨Bs, 0, none⟩)] (fun x : Pos s => #[Value.int .i64 ((x.1 : Int) + 1), Value.int .u8 ((s[x.1]'x.2).toNat : Int)]) (KC Bs)
      (fun ys => ys.map (·.1) = List.range s.size) (fun pre => ∃ k, k ≤ s.size ∧ pre.map (·.1) = List.range k) s.size w := fun l J Jx W hW _ _ hY h0 =>
  bytesOf1_in F n h54 hro hn l Bs s hs J Jx hY W ((hW.cell (p := ⟨Bs, 0, none⟩) hBs).trans hc) h0

theorem cell_of_box_l {W : World} {B : Nat} {v : Value} {t : TypeId} (h : W.heap[B]? = some (.cells #[v] t (0, 0))) : W.cell? ⟨B, 0, none⟩ = some v ∧ W.frozen? ⟨B, 0, none⟩ = false := by
  constructor <;> simp [World.cell?, World.frozen?, h]
theorem cell_new_l (W : World) (v : Value) (t : TypeId) : (W.alloc (.cells #[v] t)).cell? ⟨W.heap.size, 0, none⟩ = some v ∧ (W.alloc (.cells #[v] t)).frozen? ⟨W.heap.size, 0, none⟩ = false :=
  cell_of_box_l (World.alloc_heap_new W _)
theorem cell_alloc_l {W : World} {a : Addr} {v : Value} (o : Obj) (h : W.cell? a = some v) : (W.alloc o).cell? a = some v := cell_kept h (World.grownBy_alloc W o none) (fun r e => by cases e)
theorem frozen_alloc_l {W : World} {a : Addr} {v : Value} (o : Obj) (h : W.cell? a = some v) (hf : W.frozen? a = false) : (W.alloc o).frozen? a = false := (frozen_kept h (World.grownBy_alloc W o none) (fun r e => by cases e)).trans hf

/-! ### weigh -/
def wterm {s : ByteArray} (x : Pos s) : Int := x.byte * (65536 + ((x.1 : Int) + 1))
def wsumP {s : ByteArray} (l : List (Pos s)) : Int := l.foldl (fun a x => a + wterm x) 0
theorem wsumP_snoc {s : ByteArray} (l : List (Pos s)) (x : Pos s) : wsumP (l ++ [x]) = wsumP l + wterm x := by simp [wsumP, List.foldl_append]
theorem wterm_bd {s : ByteArray} (h : s.size ≤ 2097152) (x : Pos s) : 0 ≤ wterm x ∧ wterm x ≤ 551485440 := by
  have hb := x.byte_bd
  have hx := x.2
  unfold wterm
  constructor
  · exact Int.mul_nonneg hb.1 (by omega)
  · have h1 : x.byte * (65536 + ((x.1 : Int) + 1)) ≤ 255 * (65536 + ((x.1 : Int) + 1)) := Int.mul_le_mul_of_nonneg_right (by omega) (by omega)
    omega
theorem wfold_bd {s : ByteArray} (h : s.size ≤ 2097152) (l : List (Pos s)) : ∀ a : Int, 0 ≤ a → a ≤ l.foldl (fun a x => a + wterm x) a ∧ l.foldl (fun a x => a + wterm x) a ≤ a + l.length * 551485440 := by
  induction l with
  | nil => intro a _; simp
  | cons x l ih =>
    intro a ha
    have ht := wterm_bd h x
    have := ih (a + wterm x) (by omega)
    simp only [List.foldl_cons, List.length_cons]
    omega
theorem wsumP_bd {s : ByteArray} (h : s.size ≤ 2097152) (l : List (Pos s)) : 0 ≤ wsumP l ∧ wsumP l ≤ l.length * 551485440 := by
  have := wfold_bd h l 0 (Int.le_refl _)
  unfold wsumP
  omega
/-- The sum of the first k bytes, each times 65536 and its place. -/
def wsum (s : ByteArray) : Nat → Int
  | 0 => 0
  | k + 1 => wsum s k + bt s (k : Int) * (65536 + ((k : Int) + 1))
theorem Pos.byte_bt {s : ByteArray} (x : Pos s) : x.byte = bt s (x.1 : Int) := by
  have := x.2
  simp [Pos.byte, bt, this]
theorem wsumP_range {s : ByteArray} (k : Nat) : ∀ (l : List (Pos s)), l.map (·.1) = List.range k → wsumP l = wsum s k := by
  induction k with
  | zero =>
    intro l h
    obtain rfl : l = [] := by simpa using h
    rfl
  | succ k ih =>
    intro l h
    rcases List.eq_nil_or_concat l with rfl | ⟨l', x, rfl⟩
    · simp [List.range_succ] at h
    · rw [List.range_succ, List.concat_eq_append, List.map_append] at h
      have h2 := List.append_inj' h (by simp)
      obtain ⟨h3, h4⟩ := h2
      have hx : x.1 = k := by simpa using h4
      rw [List.concat_eq_append, wsumP_snoc, ih _ h3, wterm, Pos.byte_bt, hx]
      rfl
def impl_weigh.f (a0 : ByteArray) : Option (Int) := if a0.size ≤ 2097152 then some (wsum a0 a0.size) else none

set_option maxRecDepth 100000 in
set_option maxHeartbeats 4000000 in
theorem weigh_in (F : Fence) (n : Nat) (h38 : F.fn 38) (h40 : F.fn 40) (h54 : F.fn 54) (hro : F.round = none) (hn : 3 ≤ n) (s : ByteArray) (hs : s.size ≤ 2097152) (w : World) :
    CallsIn F n Try.prog 38 #[.string s] w fun e W' => e = .returned (.int .i64 (wsum s s.size)) ∧ Below w.heap.size w W' := by
  have h1 : 1 ≤ n := by omega
  refine callsIn_of_wp_marks Try.func38 rfl h38 ?_ hro
  simp only [Try.ntmps38, List.size_toArray, List.length_cons, List.length_nil, Nat.reduceAdd, Nat.reduceSub, Array.replicate_succ, Array.replicate_zero, List.push_toArray, List.append_toArray, List.nil_append, List.cons_append]
  gi_wp2_with (gi_at_call 40; refine (bytesOf_in F (n - 1) h40 hro _ _).mono ?_; rintro e w' ⟨rfl, rfl⟩)
  have hc0 := cell_new_l w (.int .i64 0) 3
  have hb := cell_new_l (w.alloc (.cells #[.int .i64 0] 3)) (.string s) 9
  rw [World.size_alloc] at hb
  have hB0 : Below w.heap.size w ((w.alloc (.cells #[.int .i64 0] 3)).alloc (.cells #[.string s] 9)) := ((Below.refl _ w).alloc (Nat.le_refl _) _).alloc (by simp) _
  refine wpIn_rangeFunc_ownF hro h1 (gf := 54) (lb := #[.pointer (some ⟨w.heap.size + 1, 0, none⟩)]) rfl h54 (enters_of Try.func54 (by kernel_rfl) rfl)
    (bytesOf_stops F (n - 1) h54 hro (by omega) (w.heap.size + 1) s (by omega) _ (by simp) hb.1) KC.trans (fun W l o o' _ h hc _ => KC.book W l o o' h hc) (Below.refl _ _) (fun _ => rfl)
    (fun pre W => ((W.cell? ⟨w.heap.size, 0, none⟩ = some (.int .i64 (wsumP pre)) ∧ W.frozen? ⟨w.heap.size, 0, none⟩ = false)) ∧ Below w.heap.size w W)
    (fun _ _ _ => False)
    (OwnFrom.and (Own.from (fun s A B row hs hg hr => ⟨cell_kept hs.1 hg hr, (frozen_kept hs.1 hg hr).trans hs.2⟩) _) (ownFrom_below (Nat.le_refl _) (by simp; omega)))
    (fun _ _ _ _ _ hs _ _ => hs)
    ⟨⟨cell_alloc_l _ hc0.1, frozen_alloc_l _ hc0.1 hc0.2⟩, hB0⟩
    (fun x => { tmps := #[.string s, undef, .int .i64 0, .pointer (some ⟨w.heap.size, 0, none⟩), .int .i64 ((x.1 : Int) + 1), .int .u8 ((s[x.1]'x.2).toNat : Int), .string s, .func (.func 54) #[] #[.pointer (some ⟨w.heap.size + 1, 0, none⟩)], .int .i64 ((x.1 : Int) + 1), .int .u8 ((s[x.1]'x.2).toNat : Int), undef, undef, undef, undef, undef, undef, undef, undef], defers := [] }) ?assign ?body ?done ?stop
  case assign =>
    intro l x W K hK
    gi_wp2
    exact hK
  case body =>
    rintro l pre x W ⟨⟨hc, hf⟩, hB⟩ hlen
    have hbd := x.byte_bd
    have hx := x.2
    have hsb := wsumP_bd hs pre
    have htb := wterm_bd hs x
    have hb1 : ((s[x.1]'x.2).toNat : Int) < 256 := hbd.2
    have htw : wterm x = ((s[x.1]'x.2).toNat : Int) * (65536 + ((x.1 : Int) + 1)) := rfl
    have hm : (pre.length : Int) * 551485440 ≤ 2097152 * 551485440 := Int.mul_le_mul_of_nonneg_right (by omega) (by omega)
    have he : wrap64 (wsumP pre + wrap64 (((s[x.1]'x.2).toNat : Int) * (65536 + ((x.1 : Int) + 1)))) = wsumP (pre ++ [x]) := by
      rw [wsumP_snoc, ← htw]
      unfold wrap64
      omega
    have He := Lib.hid he
    have Htw := Lib.hid htw
    clear he htw
    gi_wp2
    rw [He.out]
    exact ⟨KeepsOthers.setCell _ _ _, KC.set _ _ _ (by simp), ⟨World.cell?_setCell_same' _ _ _ (by rw [hc]; rfl), by rw [World.frozen?_setCell]; exact hf⟩, hB.setCell (p := ⟨w.heap.size, 0, none⟩) (Nat.le_refl _) _⟩
  case done =>
    rintro D ys W hD hS ⟨⟨hc, hf⟩, hB⟩ hK
    have He := Lib.hid (wsumP_range s.size ys hS)
    clear hS
    gi_wp2
    rw [He.out]
    refine ⟨by simp, .inl ⟨_, _, rfl, run_takeDeferred hK, ?_⟩⟩
    exact ⟨_, results_tmp rfl _ _ _, rfl, hB.trans (belowK_b (w := w) (Nat.le_refl _) W D _ _ (by simp at hD; omega) hK rfl rfl)⟩
  case stop =>
    rintro D c pre W _ _ h _
    exact h.elim

theorem impl_weigh.calls (a0 : ByteArray) (r : Int) (w : World) (h : impl_weigh.f a0 = some r) :
    Calls Try.prog 38 #[.string a0] w fun e w' => e = .returned (.int .i64 r) ∧ Below w.heap.size w w' := by
  unfold impl_weigh.f at h
  split at h
  · rename_i hs
    obtain rfl : wsum a0 a0.size = r := by simpa using h
    exact (callsIn_wide (n := 3)).1 (weigh_in Fence.wide 3 trivial trivial trivial rfl (by omega) a0 hs w)
  · cases h

end Go.Proofs.Ytoelfgkigbfieaa.Print
