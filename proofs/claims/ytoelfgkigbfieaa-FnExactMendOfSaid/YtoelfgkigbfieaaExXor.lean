/- Proved: impl.XorOf gives, byte by byte, the one or the other but not both, the shorter text having noughts behind it. Conditions: each text has at most 2^40 bytes. -/
import Derived.Laws.EntriesVeiled
import Derived.Laws.BytesArg
import Derived.Laws.CopyOwn
import Derived.IntWalk
import Derived.Laws.OwnMore
import Derived.Test.YtoelfgkigbfieaaExWeigh
import Derived.Test.YtoelfgkigbfieaaExRound
namespace Go.Proofs.Ytoelfgkigbfieaa.Print
open Go.RowKit Go.Shelf Go.Proofs.YtoelfgkigbfieaaW.PrintWords Go.Proofs.YtoelfgkigbfieaaW.PrintMore Go.Proofs.YtoelfgkigbfieaaW.PrintLast

attribute [local go_sem] Oper.semAt_some
attribute [local go_sem] max2_int min2_int max_two min_two

def bytesV (s : ByteArray) : List Value := s.data.toList.map fun b => Value.int .u8 b.toNat

theorem run_copy_string {P : Program} (w : World) (dT sT ty elem : TypeId) (g dLen dCap : Nat) (s : ByteArray) (cur : Array Value) (t : TypeId)
    (hu : P.underlying dT = some (.slice elem)) (hs : (P.info? elem).map (·.size) = some 1)
    (hg : w.heap[g]? = some (.cells cur t (0, 0))) (hn : s.size ≤ dLen) (hfit : s.size ≤ cur.size) :
    (Builtin.copy_ #[dT, sT] ty #[.slice (some ⟨g, 0, none⟩) dLen dCap, .string s]).run P w =
      .ok (goInt s.size) (w.setRow g (bytesV s ++ cur.toList.drop s.size).toArray) := by
  have hlen : (bytesV s).length = s.size := by simp [bytesV]
  have hst := run_storeCells_at P g 0 t (bytesV s) 0 cur w hg (by omega) (by intro v hv; simp only [bytesV, List.mem_map] at hv; obtain ⟨b, _, rfl⟩ := hv; rfl)
  have hmin : Nat.min s.size dLen = s.size := Nat.min_eq_left hn
  cases hq : P.info? elem with
  | none => simp [hq] at hs
  | some i =>
    have hi : i.size = 1 := by simpa [hq] using hs
    have hst' := hst
    unfold bytesV at hst'
    have htk : List.take s.size (List.map (fun b : UInt8 => Value.int IntKind.u8 (b.toNat : Int)) s.data.toList) = List.map (fun b : UInt8 => Value.int IntKind.u8 (b.toNat : Int)) s.data.toList := List.take_of_length_le (by simp)
    simp [Builtin.copy_, run_underlying hu, Builtin.lenOf, Builtin.firstCells, sizeOf, typeInfo, hq, hmin, htk, hst']
    simp [bytesV]

theorem gi_copy_string {F : Fence} {n : Nat} {P : Program} (w : World) {ops : Array Oper} {rest : List Oper} {o : Oper} {a : Act} {Q : Exit → Act → World → Prop}
    (hgd : o.guard = none) (d s : Operand) (dT sT : TypeId) (ho : o.op = .call { callee := .builtin .copy, args := #[d, s], argTypes := #[dT, sT] })
    (elem : TypeId) (hu : P.underlying dT = some (.slice elem)) (hsz : (P.info? elem).map (·.size) = some 1)
    (g dLen dCap : Nat) (str : ByteArray) (hd : a.eval d = .slice (some ⟨g, 0, none⟩) dLen dCap) (hs : a.eval s = .string str)
    (cur : Array Value) (t : TypeId) (hg : w.heap[g]? = some (.cells cur t (0, 0))) (hn : str.size ≤ dLen) (hfit : str.size ≤ cur.size)
    (h : ∀ w', Hid (w'.heap.size = w.heap.size) → Hid (∀ j, j ≠ g → w'.heap[j]? = w.heap[j]?) → Hid (w'.heap[g]? = some (.cells (bytesV str ++ cur.toList.drop str.size).toArray t (0, 0))) → (∀ B, B ≤ g → Below B w w') →
      wpListIn F n P ops Q rest (a.put o.dst (goInt str.size)) w') : wpListIn F n P ops Q (o :: rest) a w := by
  refine wpListIn_plain hgd fun K hK' => ?_
  have hrun := run_copy_string (P := P) w dT sT o.type elem g dLen dCap str cur t hu hsz hg hn hfit
  unfold Oper.wpIn
  refine ⟨?_, ?_⟩
  · simp [Oper.about, ho, resolve, Target.leads, Sem.run_pure]
  · rw [Oper.semAt_plain F _ _ (by rw [ho]; intro c hc'; cases hc')]
    simp [execOp, ho, resolve, invoke, builtin, hd, hs, hrun, Result.andThen]
    refine hK' _ _ (h _ (by simp [Hid, World.setRow]) (fun j hj => setRow_other w g j _ hj) (setRow_heap w g _ _ t _ hg) (fun B hB => below_setRow (Below.refl B w) hB _))

theorem gi_make_full {F : Fence} {n : Nat} {P : Program} (w : World) {ops : Array Oper} {rest : List Oper} {o : Oper} {a : Act} {Q : Exit → Act → World → Prop}
    (hg : o.guard = none) (l c : Operand) (t : TypeId) (hop : o.op = Op.makeSlice t l c)
    (e : TypeId) (i : TypeInfo) (z : Value) (h1 : P.underlying t = some (.slice e)) (h2 : P.info? e = some i) (h3 : i.zero = some z) (h4 : i.size = 1) (h5 : z.cells = #[z])
    (kl kc : IntKind) (C : Int) (m : Nat) (hl : a.eval l = .int kl C) (hc : a.eval c = .int kc C) (hC : C = (m : Int)) (b2 : i.bytes * m ≤ 281474976710656) (b3 : m ≤ 9223372036854775807)
    (hK : wpListIn F n P ops Q rest (a.put o.dst (.slice (some ⟨w.heap.size, 0, none⟩) m m)) (w.alloc (.cells (madeCells #[z] m) e))) :
    wpListIn F n P ops Q (o :: rest) a w := by
  refine wpListIn_plain hg fun K hK' => ?_
  subst hC
  have hbm : ((i.bytes * m : Nat) : Int) ≤ 281474976710656 := by omega
  rw [Int.natCast_mul] at hbm
  have hrun := run_make (P := P) w t e i z h1 h2 h3 kl kc (m : Int) (m : Int) (by omega) (Int.le_refl _) hbm (by omega)
  simp only [Int.toNat_natCast, h4, Nat.mul_one, h5] at hrun
  unfold Oper.wpIn
  refine ⟨?_, ?_⟩
  · simp [Oper.about, hop]
  · rw [Oper.semAt_plain F _ _ (by rw [hop]; intro c hc'; cases hc')]
    simp [execOp, hop, hl, hc, hrun, Result.andThen]
    exact hK' _ _ hK

set_option maxHeartbeats 1000000 in
theorem either_in (F : Fence) (n : Nat) (h39 : F.fn 39) (hro : F.round = none) (x y : Int) (w : World) :
    CallsIn F n Try.prog 39 #[.int .u8 x, .int .u8 y] w fun e w' => e = .returned (.int .u8 (bits .xor .u8 x y)) ∧ w' = w := by
  refine callsIn_of_wp Try.func39 rfl h39 ?_ hro
  simp only [Try.ntmps39, List.size_toArray, List.length_cons, List.length_nil, Nat.reduceAdd, Nat.reduceSub, Array.replicate_succ, Array.replicate_zero, List.push_toArray, List.append_toArray, List.nil_append, List.cons_append]
  gi_wp2
  go_ret
  exact ⟨rfl, rfl⟩

theorem either_calls (x y : Int) (w : World) : Calls Try.prog 39 #[.int .u8 x, .int .u8 y] w fun e w' => e = .returned (.int .u8 (bits .xor .u8 x y)) ∧ w' = w :=
  (callsIn_wide (n := 1)).1 (either_in Fence.wide 1 trivial rfl x y w)

/-! ### plain -/
/-- a's bytes, with noughts behind, n in all -/
def padL (a : ByteArray) (n : Nat) : List Int := (List.range n).map fun (i : Nat) => bt a (i : Int)
def updX {s : ByteArray} (l : List Int) (x : Pos s) : List Int := l.set x.1 (bits .xor .u8 (l.getD x.1 0) x.byte)
def foldX {s : ByteArray} (l : List Int) (pre : List (Pos s)) : List Int := pre.foldl updX l
theorem foldX_snoc {s : ByteArray} (l : List Int) (pre : List (Pos s)) (x : Pos s) : foldX l (pre ++ [x]) = updX (foldX l pre) x := by simp [foldX, List.foldl_append]
theorem foldX_length {s : ByteArray} (pre : List (Pos s)) : ∀ l : List Int, (foldX l pre).length = l.length := by
  induction pre with
  | nil => intro l; rfl
  | cons x pre ih => intro l; show (foldX (updX l x) pre).length = _; rw [ih]; simp [updX]
/-- The bytes of the one or the other. -/
def xorL (a b : ByteArray) : List Int := (List.range (max a.size b.size)).map fun (i : Nat) => bits .xor .u8 (bt a (i : Int)) (bt b (i : Int))
def impl_XorOf.f (a0 : ByteArray) (a1 : ByteArray) : Option (ByteArray) := if a0.size ≤ 1099511627776 ∧ a1.size ≤ 1099511627776 then some (strOfNums (xorL a0 a1)) else none

theorem bt_over (s : ByteArray) (i : Nat) (h : s.size ≤ i) : bt s (i : Int) = 0 := by
  unfold bt
  rw [dif_neg (by simp; omega)]

theorem bits_xor_zero (x : Int) (h0 : 0 ≤ x) (h : x < 256) : bits .xor .u8 x 0 = x := by
  obtain ⟨m, rfl⟩ := Int.eq_ofNat_of_zero_le h0
  have hm : m < 256 := by omega
  have : ∀ k : Fin 256, bits .xor .u8 (k.1 : Int) 0 = (k.1 : Int) := by decide +kernel
  exact this ⟨m, hm⟩

theorem bt_bd (s : ByteArray) (i : Int) : 0 ≤ bt s i ∧ bt s i < 256 := by
  unfold bt
  split
  · rename_i h
    have := (s[i.toNat]'h).toNat_lt
    omega
  · omega

/-- After k bytes of b. -/
theorem foldX_pad (a b : ByteArray) (n : Nat) (k : Nat) : ∀ (l : List (Pos b)), l.map (·.1) = List.range k → k ≤ b.size →
    foldX (padL a n) l = (List.range n).map fun (i : Nat) => if i < k then bits .xor .u8 (bt a (i : Int)) (bt b (i : Int)) else bt a (i : Int) := by
  induction k with
  | zero =>
    intro l h _
    obtain rfl : l = [] := by simpa using h
    simp [foldX, padL]
  | succ k ih =>
    intro l h hk
    rcases List.eq_nil_or_concat l with rfl | ⟨l', x, rfl⟩
    · simp [List.range_succ] at h
    · rw [List.range_succ, List.concat_eq_append, List.map_append] at h
      obtain ⟨h3, h4⟩ := List.append_inj' h (by simp)
      have hx : x.1 = k := by simpa using h4
      have ihl := ih _ h3 (by omega)
      rw [List.concat_eq_append, foldX_snoc, ihl]
      apply List.ext_getElem?
      intro i
      unfold updX
      rw [Pos.byte_bt, hx]
      by_cases hin : i < n
      · by_cases hik : i = k
        · subst hik
          have hlt : i < ((List.range n).map fun (j : Nat) => if j < i then bits .xor .u8 (bt a (j : Int)) (bt b (j : Int)) else bt a (j : Int)).length := by simpa using hin
          rw [List.getElem?_set_self hlt]
          simp [List.getD, hin]
        · rw [List.getElem?_set_ne (by omega)]
          simp only [List.getElem?_map, List.getElem?_range hin, Option.map_some]
          have : (i < k) = (i < k + 1) := by apply propext; omega
          simp only [this]
      · rw [List.getElem?_eq_none (by simp; omega), List.getElem?_eq_none (by simp; omega)]

theorem foldX_all (a b : ByteArray) (n : Nat) (hn : n = max a.size b.size) (l : List (Pos b)) (h : l.map (·.1) = List.range b.size) : foldX (padL a n) l = xorL a b := by
  rw [foldX_pad a b n b.size l h (Nat.le_refl _)]
  unfold xorL
  rw [← hn]
  apply List.map_congr_left
  intro i hi
  split
  · rfl
  · rename_i hib
    rw [bt_over b i (by omega), bits_xor_zero _ (bt_bd a i).1 (bt_bd a i).2]

/-- The row behind the copy reads as a's bytes and noughts. -/
theorem row_cells (a : ByteArray) (n : Nat) (W : World) (g : Nat) (t : TypeId) (h : W.heap[g]? = some (.cells (bytesV a ++ (madeCells #[Value.int .u8 0] n).toList.drop a.size).toArray t (0, 0))) :
    ∀ i, i < n → W.cell? ⟨g, i, none⟩ = some (.int .u8 ((padL a n).getD i 0)) ∧ W.frozen? ⟨g, i, none⟩ = false := by
  intro i hi
  have hv : (bytesV a ++ (madeCells #[Value.int .u8 0] n).toList.drop a.size)[i]? = some (.int .u8 ((padL a n).getD i 0)) := by
    have hp : (padL a n).getD i 0 = bt a (i : Int) := by simp [padL, List.getD, hi]
    rw [hp, toList_madeCells_one]
    by_cases hia : i < a.size
    · rw [List.getElem?_append_left (by simpa [bytesV] using hia)]
      simp [bytesV, bt, hia]
      rfl
    · rw [List.getElem?_append_right (by simp [bytesV]; omega), bt_over a i (by omega)]
      rw [List.getElem?_drop, List.getElem?_replicate, if_pos (by simp [bytesV]; omega)]
  constructor
  · simp only [World.cell?, h]
    simpa using hv
  · simp [World.frozen?, h]

theorem info_u8 : (Try.prog.info? 5).map (fun i => (i.zero, i.size, i.bytes)) = some (some (.int .u8 0), 1, 1) := by kernel_rfl

set_option maxRecDepth 100000 in
set_option maxHeartbeats 600000 in
theorem XorOf_in (n : Nat) (hn : 4 ≤ n)
    (a b : ByteArray) (ha : a.size ≤ 1099511627776) (hbs : b.size ≤ 1099511627776) (w : World) :
    CallsIn Fence.wide n Try.prog 21 #[.string a, .string b] w fun e W' => e = .returned (.string (strOfNums (xorL a b))) ∧ Below w.heap.size w W' := by
  have h1 : 1 ≤ n := by omega
  obtain ⟨i0, hi0, hzz⟩ := Option.map_eq_some_iff.1 info_u8
  simp only [Prod.mk.injEq] at hzz
  obtain ⟨hz0, hz1, hz2⟩ := hzz
  obtain ⟨m, hm⟩ : ∃ m, m = max a.size b.size := ⟨_, rfl⟩
  have hma : a.size ≤ m := by omega
  have hmb : b.size ≤ m := by omega
  have hm2 : m ≤ 1099511627776 := by omega
  have hif1 : (if (a.size : Int) < (b.size : Int) then (b.size : Int) else (a.size : Int)) = (m : Int) := by split <;> omega
  have hif2 : (if a.size < b.size then (b.size : Int) else (a.size : Int)) = (m : Int) := by split <;> omega
  have Hm := Lib.hid hm
  have Hz0 := Lib.hid hz0
  have Hz1 := Lib.hid hz1
  have Hz2 := Lib.hid hz2
  have Hi0 := Lib.hid hi0
  clear hm hz0 hz1 hz2 hi0
  refine callsIn_of_wp_marks Try.func21 rfl trivial ?_ rfl
  simp only [Try.ntmps21, List.size_toArray, List.length_cons, List.length_nil, Nat.reduceAdd, Nat.reduceSub, Array.replicate_succ, Array.replicate_zero, List.push_toArray, List.append_toArray, List.nil_append, List.cons_append]
  gi_wp2_with (first | (gi_at_make; refine gi_make_full _ rfl _ _ 27 rfl 5 i0 (.int .u8 0) Try.underlying27 Hi0.out Hz0.out Hz1.out rfl .i64 .i64 _ m rfl rfl rfl (by rw [Hz2.out]; omega) (by omega) ?_) | (with_reducible refine gi_copy_string _ rfl (.tmp 15) (.tmp 16) 27 9 rfl 5 Try.underlying27 (by rw [Hi0.out]; simp [Hz1.out]) (w.heap.size + 1) m m a rfl rfl (madeCells #[.int .u8 0] m) 5 ?hgc hma (by rw [size_madeCells]; exact hma) ?_))
  case hgc => exact (Below.heap_alloc _ _ _ (by simp)).trans (by have := World.alloc_heap_new (w.alloc (.cells #[Value.func (.func 39) #[] #[]] 47)) (.cells (madeCells #[Value.int .u8 0] m) 5); simpa using this)
  intro w1 hsz1 hoth hrow hbel1
  have hm0 : w1.cell? ⟨w.heap.size, 0, none⟩ = some (.func (.func 39) #[] #[]) :=
    (cell_of_box_l ((hoth.out w.heap.size (by omega)).trans ((Below.heap_alloc _ _ _ (by simp; omega)).trans ((Below.heap_alloc _ _ _ (by simp)).trans (World.alloc_heap_new w _))))).1
  have ho0 : w1.cell? ⟨w.heap.size + 1 + 1, 0, none⟩ = some (.slice (some ⟨w.heap.size + 1, 0, none⟩) m m) :=
    (cell_of_box_l ((hoth.out (w.heap.size + 1 + 1) (by omega)).trans (by have := World.alloc_heap_new ((w.alloc (.cells #[Value.func (.func 39) #[] #[]] 47)).alloc (.cells (madeCells #[Value.int .u8 0] m) 5)) (.cells #[Value.slice (some ⟨w.heap.size + 1, 0, none⟩) m m] 27); simpa using this))).1
  have hr0 := row_cells a m w1 (w.heap.size + 1) 5 hrow.out
  have hB1 : Below w.heap.size w w1 := ((((Below.refl _ w).alloc (Nat.le_refl _) _).alloc (by simp) _).alloc (by simp; omega) _).trans (hbel1 _ (by omega))
  have Hr0 := Lib.hid hr0
  clear hr0 hbel1 hrow hoth
  gi_wp2_with (refine ⟨trivial, ?_⟩; gi_at_call 40; refine (bytesOf_in Fence.wide (n - 1) trivial rfl _ _).mono ?_; rintro e w' ⟨rfl, rfl⟩)
  have hb := cell_new_l w1 (.string b) 9
  have hBs : w.heap.size ≤ w1.heap.size := hB1.size
  have hB2 : Below w.heap.size w (w1.alloc (.cells #[.string b] 9)) := hB1.alloc hBs _
  refine wpIn_rangeFunc_ownF rfl h1 (gf := 54) (lb := #[.pointer (some ⟨w1.heap.size, 0, none⟩)]) rfl trivial (enters_of Try.func54 (by kernel_rfl) rfl)
    (bytesOf_stops Fence.wide (n - 1) trivial rfl (by omega) w1.heap.size b (by omega) _ (by simp) hb.1) KC.trans (fun W l o o' _ h hc _ => KC.book W l o o' h hc) (Below.refl _ _) (fun _ => rfl)
    (fun pre W => (W.cell? ⟨w.heap.size, 0, none⟩ = some (.func (.func 39) #[] #[]) ∧ W.cell? ⟨w.heap.size + 1 + 1, 0, none⟩ = some (.slice (some ⟨w.heap.size + 1, 0, none⟩) m m) ∧
      ∀ i, i < m → W.cell? ⟨w.heap.size + 1, i, none⟩ = some (.int .u8 ((foldX (padL a m) pre).getD i 0)) ∧ W.frozen? ⟨w.heap.size + 1, i, none⟩ = false) ∧ Below w.heap.size w W)
    (fun _ _ _ => False)
    (OwnFrom.and (Own.from (fun s A B row hs hg hr => ⟨cell_kept hs.1 hg hr, cell_kept hs.2.1 hg hr, fun i hi => ⟨cell_kept (hs.2.2 i hi).1 hg hr, (frozen_kept (hs.2.2 i hi).1 hg hr).trans (hs.2.2 i hi).2⟩⟩) _) (ownFrom_below (Nat.le_refl _) (by simp; omega)))
    (fun _ _ _ _ _ hs _ _ => hs)
    ⟨⟨cell_alloc_l _ hm0, cell_alloc_l _ ho0, fun i hi => ⟨cell_alloc_l _ (Hr0.out i hi).1, frozen_alloc_l _ (Hr0.out i hi).1 (Hr0.out i hi).2⟩⟩, hB2⟩
    (fun x => { tmps := #[.string a, .string b, undef, undef, .string ⟨#[]⟩, .pointer (some ⟨w.heap.size, 0, none⟩), .pointer (some ⟨w.heap.size + 1 + 1, 0, none⟩), .int .i64 ((x.1 : Int) + 1), .int .u8 ((b[x.1]'x.2).toNat : Int),
      .string a, .int .i64 a.size, .string b, .int .i64 b.size, .int .i64 m, .slice (some ⟨w.heap.size + 1, 0, none⟩) m m, .slice (some ⟨w.heap.size + 1, 0, none⟩) m m, .string a, .int .i64 a.size,
      .string b, .func (.func 54) #[] #[.pointer (some ⟨w1.heap.size, 0, none⟩)], .int .i64 ((x.1 : Int) + 1), .int .u8 ((b[x.1]'x.2).toNat : Int), undef, undef, undef, undef, undef, undef, undef, undef, undef, undef, undef, undef, undef, undef], defers := [] }) ?assign ?body ?done ?stop
  case assign =>
    intro l x W K hK
    gi_wp2
    exact hK
  case body =>
    rintro l pre x W ⟨⟨hm1, ho1, hr1⟩, hB⟩ hlen
    have hx := x.2
    have hbd := x.byte_bd
    have hb1 : ((b[x.1]'x.2).toNat : Int) < 256 := hbd.2
    have hxm : x.1 < m := by omega
    have hcx := (hr1 x.1 hxm).1
    have hfx := (hr1 x.1 hxm).2
    have Hr1 := Lib.hid hr1
    clear hr1 Hr0
    have hsz1' := hsz1.out
    have hwx : IntKind.i64.wrap (x.1 : Int) = (x.1 : Int) := IntWalk.i64_in _ (by omega)
    have h0x : 0 ≤ (x.1 : Int) := by omega
    have hmx : Try.prog.follows Departure.mixedOrders = true := by kernel_rfl
    have h11 : 1 ≤ n - 1 - 1 := by omega
    gi_wp2
    refine start_round (S := fun w' => w'.cell? ⟨w.heap.size, 0, none⟩ = some (.func (.func 39) #[] #[]) ∧ w'.cell? ⟨w.heap.size + 1 + 1, 0, none⟩ = some (.slice (some ⟨w.heap.size + 1, 0, none⟩) m m) ∧ w'.cell? ⟨w.heap.size + 1, x.1, none⟩ = some (.int .u8 ((foldX (padL a m) pre).getD x.1 0)) ∧ w'.frozen? ⟨w.heap.size + 1, x.1, none⟩ = false ∧ ∃ k, w' = W.drewN k) (ds := [12]) #[false, false, false, false, false, false, false, false, false, false, false, false, false] (by kernel_rfl) (by kernel_rfl) (by rintro ⟨_, _, h⟩; exact h) rfl rfl ⟨by simpa using hm1, by simpa using ho1, by simpa using hcx, by simpa using hfx, 1, rfl⟩ (fun hHeld => ?_)
    generalize W.drew = w5 at hHeld ⊢
    refine pure_ (i := 1) (N := (some 23)) (v := ?_) (a' := ?_) #[false, true, false, false, false, false, false, false, false, false, false, false, false] rfl rfl (by kernel_rfl) (fun _ _ _ h => h) (Or.inl ⟨by rfl, ?_⟩) ?_ ?_
    rotate_left
    · intro w'
      go_simp
      with_reducible rfl
    rotate_left
    · simp only [Act.put, List.setIfInBounds_toArray, List.set_cons_zero, List.set_cons_succ]
      rfl
    refine pure_ (i := 2) (N := (some 24)) (v := ?_) (a' := ?_) #[false, true, true, false, false, false, false, false, false, false, false, false, false] rfl rfl (by kernel_rfl) (fun _ _ _ h => h) (Or.inl ⟨by rfl, ?_⟩) ?_ ?_
    rotate_left
    · intro w'
      go_simp
      with_reducible rfl
    rotate_left
    · simp only [Act.put, List.setIfInBounds_toArray, List.set_cons_zero, List.set_cons_succ]
      rfl
    refine pure_ (i := 5) (N := (some 27)) (v := ?_) (a' := ?_) #[false, true, true, false, false, true, false, false, false, false, false, false, false] rfl rfl (by kernel_rfl) (fun _ _ _ h => h) (Or.inl ⟨by rfl, ?_⟩) ?_ ?_
    rotate_left
    · intro w'
      go_simp
      with_reducible rfl
    rotate_left
    · simp only [Act.put, List.setIfInBounds_toArray, List.set_cons_zero, List.set_cons_succ]
      rfl
    refine pure_ (i := 6) (N := (some 28)) (v := ?_) (a' := ?_) #[false, true, true, false, false, true, true, false, false, false, false, false, false] rfl rfl (by kernel_rfl) (fun _ _ _ h => h) (Or.inl ⟨by rfl, ?_⟩) ?_ ?_
    rotate_left
    · intro w'
      go_simp
      with_reducible rfl
    rotate_left
    · simp only [Act.put, List.setIfInBounds_toArray, List.set_cons_zero, List.set_cons_succ]
      rfl
    refine pure_ (i := 9) (N := (some 31)) (v := ?_) (a' := ?_) #[false, true, true, false, false, true, true, false, false, true, false, false, false] rfl rfl (by kernel_rfl) (fun _ _ _ h => h) (Or.inl ⟨by rfl, ?_⟩) ?_ ?_
    rotate_left
    · intro w'
      go_simp
      with_reducible rfl
    rotate_left
    · simp only [Act.put, List.setIfInBounds_toArray, List.set_cons_zero, List.set_cons_succ]
      rfl
    refine take_ (i := 0) (N := (some 22)) (v := ?_) (a' := ?_) #[true, true, true, false, false, true, true, false, false, true, false, false, false] rfl rfl (by kernel_rfl) (fun _ _ _ h => h) (Or.inl ⟨by rfl, ?_⟩) hHeld ?_ ?_
    rotate_left
    · intro w' s0
      obtain ⟨s1, s2, s3, _⟩ := s0
      go_simp
      with_reducible rfl
    rotate_left
    · simp only [Act.put, List.setIfInBounds_toArray, List.set_cons_zero, List.set_cons_succ]
      rfl
    refine take_ (i := 3) (N := (some 25)) (v := ?_) (a' := ?_) #[true, true, true, true, false, true, true, false, false, true, false, false, false] rfl rfl (by kernel_rfl) (fun _ _ _ h => h) (Or.inl ⟨by rfl, ?_⟩) hHeld ?_ ?_
    rotate_left
    · intro w' s0
      obtain ⟨s1, s2, s3, _⟩ := s0
      go_simp
      with_reducible rfl
    rotate_left
    · simp only [Act.put, List.setIfInBounds_toArray, List.set_cons_zero, List.set_cons_succ]
      rfl
    refine take_ (i := 4) (N := (some 26)) (v := ?_) (a' := ?_) #[true, true, true, true, true, true, true, false, false, true, false, false, false] rfl rfl (by kernel_rfl) (fun _ _ _ h => h) (Or.inl ⟨by rfl, ?_⟩) hHeld ?_ ?_
    rotate_left
    · intro w' s0
      obtain ⟨s1, s2, s3, _⟩ := s0
      go_simp
      with_reducible rfl
    rotate_left
    · simp only [Act.put, List.setIfInBounds_toArray, List.set_cons_zero, List.set_cons_succ]
      rfl
    refine pure_ (i := 7) (N := (some 29)) (v := ?_) (a' := ?_) #[true, true, true, true, true, true, true, true, false, true, false, false, false] rfl rfl (by kernel_rfl) (fun _ _ _ h => h) (Or.inl ⟨by rfl, ?_⟩) ?_ ?_
    rotate_left
    · intro w'
      go_simp
      with_reducible rfl
    rotate_left
    · simp only [Act.put, List.setIfInBounds_toArray, List.set_cons_zero, List.set_cons_succ]
      rfl
    refine take_ (i := 8) (N := (some 30)) (v := ?_) (a' := ?_) #[true, true, true, true, true, true, true, true, true, true, false, false, false] rfl rfl (by kernel_rfl) (fun _ _ _ h => h) (Or.inl ⟨by rfl, ?_⟩) hHeld ?_ ?_
    rotate_left
    · intro w' s0
      obtain ⟨s1, s2, s3, _⟩ := s0
      go_simp
      with_reducible rfl
    rotate_left
    · simp only [Act.put, List.setIfInBounds_toArray, List.set_cons_zero, List.set_cons_succ]
      rfl
    refine one_ (i := 10) (N := (some 32)) #[true, true, true, true, true, true, true, true, true, true, true, false, false] rfl rfl (by kernel_rfl) (by decide) (fun K hK => ?_)
    go_simp
    refine (either_calls _ _ _).mono ?_
    rintro e w2 ⟨rfl, rfl⟩
    refine hK.out _ _ hHeld (fun hHeld => ?_)
    clear hK K
    refine pure_ (i := 11) (N := (some 33)) (v := ?_) (a' := ?_) #[true, true, true, true, true, true, true, true, true, true, true, true, false] rfl rfl (by kernel_rfl) (fun _ _ _ h => h) (Or.inl ⟨by rfl, ?_⟩) ?_ ?_
    rotate_left
    · intro w'
      go_simp
      with_reducible rfl
    rotate_left
    · simp only [Act.put, List.setIfInBounds_toArray, List.set_cons_zero, List.set_cons_succ]
      rfl
    refine last_ (i := 12) (N := none) #[true, true, true, true, true, true, true, true, true, true, true, true, true] rfl rfl (by kernel_rfl) (by decide) (fun K hK => ?_)
    obtain ⟨s1, s2, s3, s4, s5⟩ := hHeld
    go_simp
    refine hK.out _ _ ?_
    clear hK K
    refine done_ (by kernel_rfl) ?_
    obtain ⟨kd, rfl⟩ := s5
    clear s1 s2 hHeld hwx hmx hsz1'
    have hlm : (foldX (padL a m) pre).length = m := by rw [foldX_length]; simp [padL]
    have hne : (⟨w.heap.size + 1, x.1, none⟩ : Addr).block ≠ w1.heap.size := by rw [hsz1.out]; simp
    refine ⟨(show KeepsOthers W (W.drewN kd) from ⟨Nat.le_refl _, fun _ _ h _ => h⟩).trans (KeepsOthers.setCell _ _ _), fun v hv => KC.set _ _ _ hne v (by simpa using hv), ⟨?_, ?_, ?_⟩, ?_⟩
    · rw [World.cell?_setCell_other _ _ _ _ (by simp)]
      simpa using hm1
    · rw [World.cell?_setCell_other _ _ _ _ (by simp)]
      simpa using ho1
    · intro i hi
      rw [foldX_snoc, World.frozen?_setCell]
      by_cases hix : i = x.1
      · subst hix
        refine ⟨?_, s4⟩
        rw [World.cell?_setCell_same' _ _ _ (by rw [s3]; rfl)]
        simp only [updX, List.getD, List.getElem?_set_self (show x.1 < (foldX (padL a m) pre).length by omega), Option.getD_some]
        rfl
      · rw [World.cell?_setCell_other _ _ _ _ (by simp; try omega)]
        have hi' := Hr1.out i hi
        refine ⟨?_, by simpa using hi'.2⟩
        simp only [updX, List.getD, List.getElem?_set_ne (Ne.symm hix)]
        simpa using hi'.1
    · exact (pw_below_drewN hB kd).setCell (p := ⟨w.heap.size + 1, x.1, none⟩) (by simp) _
  case done =>
    rintro D ys W hD hS ⟨⟨hm1, ho1, hr1⟩, hB⟩ hK
    have he := foldX_all a b m Hm.out ys hS
    have hlm : (foldX (padL a m) ys).length = m := by rw [foldX_length]; simp [padL]
    have hconv := run_convert_bytes_arg (P := Try.prog) W 27 5 Try.underlying27 Try.underlying5 (w.heap.size + 1) 0 m m (foldX (padL a m) ys) hlm (fun i hi => by rw [Nat.zero_add]; exact (hr1 i hi).1) 9 Try.underlying9
    rw [he] at hconv
    clear hS hr1 he hlm Hr0
    gi_wp2
    refine ⟨by simp, .inl ⟨_, _, rfl, run_takeDeferred hK, ?_⟩⟩
    exact ⟨_, results_tmp rfl _ _ _, rfl, hB.trans (belowK_b (w := w) (Nat.le_refl _) W D _ _ (by have := hsz1.out; simp at hD; omega) hK rfl rfl)⟩
  case stop =>
    rintro D c pre W _ _ h _
    exact h.elim

theorem impl_XorOf.calls (a0 : ByteArray) (a1 : ByteArray) (r : ByteArray) (w : World) (h : impl_XorOf.f a0 a1 = some r) :
    Calls Try.prog 21 #[.string a0, .string a1] w fun e w' => e = .returned (.string r) ∧ Below w.heap.size w w' := by
  unfold impl_XorOf.f at h
  split at h
  · rename_i hs
    obtain rfl : strOfNums (xorL a0 a1) = r := by simpa using h
    exact (callsIn_wide (n := 4)).1 (XorOf_in 4 (by omega) a0 a1 hs.1 hs.2 w)
  · cases h

end Go.Proofs.Ytoelfgkigbfieaa.Print
