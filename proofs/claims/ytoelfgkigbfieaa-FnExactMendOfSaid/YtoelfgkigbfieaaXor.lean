/- Proved: the program's XorOf and the reference's are, byte by byte, the one or the other; and what that means. Conditions: the texts have at most 2^40 bytes. -/
import Derived.Test.YtoelfgkigbfieaaDrawA
import Derived.Test.YtoelfgkigbfieaaExXor
import Derived.Test.YtoelfgkigbfieaaPrint12
namespace Go.Proofs.Ytoelfgkigbfieaa.Pure
open Go.RowKit Go.Proofs.Ytoelfgkigbfieaa.Print Go.Proofs.YtoelfgkigbfieaaW.PrintWords

abbrev xb (x y : Int) : Int := Go.bits .xor .u8 x y
def IsByte (x : Int) : Prop := 0 ≤ x ∧ x < 256
theorem IsByte.nat {x : Int} (h : IsByte x) : ∃ a : Nat, x = (a : Int) ∧ a < 256 := by
  obtain ⟨a, rfl⟩ := Int.eq_ofNat_of_zero_le h.1
  exact ⟨a, rfl, by have := h.2; omega⟩
theorem bt_byte (s : ByteArray) (i : Int) : IsByte (bt s i) := bt_bd s i
theorem xb_byte {x y : Int} (hx : IsByte x) (hy : IsByte y) : IsByte (xb x y) := xor8_bd x y hx hy
theorem xb_nat (a b : Nat) (ha : a < 256) (hb : b < 256) : xb a b = ((a ^^^ b : Nat) : Int) := xor8 a b ha hb
theorem nat_xor_lt {a b : Nat} (ha : a < 256) (hb : b < 256) : a ^^^ b < 256 := Nat.xor_lt_two_pow (n := 8) (by omega) (by omega)
theorem xb_comm {x y : Int} (hx : IsByte x) (hy : IsByte y) : xb x y = xb y x := by
  obtain ⟨a, rfl, ha⟩ := hx.nat
  obtain ⟨b, rfl, hb⟩ := hy.nat
  rw [xb_nat a b ha hb, xb_nat b a hb ha, Nat.xor_comm]
theorem xb_assoc {x y z : Int} (hx : IsByte x) (hy : IsByte y) (hz : IsByte z) : xb (xb x y) z = xb x (xb y z) := by
  obtain ⟨a, rfl, ha⟩ := hx.nat
  obtain ⟨b, rfl, hb⟩ := hy.nat
  obtain ⟨c, rfl, hc⟩ := hz.nat
  rw [xb_nat a b ha hb, xb_nat b c hb hc, xb_nat _ _ (nat_xor_lt ha hb) hc, xb_nat _ _ ha (nat_xor_lt hb hc), Nat.xor_assoc]
theorem xb_self {x : Int} (hx : IsByte x) : xb x x = 0 := by
  obtain ⟨a, rfl, ha⟩ := hx.nat
  rw [xb_nat a a ha ha, Nat.xor_self]
  rfl
theorem zero_byte : IsByte 0 := ⟨by omega, by omega⟩
theorem xb_zero {x : Int} (hx : IsByte x) : xb x 0 = x := by
  obtain ⟨a, rfl, ha⟩ := hx.nat
  have := xb_nat a 0 ha (by omega)
  rw [Nat.xor_zero] at this
  exact this
theorem zero_xb {x : Int} (hx : IsByte x) : xb 0 x = x := by rw [xb_comm zero_byte hx, xb_zero hx]
theorem xb_back {x y : Int} (hx : IsByte x) (hy : IsByte y) : xb (xb x y) y = x := by rw [xb_assoc hx hy hy, xb_self hy, xb_zero hx]

/-- The one or the other, of two texts. -/
def X (a b : ByteArray) : ByteArray := strOfNums (xorL a b)
theorem xorL_length (a b : ByteArray) : (xorL a b).length = max a.size b.size := by simp [xorL]
theorem X_size (a b : ByteArray) : (X a b).size = max a.size b.size := by rw [X, strOfNums_size, xorL_length]
theorem xorL_bytes (a b : ByteArray) : ∀ x ∈ xorL a b, 0 ≤ x ∧ x < 256 := by
  intro x hx
  simp only [xorL, List.mem_map] at hx
  obtain ⟨i, _, rfl⟩ := hx
  exact xor8_bd _ _ (bt_bd _ _) (bt_bd _ _)
theorem bt_X (a b : ByteArray) (i : Nat) : bt (X a b) (i : Int) = xb (bt a (i : Int)) (bt b (i : Int)) := by
  rw [X, bt_strOfNums _ (xorL_bytes a b)]
  by_cases h : i < max a.size b.size
  · simp [xorL, List.getD, h]
  · rw [bt_over a i (by omega), bt_over b i (by omega), xb_self zero_byte]
    simp only [List.getD, List.getElem?_eq_none (show (xorL a b).length ≤ i by rw [xorL_length]; omega), Option.getD_none]
theorem X_comm (a b : ByteArray) : X a b = X b a := by
  apply text_ext
  · rw [X_size, X_size]; omega
  · intro i _
    rw [bt_X, bt_X, xb_comm (bt_byte _ _) (bt_byte _ _)]
theorem X_assoc (a b c : ByteArray) : X (X a b) c = X a (X b c) := by
  apply text_ext
  · simp only [X_size]; omega
  · intro i _
    rw [bt_X, bt_X, bt_X, bt_X, xb_assoc (bt_byte _ _) (bt_byte _ _) (bt_byte _ _)]
theorem X_empty (a : ByteArray) : X a (⟨#[]⟩ : ByteArray) = a := by
  apply text_ext
  · rw [X_size]; show max a.size 0 = a.size; omega
  · intro i _
    rw [bt_X, bt_over (⟨#[]⟩ : ByteArray) i (Nat.zero_le i), xb_zero (bt_byte _ _)]
theorem implXor_eq (a b : ByteArray) (ha : a.size ≤ 1099511627776) (hb : b.size ≤ 1099511627776) : impl_XorOf.f a b = some (X a b) := by
  unfold impl_XorOf.f
  rw [if_pos ⟨ha, hb⟩]
  rfl

def xpre (a b : ByteArray) (i : Nat) : List Int := (List.range i).map fun (j : Nat) => xb (bt a (j : Int)) (bt b (j : Int))
theorem xpre_succ (a b : ByteArray) (i : Nat) : xpre a b (i + 1) = xpre a b i ++ [xb (bt a (i : Int)) (bt b (i : Int))] := by simp [xpre, List.range_succ]
theorem xpre_length (a b : ByteArray) (i : Nat) : (xpre a b i).length = i := by simp [xpre]
theorem specXor_l0 (a b : ByteArray) (ha : a.size ≤ 1099511627776) (hb : b.size ≤ 1099511627776) (d : Nat) : ∀ i : Nat, i + d = max a.size b.size →
    Ev (fun k => spec_XorOf.l0 k a b (xpre a b i) (i : Int)) (X a b) := by
  have hm : mx (a.size : Int) (b.size : Int) = ((max a.size b.size : Nat) : Int) := by unfold mx; omega
  induction d with
  | zero =>
    intro i hi
    refine Ev.next ?_
    simp only [spec_XorOf.l0]
    refine Ev.neg (by rw [hm]; omega) (Ev.ret ?_)
    have : i = max a.size b.size := by omega
    rw [this]
    rfl
  | succ d ih =>
    intro i hi
    have e : wrap64 ((i : Int) + 1) = ((i + 1 : Nat) : Int) := by rw [wrap_ok (by omega)]; omega
    have hl := xpre_length a b i
    have hih := ih (i + 1) (by omega)
    rw [xpre_succ] at hih
    refine Ev.next ?_
    simp only [spec_XorOf.l0, e]
    clear e
    refine Ev.pos (by rw [hm]; omega) ?_
    by_cases h1 : (i : Int) < (a.size : Int)
    · refine Ev.pos h1 (Ev.pos (by omega) ?_)
      by_cases h2 : (i : Int) < (b.size : Int)
      · exact Ev.pos h2 (Ev.pos (by omega) hih)
      · rw [bt_over b i (by omega), xb_zero (bt_byte _ _)] at hih
        exact Ev.neg h2 (Ev.pos (by omega) hih)
    · rw [bt_over a i (by omega)] at hih
      exact Ev.neg h1 (Ev.pos (by omega) (Ev.pos (by omega) (Ev.pos (by omega) hih)))
theorem specXor_ev (a b : ByteArray) (ha : a.size ≤ 1099511627776) (hb : b.size ≤ 1099511627776) : Ev (fun k => spec_XorOf.f k a b) (X a b) := by
  unfold spec_XorOf.f
  exact specXor_l0 a b ha hb _ 0 (Nat.zero_add _)
theorem drawXor_ev (l : List Int) (h : ∀ x ∈ l, (Lit.int .u8 x).wf = true) : ∃ s t : ByteArray, Ev (fun k => spec_DrawXorOf.f k l) (s, t) ∧ s.size ≤ 5 ∧ t.size ≤ 5 := by
  obtain ⟨b, hb, hc⟩ := open_ev l h
  obtain ⟨s, q, hs, hs1, hq1, hq2⟩ := text_ev hc 0 5 (by omega) (by omega)
  obtain ⟨t, q', ht, ht1, _, _⟩ := text_ev hc q 5 (by omega) (by omega)
  refine ⟨s, t, ?_, by omega, by omega⟩
  unfold spec_DrawXorOf.f
  exact Ev.take hb (Ev.bind hs (Ev.bind ht (Ev.ret rfl)))
end Go.Proofs.Ytoelfgkigbfieaa.Pure
