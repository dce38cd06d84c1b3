/- Proved: what lpaChanged gives, byte by byte. Conditions: the place lies in the text. -/
import Derived.Test.YtoelfgkigbfieaaXor
import Derived.Test.YtoelfgkigbfieaaExChanged
namespace Go.Proofs.Ytoelfgkigbfieaa.Pure
open Go.RowKit Go.Proofs.Ytoelfgkigbfieaa.Print Go.Proofs.YtoelfgkigbfieaaW.PrintWords

def chg (s : ByteArray) (a : Nat) (y : Int) : ByteArray := strOfNums ((bytesOf s).set a (xb (bt s (a : Int)) y))
theorem bytesOf_length (s : ByteArray) : (bytesOf s).length = s.size := by simp [bytesOf]
theorem bytesOf_getD (s : ByteArray) (i : Nat) : (bytesOf s).getD i 0 = bt s (i : Int) := by
  rw [bt_list]
  simp only [bytesOf, List.getD, List.getElem?_map]
  cases s.data.toList[i]? <;> rfl
theorem bytesOf_bytes (s : ByteArray) : ∀ x ∈ bytesOf s, 0 ≤ x ∧ x < 256 := by
  intro x hx
  simp only [bytesOf, List.mem_map] at hx
  obtain ⟨b, _, rfl⟩ := hx
  have := b.toNat_lt
  omega
theorem chg_size (s : ByteArray) (a : Nat) (y : Int) : (chg s a y).size = s.size := by rw [chg, strOfNums_size, List.length_set, bytesOf_length]
theorem bt_chg (s : ByteArray) (a : Nat) (y : Int) (ha : a < s.size) (hy : IsByte y) (i : Nat) : bt (chg s a y) (i : Int) = if i = a then xb (bt s (a : Int)) y else bt s (i : Int) := by
  rw [chg, bt_strOfNums]
  · by_cases e : i = a
    · subst e
      simp [List.getD, bytesOf_length, ha]
    · rw [if_neg e]
      refine Eq.trans ?_ (bytesOf_getD s i)
      simp only [List.getD, List.getElem?_set_ne (Ne.symm e)]
  · intro x hx
    rcases List.mem_or_eq_of_mem_set hx with h | h
    · exact bytesOf_bytes s x h
    · rw [h]
      exact xb_byte (bt_byte _ _) hy
theorem changed_eq (s : ByteArray) (a : Nat) (y : Int) (ha : a < s.size) (hs : s.size ≤ 1099511627776) : laws_lpaChanged.f s (a : Int) y = some (chg s a y) := by
  unfold laws_lpaChanged.f
  rw [if_pos ⟨by omega, by omega, hs⟩, Int.toNat_natCast]
  rfl
theorem xb_ne {x y : Int} (hx : IsByte x) (hy : IsByte y) (h : y ≠ 0) : xb x y ≠ x := by
  intro he
  have h1 := xb_comm hx hy
  have h2 : xb (xb y x) x = y := xb_back hy hx
  rw [← h1, he, xb_self hx] at h2
  exact h h2.symm
end Go.Proofs.Ytoelfgkigbfieaa.Pure
