/- Proved: laws.lpaChanged gives the text with one byte turned by xor. Conditions: the place lies in the text; the text has at most 2^40 bytes; the turn is a byte. -/
import Derived.Laws.BytesArg
import Derived.Lib.ConvBytes
import Derived.Lib.Hide
import Derived.Test.YtoelfgkigbfieaaPrint0
namespace Go.Proofs.Ytoelfgkigbfieaa.Print
open Go.RowKit Go.Proofs.YtoelfgkigbfieaaW.PrintWords

def laws_lpaChanged.f (a0 : ByteArray) (a1 : Int) (a2 : Int) : Option (ByteArray) :=
  if 0 ≤ a1 ∧ a1 < (a0.size : Int) ∧ a0.size ≤ 1099511627776 then some (strOfNums ((bytesOf a0).set a1.toNat (bits .xor .u8 (bt a0 a1) a2))) else none

theorem below_bytes (w : World) (e : TypeId) (s : ByteArray) : Below w.heap.size w (Lib.bytesWorld w e s) :=
  ⟨rfl, rfl, rfl, by rw [Lib.bytesWorld_size]; omega, fun j hj => Lib.bytesWorld_at_old w e s j hj⟩

set_option maxRecDepth 100000 in
set_option maxHeartbeats 2000000 in
theorem laws_lpaChanged.calls (a0 : ByteArray) (a1 : Int) (a2 : Int) (r : ByteArray) (w : World) (h : laws_lpaChanged.f a0 a1 a2 = some r) :
    Calls Try.prog 23 #[.string a0, .int .i64 a1, .int .u8 a2] w fun e w' => e = .returned (.string r) ∧ Below w.heap.size w w' := by
  unfold laws_lpaChanged.f at h
  split at h
  · rename_i hs
    obtain ⟨h0, h1, h2⟩ := hs
    obtain ⟨k, rfl⟩ := Int.eq_ofNat_of_zero_le h0
    have hk : k < a0.size := by omega
    have hr : strOfNums ((bytesOf a0).set k (bits .xor .u8 (bt a0 (k : Int)) a2)) = r := by simpa using h
    have Hr := Lib.hid hr
    clear h hr h0 h1
    have hcv0 := Lib.run_convert_string_bytes (P := Try.prog) w 9 27 5 a0 Try.underlying9 Try.underlying27 Try.underlying5
    have hcells := fun j (hj : j < a0.size) => Lib.bytesWorld_cell w 5 a0 j hj
    have hblk := Lib.bytesWorld_at_new w 5 a0
    have hbel : Below w.heap.size w (Lib.bytesWorld w 5 a0) := below_bytes w 5 a0
    have hsz2 : a0.size ≤ (Lib.bytesCells w 5 a0).size := by simp [Lib.bytesCells]
    generalize Lib.bytesWorld w 5 a0 = W1 at hcv0 hcells hblk hbel
    generalize Lib.bytesCells w 5 a0 = cs at hblk hsz2
    generalize grownCap w a0.size 0 5 = c at hcv0
    have hfr : ∀ j, j < a0.size → W1.frozen? ⟨w.heap.size, j, none⟩ = false := by
      intro j hj
      simp [World.frozen?, hblk]
      omega
    have hc0 : ∀ j, j < a0.size → W1.cell? ⟨w.heap.size, j, none⟩ = some (.int .u8 (bt a0 (j : Int))) := by
      intro j hj
      rw [hcells j hj]
      simp [bt, hj, List.getD]
      rfl
    have hck := hc0 k hk
    have hfk := hfr k hk
    have hl : (bytesOf a0).length = a0.size := by simp [bytesOf]
    have hconv := run_convert_bytes_arg (P := Try.prog) (W1.setCell ⟨w.heap.size, k, none⟩ (.int .u8 (bits .xor .u8 (bt a0 (k : Int)) a2))) 27 5 Try.underlying27 Try.underlying5 w.heap.size 0 a0.size c ((bytesOf a0).set k (bits .xor .u8 (bt a0 (k : Int)) a2)) (by simp [hl])
      (fun i hi => by
        rw [Nat.zero_add]
        by_cases hik : i = k
        · subst hik
          rw [World.cell?_setCell_same' _ _ _ (by rw [hck]; rfl)]
          simp [List.getD, hl, hi]
        · rw [World.cell?_setCell_other _ _ _ _ (by simp; try omega), hc0 i hi]
          simp only [List.getD, List.getElem?_set_ne (Ne.symm hik)]
          simp [bytesOf, bt, hi]
          rfl) 9 Try.underlying9
    rw [Hr.out] at hconv
    have Hc := Lib.hid hcells
    clear hcells hc0 hfr hblk hl
    have Hb := Lib.hid hbel
    clear hbel
    go_enter Try.func23, Try.ntmps23
    go_wp2
    go_ret
    exact ⟨rfl, Hb.out.setCell (p := ⟨w.heap.size, k, none⟩) (Nat.le_refl _) _⟩
  · cases h

end Go.Proofs.Ytoelfgkigbfieaa.Print
