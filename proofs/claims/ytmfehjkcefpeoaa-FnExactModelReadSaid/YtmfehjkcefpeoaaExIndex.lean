/- Proved: impl.Model's index is a map of the volumes' names to their places. Conditions: the names are as long as a string may be. -/
import Derived.Maps.OwnSet
import Derived.Maps.OwnOps
import Derived.Test.YtmfehjkcefpeoaaPrint3
namespace Go.Proofs.Ytmfehjkcefpeoaa.Print
open Go.RowKit Go.Maps Go.WideMaps Go.Proofs.YtmfehjkcefpeoaaW.PrintWords Go.Proofs.YtmfehjkcefpeoaaW.PrintLast Go.Proofs.YtmfehjkcefpeoaaW.PrintMore
set_option linter.unusedVariables false
set_option linter.unusedSimpArgs false

theorem mlaw : Keyed Try.prog 9 := string_keyed Try.underlying9
theorem mzero (w : World) : (zeroValue 3).run Try.prog w = .ok (.int .i64 0) w := by kernel_rfl
def nameK (l : List S39) (i : Nat) : Lit := .string (l.getD i z39).f0.data.toList
/-- The map after n volumes. -/
def idxD (l : List S39) : Nat → DataW Unit
  | 0 => .map []
  | n + 1 => (idxD l n).put (nameK l n) (.lit (.int .i64 (n : Int)))
def Short (l : List S39) : Prop := ∀ x ∈ l, x.f0.size ≤ maxLen
theorem Short.at {l : List S39} (h : Short l) (i : Nat) (hi : i < l.length) : (l.getD i z39).f0.size ≤ maxLen := by
  rw [List.getD, List.getElem?_eq_getElem hi]
  exact h _ (List.getElem_mem hi)

set_option maxHeartbeats 4000000 in
set_option maxRecDepth 100000 in
theorem index_calls (A0 : Option Addr) (c0 : Nat) (l0 : List S39) (w : World) (hr0 : Kd.C k39 w A0 l0.length l0) (hc0 : l0.length ≤ c0) (hS : Short l0) :
    Calls Try.prog 16 #[.agg #[.slice A0 l0.length c0]] w fun e w' => ∃ b, e = .returned (.map (some b)) ∧ w.heap.size ≤ b ∧ w'.ownsMap Try.prog 9 (plainElem Try.prog 3) b l0.length (idxD l0 l0.length) ∧ Below w.heap.size w w' := by
  have HR0 := Aside0.mk hr0
  have HC0 := Aside0.mk hc0
  have HM := Aside0.mk (Kd.C_max hr0)
  have HS := Aside0.mk hS
  have HB := Aside0.mk (Below.refl w.heap.size w)
  clear hr0 hc0 hS
  have hmm := @run_makeMap Try.prog
  have hu29 := Try.underlying29
  go_enter Try.func16, Try.ntmps16
  go_wp2_with (first | ((with_reducible refine gate_dst (N := 1) rfl ?_); refine box_event ?hg (N := 1) ?hd (cs := #[.slice A0 l0.length c0]) (t := 29) ?hr ?_; (case hd => rfl); (case hg => rfl); (case hr => first | (go_simp; done) | (go_simp; rfl)); intro gb hg w5 hbox hb; have n0_ := Aside0.mk (below_step (by repeat (first | (with_reducible first | exact HB.out | apply below_alloc | apply pw_below_drewN | apply below_drew1) | exact HB.out)) hb); have n1_ := Aside0.mk hbox; clear HB; have HB := n0_; have BK := n1_; have HG := Aside0.mk hg; clear n0_ n1_; clear hb hbox hg; have hcz_0 : w5.cell? ⟨gb, 0, none⟩ = some (.slice A0 l0.length c0) := (blk_cell BK.out 0).trans rfl; have hcz_1 : (w5.alloc (Obj.map #[] 0)).cell? ⟨gb, 0, none⟩ = some (.slice A0 l0.length c0) := (((Below.refl w5.heap.size w5).alloc (Nat.le_refl _) (Obj.map #[] 0)).cell (p := ⟨gb, 0, none⟩) (World.block_lt_of_cell? w5 _ hcz_0)).trans hcz_0))
  have HB0 := Aside0.mk HB.out
  clear hcz_0 hcz_1 HG
  go_loopg [10] l0.length (fun kq v10 wr => ∃ (i : Nat), v10 = .int .i64 (i : Int) ∧ Aside0 (i + kq = l0.length) ∧ Aside0 (wr.ownsMap Try.prog 9 (plainElem Try.prog 3) w5.heap.size i (idxD l0 i)) ∧ Aside0 (Below w.heap.size w wr))
  case atStart => exact ⟨0, rfl, ⟨Nat.zero_add _⟩, ⟨World.ownsMap_made _ _ _ _⟩, ⟨(by repeat (first | (with_reducible first | exact HB.out | apply below_alloc | apply pw_below_drewN | apply below_drew1) | exact HB.out))⟩⟩
  case round =>
    obtain ⟨i, rfl, HI, HW, HB⟩ := hrel
    by_cases c1 : i < l0.length
    · have c1b0 : decide ((i : Int) < (l0.length : Int)) = true := decide_eq_true (by omega)
      have p1 : (0 : Int) ≤ (i : Int) := by omega
      have q1 : (i : Int) < (l0.length : Int) := by omega
      have hm := HM.out
      have hw1 : wrap64 ((i : Int) + 1) = ((i + 1 : Nat) : Int) := by unfold wrap64; omega
      have HW1 := Aside0.mk hw1
      clear hm hw1
      obtain ⟨ad, A1, c1_, e1, hx_0, hx_1, hl1, hi1⟩ := at_T39 HR0.out (i : Int) p1 q1
      cases e1
      simp only [Int.toNat_natCast, rd_T39] at hx_0 hx_1
      replace hx_0 := (HB.out.cell (World.block_lt_of_cell? w _ hx_0)).trans hx_0
      replace hx_1 := (HB.out.cell (World.block_lt_of_cell? w _ hx_1)).trans hx_1
      replace p1 := eq_true p1
      replace q1 := eq_true q1
      obtain ⟨x, hE⟩ : ∃ x, x = l0.getD i z39 := ⟨_, rfl⟩
      have hkey : keyOf Try.prog 9 (.string x.f0) = some (nameK l0 i) := by rw [hE]; exact keyOf_string_mk Try.underlying9 (HS.out.at i c1)
      rw [← hE] at hx_0 hx_1
      have HK := Aside0.mk hkey
      clear hE hkey hl1 hi1
      have hile : i < maxLen := by have := HM.out; unfold maxLen; omega
      have HIL := Aside0.mk hile
      clear hile
      go_wp2_with (first
        | (at_mapUpdate; refine wpList_mapUpdate_own _ rfl _ _ _ 43 rfl 9 3 mlaw Try.underlying43 _ w5.heap.size i (idxD l0 i) rfl (HW.out.alloc _) HIL.out _ _ _ rfl rfl HK.out _ [] (plainElem_int Try.underlying3 (WalkArith.wf_i64 (by have := HIL.out; unfold maxLen at this; omega))) ?_; intro w1 hown1 hgrow1)
        | go_in)
      have R1 : w1.ownsMap Try.prog 9 (plainElem Try.prog 3) w5.heap.size (i + 1) (idxD l0 (i + 1)) := hown1
      have R2 : Below w.heap.size w w1 := (HB.out.alloc HB.out.size _).grown hgrow1 (by simp; have := HB.out.size; omega) (fun j hj => by cases hj; have := HB0.out.size; omega)
      clear hown1 hgrow1
      go_wp2
      go_roundg (gk - 1)
      case measure => have := HI.out; omega
      case rel => exact ⟨i + 1, by rw [← HW1.out], ⟨by have := HI.out; omega⟩, ⟨R1⟩, ⟨R2⟩⟩
    · have c1b0 : decide ((i : Int) < (l0.length : Int)) = false := decide_eq_false (by omega)
      have hi : i = l0.length := by have := HI.out; omega
      subst hi
      go_wp2
      go_ret
      exact ⟨_, rfl, HB0.out.size, HW.out, HB.out⟩
end Go.Proofs.Ytmfehjkcefpeoaa.Print
