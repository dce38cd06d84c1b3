/- Proved: StripeOk. Conditions: none but what the arguments are. -/
import Derived.Test.YtkgpnloghmbmlaaExDiskOk
namespace Go.Proofs.Ytkgpnloghmbmlaa.Print
open Go.RowKit Go.Proofs.YtkgpnloghmbmlaaW.PrintWords Go.Proofs.YtkgpnloghmbmlaaW.PrintLast Go.Proofs.YtkgpnloghmbmlaaW.PrintMore
set_option linter.unusedVariables false
set_option linter.unusedSimpArgs false

set_option maxHeartbeats 1000000 in
theorem diskPred (x : S28) (A1 : Option Addr) (c1 : Nat) (A2 : Option Addr) (c2 : Nat) (A3 : Option Addr) (c3 : Nat) (A4 : Option Addr) (c4 : Nat) (w : World) (g1 : Kd.C Kd.string w A1 x.f1.length x.f1) (l1 : x.f1.length ≤ c1) (g2 : Kd.C Kd.string w A2 x.f2.length x.f2) (l2 : x.f2.length ≤ c2) (g3 : Kd.C Kd.bool w A3 x.f3.length x.f3) (l3 : x.f3.length ≤ c3) (g4 : Kd.C k54 w A4 x.f4.length x.f4) (l4 : x.f4.length ≤ c4) :
    Calls Try.prog 74 #[.agg #[.int .i64 x.f0, .slice A1 x.f1.length c1, .slice A2 x.f2.length c2, .slice A3 x.f3.length c3, .slice A4 x.f4.length c4]] w fun e w' => e = .returned (.bool (!goodB x.f0 x.f1 x.f2 x.f3 x.f4)) ∧ Below w.heap.size w w' := by
  have hu28 := Try.underlying28
  have HP := Aside0.mk (fun (W : World) (hb : Below w.heap.size w W) => impl_DiskOk.calls x.f0 A1 c1 x.f1 A2 c2 x.f2 A3 c3 x.f3 A4 c4 x.f4 _ W (Kd.C_below g1 hb) l1 (Kd.C_below g2 hb) l2 (Kd.C_below g3 hb) l3 (Kd.C_below g4 hb) l4 rfl)
  have HB := Aside0.mk (Below.refl w.heap.size w)
  clear g1 g2 g3 g4 l1 l2 l3 l4
  go_enter Try.func74, Try.ntmps74
  go_wp2_with (first | ((with_reducible refine gate_dst (N := 1) rfl ?_); refine box_event ?hg (N := 1) ?hd (cs := #[.int .i64 x.f0, .slice A1 x.f1.length c1, .slice A2 x.f2.length c2, .slice A3 x.f3.length c3, .slice A4 x.f4.length c4]) (t := 28) ?hr ?_; (case hd => rfl); (case hg => rfl); (case hr => first | (go_simp; done) | (go_simp; rfl)); intro gb hg w1 hbox hb; have n0_ := Aside0.mk (below_step (by repeat (first | (with_reducible first | exact HB.out | apply below_alloc | apply pw_below_drewN | apply below_drew1) | exact HB.out)) hb); have n1_ := Aside0.mk hbox; clear HB; have HB := n0_; have BK := n1_; clear n0_ n1_ hb hbox hg; have hcz_0 : w1.cell? ⟨gb, 0, none⟩ = some (.int .i64 x.f0) := (blk_cell BK.out 0).trans rfl; have hcz_1 : w1.cell? ⟨gb, 1, none⟩ = some (.slice A1 x.f1.length c1) := (blk_cell BK.out 1).trans rfl; have hcz_2 : w1.cell? ⟨gb, 2, none⟩ = some (.slice A2 x.f2.length c2) := (blk_cell BK.out 2).trans rfl; have hcz_3 : w1.cell? ⟨gb, 3, none⟩ = some (.slice A3 x.f3.length c3) := (blk_cell BK.out 3).trans rfl; have hcz_4 : w1.cell? ⟨gb, 4, none⟩ = some (.slice A4 x.f4.length c4) := (blk_cell BK.out 4).trans rfl) | (go_at_call 21; refine (HP.out _ (by repeat (first | (with_reducible first | exact HB.out | apply below_alloc | apply pw_below_drewN | apply below_drew1) | exact HB.out))).mono ?_; rintro e w9 ⟨rfl, hb⟩; have n0_ := Aside0.mk (below_step (by repeat (first | (with_reducible first | exact HB.out | apply below_alloc | apply pw_below_drewN | apply below_drew1) | exact HB.out)) hb); clear HB; have HB := n0_; clear n0_ hb))
  go_ret
  exact ⟨rfl, (by repeat (first | (with_reducible first | exact HB.out | apply below_alloc | apply pw_below_drewN | apply below_drew1) | exact HB.out))⟩

set_option maxHeartbeats 4000000 in
set_option maxRecDepth 100000 in
theorem indexDisk (A0 : Option Addr) (c0 : Nat) (l0 : List S28) (w : World) (hr0 : Kd.C k28 w A0 l0.length l0) (hc0 : l0.length ≤ c0) :
    Calls Try.prog 99 #[.slice A0 l0.length c0, .func (.func 74) #[] #[]] w fun e w' => e = .returned (.int .i64 (findIxG (fun x : S28 => !goodB x.f0 x.f1 x.f2 x.f3 x.f4) l0)) ∧ Below w.heap.size w w' := by
  have HR0 := Aside0.mk hr0
  have HM := Aside0.mk (Kd.C_max hr0)
  clear hr0 hc0
  go_enter Try.func99, Try.ntmps99
  go_wp2
  repeat (go_quiet (fail); try go_wp2)
  go_loopg [8] l0.length (fun kq v8 w' => ∃ (i : Nat), v8 = .int .i64 (i : Int) ∧ Aside0 (i + kq = l0.length) ∧ Aside0 (∀ j, j < i → (fun x : S28 => !goodB x.f0 x.f1 x.f2 x.f3 x.f4) (l0.getD j z28) = false) ∧ Aside0 (Below w.heap.size w w'))
  case atStart => exact ⟨0, rfl, ⟨Nat.zero_add _⟩, ⟨fun j hj => by omega⟩, ⟨by repeat (first | exact Below.refl _ _ | apply below_alloc | apply pw_below_drewN | apply below_drew1)⟩⟩
  case round =>
    obtain ⟨i, rfl, HI, HF, HB⟩ := hrel
    by_cases c1_ : i < l0.length
    · have c1b0 : decide ((i : Int) < (l0.length : Int)) = true := decide_eq_true (by omega)
      have p1 : (0 : Int) ≤ (i : Int) := by omega
      have q1 : (i : Int) < (l0.length : Int) := by omega
      have hm := HM.out
      have HW := Aside0.mk (show wrap64 ((i : Int) + 1) = ((i + 1 : Nat) : Int) by unfold wrap64; omega)
      have HC1 := Aside0.mk c1_
      clear hm c1_
      obtain ⟨ad, A1, c1, A2, c2, A3, c3, A4, c4, e1, hx_0, hx_1, hx_2, hx_3, hx_4, l1, g1, l2, g2, l3, g3, l4, g4⟩ := at_T28 HR0.out (i : Int) p1 q1
      cases e1
      simp only [Int.toNat_natCast, rd_T28] at hx_0 hx_1 hx_2 hx_3 hx_4 l1 g1 l2 g2 l3 g3 l4 g4
      replace hx_0 := (HB.out.cell (World.block_lt_of_cell? w _ hx_0)).trans hx_0
      replace hx_1 := (HB.out.cell (World.block_lt_of_cell? w _ hx_1)).trans hx_1
      replace hx_2 := (HB.out.cell (World.block_lt_of_cell? w _ hx_2)).trans hx_2
      replace hx_3 := (HB.out.cell (World.block_lt_of_cell? w _ hx_3)).trans hx_3
      replace hx_4 := (HB.out.cell (World.block_lt_of_cell? w _ hx_4)).trans hx_4
      replace p1 := eq_true p1
      replace q1 := eq_true q1
      obtain ⟨x, hE⟩ : ∃ x, x = l0.getD i z28 := ⟨_, rfl⟩
      rw [← hE] at hx_0 hx_1 hx_2 hx_3 hx_4 l1 g1 l2 g2 l3 g3 l4 g4
      have HE := Aside0.mk hE
      clear hE
      replace l1 := Aside0.mk l1
      replace g1 := Aside0.mk g1
      replace l2 := Aside0.mk l2
      replace g2 := Aside0.mk g2
      replace l3 := Aside0.mk l3
      replace g3 := Aside0.mk g3
      replace l4 := Aside0.mk l4
      replace g4 := Aside0.mk g4
      by_cases c2_ : (!goodB x.f0 x.f1 x.f2 x.f3 x.f4) = true
      · have hfin := findIxG_at (p := (fun x : S28 => !goodB x.f0 x.f1 x.f2 x.f3 x.f4)) (z := z28) HF.out HC1.out (by rw [← HE.out]; exact c2_)
        have HFIN := Aside0.mk hfin
        have HC := Aside0.mk c2_
        clear hfin c2_
        go_wp2_with (first | (go_at_call 74; refine (diskPred x A1 c1 A2 c2 A3 c3 A4 c4 _ (Kd.C_below g1.out (by repeat (first | (with_reducible first | exact HB.out | apply below_alloc | apply pw_below_drewN | apply below_drew1) | exact HB.out))) l1.out (Kd.C_below g2.out (by repeat (first | (with_reducible first | exact HB.out | apply below_alloc | apply pw_below_drewN | apply below_drew1) | exact HB.out))) l2.out (Kd.C_below g3.out (by repeat (first | (with_reducible first | exact HB.out | apply below_alloc | apply pw_below_drewN | apply below_drew1) | exact HB.out))) l3.out (Kd.C_below g4.out (by repeat (first | (with_reducible first | exact HB.out | apply below_alloc | apply pw_below_drewN | apply below_drew1) | exact HB.out))) l4.out).mono ?_; rintro e w9 ⟨rfl, hb⟩; rw [HC.out]; have n0_ := Aside0.mk (below_step (by repeat (first | (with_reducible first | exact HB.out | apply below_alloc | apply pw_below_drewN | apply below_drew1) | exact HB.out)) hb); clear HB; have HB := n0_; clear n0_ hb))
        go_ret
        exact ⟨by rw [HFIN.out]; rfl, (by repeat (first | (with_reducible first | exact HB.out | apply below_alloc | apply pw_below_drewN | apply below_drew1) | exact HB.out))⟩
      · have c2_ : (!goodB x.f0 x.f1 x.f2 x.f3 x.f4) = false := by simpa using c2_
        have HF1 : Aside0 (∀ j, j < i + 1 → (fun x : S28 => !goodB x.f0 x.f1 x.f2 x.f3 x.f4) (l0.getD j z28) = false) := ⟨fun j hj => by
          by_cases e : j = i
          · rw [e, ← HE.out]; exact c2_
          · exact HF.out j (by omega)⟩
        have HC := Aside0.mk c2_
        clear c2_
        go_wp2_with (first | (go_at_call 74; refine (diskPred x A1 c1 A2 c2 A3 c3 A4 c4 _ (Kd.C_below g1.out (by repeat (first | (with_reducible first | exact HB.out | apply below_alloc | apply pw_below_drewN | apply below_drew1) | exact HB.out))) l1.out (Kd.C_below g2.out (by repeat (first | (with_reducible first | exact HB.out | apply below_alloc | apply pw_below_drewN | apply below_drew1) | exact HB.out))) l2.out (Kd.C_below g3.out (by repeat (first | (with_reducible first | exact HB.out | apply below_alloc | apply pw_below_drewN | apply below_drew1) | exact HB.out))) l3.out (Kd.C_below g4.out (by repeat (first | (with_reducible first | exact HB.out | apply below_alloc | apply pw_below_drewN | apply below_drew1) | exact HB.out))) l4.out).mono ?_; rintro e w9 ⟨rfl, hb⟩; rw [HC.out]; have n0_ := Aside0.mk (below_step (by repeat (first | (with_reducible first | exact HB.out | apply below_alloc | apply pw_below_drewN | apply below_drew1) | exact HB.out)) hb); clear HB; have HB := n0_; clear n0_ hb))
        go_roundg (gk - 1)
        case measure => have := HI.out; have := HC1.out; omega
        case rel => exact ⟨i + 1, by rw [← HW.out], ⟨by have := HI.out; have := HC1.out; omega⟩, HF1, ⟨(by repeat (first | (with_reducible first | exact HB.out | apply below_alloc | apply pw_below_drewN | apply below_drew1) | exact HB.out))⟩⟩
    · have c1b0 : decide ((i : Int) < (l0.length : Int)) = false := decide_eq_false (by omega)
      have hfin := findIxG_none (p := (fun x : S28 => !goodB x.f0 x.f1 x.f2 x.f3 x.f4)) (l := l0) (z := z28) (fun j hj => HF.out j (by omega))
      have HFIN := Aside0.mk hfin
      clear hfin
      go_wp2
      go_ret
      exact ⟨by rw [HFIN.out]; rfl, (by repeat (first | (with_reducible first | exact HB.out | apply below_alloc | apply pw_below_drewN | apply below_drew1) | exact HB.out))⟩

set_option maxHeartbeats 4000000 in
theorem containsDisk (A0 : Option Addr) (c0 : Nat) (l0 : List S28) (w : World) (hr0 : Kd.C k28 w A0 l0.length l0) (hc0 : l0.length ≤ c0) :
    Calls Try.prog 73 #[.slice A0 l0.length c0, .func (.func 74) #[] #[]] w fun e w' => e = .returned (.bool (l0.any (fun x : S28 => !goodB x.f0 x.f1 x.f2 x.f3 x.f4))) ∧ Below w.heap.size w w' := by
  have HI := Aside0.mk (indexDisk A0 c0 l0 w hr0 hc0)
  have HR := Aside0.mk (findIxG_any (fun x : S28 => !goodB x.f0 x.f1 x.f2 x.f3 x.f4) l0)
  clear hr0 hc0
  go_enter Try.func73, Try.ntmps73
  go_wp2_with (first | (go_at_call 99; refine HI.out.mono ?_; rintro e w9 ⟨rfl, hb⟩; have HB := Aside0.mk hb; clear hb))
  go_ret
  exact ⟨by have hr := HR.out; simp only [ge_iff_le] at hr; first | (rw [← hr]; rfl) | (simp [← hr]; done), (by repeat (first | (with_reducible first | exact HB.out | apply below_alloc | apply pw_below_drewN | apply below_drew1) | exact HB.out))⟩

def impl_StripeOk.f (l0 : List S28) : Option Bool := some (decide (3 ≤ l0.length ∧ l0.length ≤ 4) && !(l0.any (fun x : S28 => !goodB x.f0 x.f1 x.f2 x.f3 x.f4)))
set_option maxHeartbeats 4000000 in
theorem impl_StripeOk.calls (A0 : Option Addr) (c0 : Nat) (l0 : List S28) (r : Bool) (w : World) (hr0 : Kd.C k28 w A0 l0.length l0) (hc0 : l0.length ≤ c0) (h : impl_StripeOk.f l0 = some r) :
    Calls Try.prog 32 #[.slice A0 l0.length c0] w fun e w' => e = .returned (.bool r) ∧ Below w.heap.size w w' := by
  have HP : Aside0 (impl_isPool.f (l0.length : Int) = some (decide (3 ≤ l0.length ∧ l0.length ≤ 4))) := ⟨by
    unfold impl_isPool.f
    by_cases h1 : (l0.length : Int) ≥ 3
    · rw [if_pos h1]
      congr 1
      rw [Bool.eq_iff_iff, decide_eq_true_iff, decide_eq_true_iff]
      omega
    · rw [if_neg h1, decide_eq_false (by omega)]⟩
  have HCD := Aside0.mk (fun (W : World) (hb : Below w.heap.size w W) => containsDisk A0 c0 l0 W (Kd.C_below hr0 hb) hc0)
  have HB := Aside0.mk (Below.refl w.heap.size w)
  obtain rfl := Option.some.inj h
  clear hr0 hc0 h
  by_cases hp : 3 ≤ l0.length ∧ l0.length ≤ 4
  · rw [decide_eq_true hp] at HP ⊢
    clear hp
    go_enter Try.func32, Try.ntmps32
    go_wp2_with (first | (go_at_call 72; refine (impl_isPool.calls _ _ _ HP.out).mono ?_; rintro e w7 ⟨rfl, ⟨nd, rfl⟩⟩) | (go_at_call 73; refine (HCD.out _ (by repeat (first | (with_reducible first | exact HB.out | apply below_alloc | apply pw_below_drewN | apply below_drew1) | exact HB.out))).mono ?_; rintro e w9 ⟨rfl, hb⟩; have n0_ := Aside0.mk (below_step (by repeat (first | (with_reducible first | exact HB.out | apply below_alloc | apply pw_below_drewN | apply below_drew1) | exact HB.out)) hb); clear HB; have HB := n0_; clear n0_ hb))
    go_ret
    exact ⟨by first | rfl | (simp; done), (by repeat (first | (with_reducible first | exact HB.out | apply below_alloc | apply pw_below_drewN | apply below_drew1) | exact HB.out))⟩
  · rw [decide_eq_false hp] at HP ⊢
    clear hp
    go_enter Try.func32, Try.ntmps32
    go_wp2_with (first | (go_at_call 72; refine (impl_isPool.calls _ _ _ HP.out).mono ?_; rintro e w7 ⟨rfl, ⟨nd, rfl⟩⟩))
    go_ret
    exact ⟨by first | rfl | (simp; done), (by repeat (first | (with_reducible first | exact HB.out | apply below_alloc | apply pw_below_drewN | apply below_drew1) | exact HB.out))⟩
end Go.Proofs.Ytkgpnloghmbmlaa.Print
