/- Proved: slices.IndexFunc and slices.ContainsFunc over writes and over texts, with functions that hold nothing. Conditions: none but what the arguments are. -/
import Derived.Test.YtkgpnloghmbmlaaPrint10
namespace Go.Proofs.Ytkgpnloghmbmlaa.Print
open Go.RowKit Go.Proofs.YtkgpnloghmbmlaaW.PrintWords Go.Proofs.YtkgpnloghmbmlaaW.PrintLast Go.Proofs.YtkgpnloghmbmlaaW.PrintMore
set_option linter.unusedVariables false
set_option linter.unusedSimpArgs false

def putB (x : S54) : Bool := if x.f0 = true then decide (0 ≤ x.f1 ∧ x.f1 < 2 ∧ x.f2.size ≤ 700) else decide (0 ≤ x.f1 ∧ x.f1 < 12 ∧ x.f2.size = 3)
theorem putB_eq (x : S54) : impl_putOk.f x.f0 x.f1 x.f2 = some (putB x) := by
  unfold impl_putOk.f impl_isColumn.f putB
  by_cases h0 : x.f0 = true
  · rw [if_pos h0, if_pos h0]
    by_cases h1 : x.f1 ≥ 0
    · rw [if_pos h1]
      by_cases h2 : x.f1 < 2
      · rw [if_pos h2]
        congr 1
        rw [Bool.eq_iff_iff, decide_eq_true_iff, decide_eq_true_iff]
        omega
      · rw [if_neg h2, decide_eq_false (by omega)]
    · rw [if_neg h1, decide_eq_false (by omega)]
  · rw [if_neg h0, if_neg h0]
    by_cases h1 : x.f1 ≥ 0
    · rw [if_pos h1]
      by_cases h2 : x.f1 < 12
      · rw [if_pos h2]
        simp only [Option.bind_some]
        congr 1
        rw [Bool.eq_iff_iff, decide_eq_true_iff, beq_iff_eq]
        omega
      · rw [if_neg h2, decide_eq_false (by omega)]
    · rw [if_neg h1, decide_eq_false (by omega)]

set_option maxHeartbeats 1000000 in
theorem putPred (x : S54) (w : World) :
    Calls Try.prog 93 #[.agg #[.bool x.f0, .int .i64 x.f1, .string x.f2]] w fun e w' => e = .returned (.bool (!putB x)) ∧ Below w.heap.size w w' := by
  have hu54 := Try.underlying54
  have HB := Aside0.mk (Below.refl w.heap.size w)
  have HP := Aside0.mk (putB_eq x)
  go_enter Try.func93, Try.ntmps93
  go_wp2_with (first | ((with_reducible refine gate_dst (N := 1) rfl ?_); refine box_event ?hg (N := 1) ?hd (cs := #[.bool x.f0, .int .i64 x.f1, .string x.f2]) (t := 54) ?hr ?_; (case hd => rfl); (case hg => rfl); (case hr => first | (go_simp; done) | (go_simp; rfl)); intro gb hg w5 hbox hb; have n0_ := Aside0.mk (below_step (by repeat (first | (with_reducible first | exact HB.out | apply below_alloc | apply pw_below_drewN | apply below_drew1) | exact HB.out)) hb); have n1_ := Aside0.mk hbox; clear HB; have HB := n0_; have BK := n1_; clear n0_ n1_; clear hb hbox hg; have hcz_0 : w5.cell? ⟨gb, 0, none⟩ = some (.bool x.f0) := (blk_cell BK.out 0).trans rfl; have hcz_1 : w5.cell? ⟨gb, 1, none⟩ = some (.int .i64 x.f1) := (blk_cell BK.out 1).trans rfl; have hcz_2 : w5.cell? ⟨gb, 2, none⟩ = some (.string x.f2) := (blk_cell BK.out 2).trans rfl) | (go_at_call 83; refine (impl_putOk.calls _ _ _ _ _ HP.out).mono ?_; rintro e w9 ⟨rfl, hb⟩; have n0_ := Aside0.mk (below_step (by repeat (first | (with_reducible first | exact HB.out | apply below_alloc | apply pw_below_drewN | apply below_drew1) | exact HB.out)) hb); clear HB; have HB := n0_; clear n0_ hb))
  go_ret
  exact ⟨rfl, (by repeat (first | (with_reducible first | exact HB.out | apply below_alloc | apply pw_below_drewN | apply below_drew1) | exact HB.out))⟩

set_option maxHeartbeats 1000000 in
theorem textPred (x : ByteArray) (w : World) :
    Calls Try.prog 96 #[.string x] w fun e w' => e = .returned (.bool (decide ((x.size : Int) > 700))) ∧ Below w.heap.size w w' := by
  have HB := Aside0.mk (Below.refl w.heap.size w)
  go_enter Try.func96, Try.ntmps96
  go_wp2
  go_ret
  exact ⟨rfl, (by repeat (first | (with_reducible first | exact HB.out | apply below_alloc | apply pw_below_drewN | apply below_drew1) | exact HB.out))⟩

def findIxG {α : Type} (p : α → Bool) (l : List α) : Int := match l.findIdx? p with | some i => (i : Int) | none => -1
theorem findIxG_at {α : Type} {z : α} {p : α → Bool} {l : List α} {i : Nat} (h : ∀ j, j < i → p (l.getD j z) = false) (hi : i < l.length) (hp : p (l.getD i z) = true) : findIxG p l = (i : Int) := by
  have e : l.findIdx? p = some i := by
    rw [List.findIdx?_eq_some_iff_getElem]
    refine ⟨hi, ?_, fun j hj => ?_⟩
    · simpa [List.getD, hi] using hp
    · have := h j hj
      have hjl : j < l.length := by omega
      simpa [List.getD, hjl] using this
  rw [findIxG, e]
theorem findIxG_none {α : Type} {z : α} {p : α → Bool} {l : List α} (h : ∀ j, j < l.length → p (l.getD j z) = false) : findIxG p l = -1 := by
  have e : l.findIdx? p = none := by
    rw [List.findIdx?_eq_none_iff]
    intro x hx
    obtain ⟨j, hj, rfl⟩ := List.getElem_of_mem hx
    have := h j hj
    simpa [List.getD, hj] using this
  rw [findIxG, e]
theorem findIxG_any {α : Type} (p : α → Bool) (l : List α) : decide (findIxG p l ≥ 0) = l.any p := by
  unfold findIxG
  rw [Bool.eq_iff_iff, decide_eq_true_iff, List.any_eq_true]
  cases e : l.findIdx? p with
  | none =>
    rw [List.findIdx?_eq_none_iff] at e
    simp only [ge_iff_le]
    constructor
    · intro h; omega
    · rintro ⟨x, hx, hp⟩
      rw [e x hx] at hp
      cases hp
  | some i =>
    obtain ⟨hi, hp, _⟩ := List.findIdx?_eq_some_iff_getElem.1 e
    simp only [ge_iff_le]
    exact ⟨fun _ => ⟨_, List.getElem_mem hi, hp⟩, fun _ => by omega⟩

set_option maxHeartbeats 4000000 in
set_option maxRecDepth 100000 in
theorem indexPut (A0 : Option Addr) (c0 : Nat) (l0 : List S54) (w : World) (hr0 : Kd.C k54 w A0 l0.length l0) (hc0 : l0.length ≤ c0) :
    Calls Try.prog 104 #[.slice A0 l0.length c0, .func (.func 93) #[] #[]] w fun e w' => e = .returned (.int .i64 (findIxG (fun x => !putB x) l0)) ∧ Below w.heap.size w w' := by
  have HR0 := Aside0.mk hr0
  have HC0 := Aside0.mk hc0
  have HM := Aside0.mk (Kd.C_max hr0)
  clear hr0 hc0
  go_enter Try.func104, Try.ntmps104
  go_wp2
  repeat (go_quiet (fail); try go_wp2)
  go_loopg [8] l0.length (fun kq v8 w' => ∃ (i : Nat), v8 = .int .i64 (i : Int) ∧ Aside0 (i + kq = l0.length) ∧ Aside0 (∀ j, j < i → (fun x => !putB x) (l0.getD j z54) = false) ∧ Aside0 (Below w.heap.size w w'))
  case atStart => exact ⟨0, rfl, ⟨Nat.zero_add _⟩, ⟨fun j hj => by omega⟩, ⟨by repeat (first | exact Below.refl _ _ | apply below_alloc | apply pw_below_drewN | apply below_drew1)⟩⟩
  case round =>
    obtain ⟨i, rfl, HI, HF, HB⟩ := hrel
    by_cases c1 : i < l0.length
    · have c1b0 : decide ((i : Int) < (l0.length : Int)) = true := decide_eq_true (by omega)
      have p1 : (0 : Int) ≤ (i : Int) := by omega
      have q1 : (i : Int) < (l0.length : Int) := by omega
      have hm := HM.out
      have hw1 : wrap64 ((i : Int) + 1) = ((i + 1 : Nat) : Int) := by unfold wrap64; omega
      have HW := Aside0.mk hw1
      clear hm hw1
      obtain ⟨ad, e1, hx_0, hx_1, hx_2⟩ := at_T54 HR0.out (i : Int) p1 q1
      cases e1
      simp only [Int.toNat_natCast, rd_T54] at hx_0 hx_1 hx_2
      replace hx_0 := (HB.out.cell (World.block_lt_of_cell? w _ hx_0)).trans hx_0
      replace hx_1 := (HB.out.cell (World.block_lt_of_cell? w _ hx_1)).trans hx_1
      replace hx_2 := (HB.out.cell (World.block_lt_of_cell? w _ hx_2)).trans hx_2
      replace p1 := eq_true p1
      replace q1 := eq_true q1
      obtain ⟨x, hE⟩ : ∃ x, x = l0.getD i z54 := ⟨_, rfl⟩
      rw [← hE] at hx_0 hx_1 hx_2
      have HE := Aside0.mk hE
      clear hE
      by_cases c2 : (!putB x) = true
      · have hfin := findIxG_at (p := (fun x => !putB x)) (z := z54) HF.out c1 (by rw [← HE.out]; exact c2)
        have HFIN := Aside0.mk hfin
        have HC := Aside0.mk c2
        clear hfin c2
        go_wp2_with (first | (go_at_call 93; refine (putPred x _).mono ?_; rintro e w9 ⟨rfl, hb⟩; rw [HC.out]; have n0_ := Aside0.mk (below_step (by repeat (first | (with_reducible first | exact HB.out | apply below_alloc | apply pw_below_drewN | apply below_drew1) | exact HB.out)) hb); clear HB; have HB := n0_; clear n0_ hb))
        go_ret
        exact ⟨by rw [HFIN.out]; rfl, (by repeat (first | (with_reducible first | exact HB.out | apply below_alloc | apply pw_below_drewN | apply below_drew1) | exact HB.out))⟩
      · have c2 : (!putB x) = false := by simpa using c2
        have HF1 : Aside0 (∀ j, j < i + 1 → (fun x => !putB x) (l0.getD j z54) = false) := ⟨fun j hj => by
          by_cases e : j = i
          · rw [e, ← HE.out]; exact c2
          · exact HF.out j (by omega)⟩
        have HC := Aside0.mk c2
        clear c2
        go_wp2_with (first | (go_at_call 93; refine (putPred x _).mono ?_; rintro e w9 ⟨rfl, hb⟩; rw [HC.out]; have n0_ := Aside0.mk (below_step (by repeat (first | (with_reducible first | exact HB.out | apply below_alloc | apply pw_below_drewN | apply below_drew1) | exact HB.out)) hb); clear HB; have HB := n0_; clear n0_ hb))
        go_roundg (gk - 1)
        case measure => have := HI.out; omega
        case rel => exact ⟨i + 1, by rw [← HW.out], ⟨by have := HI.out; omega⟩, HF1, ⟨(by repeat (first | (with_reducible first | exact HB.out | apply below_alloc | apply pw_below_drewN | apply below_drew1) | exact HB.out))⟩⟩
    · have c1b0 : decide ((i : Int) < (l0.length : Int)) = false := decide_eq_false (by omega)
      have hfin := findIxG_none (p := (fun x => !putB x)) (l := l0) (z := z54) (fun j hj => HF.out j (by omega))
      have HFIN := Aside0.mk hfin
      clear hfin
      go_wp2
      go_ret
      exact ⟨by rw [HFIN.out]; rfl, (by repeat (first | (with_reducible first | exact HB.out | apply below_alloc | apply pw_below_drewN | apply below_drew1) | exact HB.out))⟩

set_option maxHeartbeats 4000000 in
theorem containsPut (A0 : Option Addr) (c0 : Nat) (l0 : List S54) (w : World) (hr0 : Kd.C k54 w A0 l0.length l0) (hc0 : l0.length ≤ c0) :
    Calls Try.prog 92 #[.slice A0 l0.length c0, .func (.func 93) #[] #[]] w fun e w' => e = .returned (.bool (l0.any (fun x => !putB x))) ∧ Below w.heap.size w w' := by
  have HI := Aside0.mk (indexPut A0 c0 l0 w hr0 hc0)
  have HR := Aside0.mk (findIxG_any (fun x => !putB x) l0)
  clear hr0 hc0
  go_enter Try.func92, Try.ntmps92
  go_wp2_with (first | (go_at_call 104; refine HI.out.mono ?_; rintro e w9 ⟨rfl, hb⟩; have HB := Aside0.mk hb; clear hb))
  go_ret
  exact ⟨by have hr := HR.out; simp only [ge_iff_le] at hr; first | (rw [← hr]; rfl) | (simp [← hr]; done), (by repeat (first | (with_reducible first | exact HB.out | apply below_alloc | apply pw_below_drewN | apply below_drew1) | exact HB.out))⟩

set_option maxHeartbeats 4000000 in
set_option maxRecDepth 100000 in
theorem indexText (A0 : Option Addr) (c0 : Nat) (l0 : List ByteArray) (w : World) (hr0 : Kd.C Kd.string w A0 l0.length l0) (hc0 : l0.length ≤ c0) :
    Calls Try.prog 105 #[.slice A0 l0.length c0, .func (.func 96) #[] #[]] w fun e w' => e = .returned (.int .i64 (findIxG (fun x : ByteArray => decide ((x.size : Int) > 700)) l0)) ∧ Below w.heap.size w w' := by
  have HR0 := Aside0.mk hr0
  have HC0 := Aside0.mk hc0
  have HM := Aside0.mk (Kd.C_max hr0)
  clear hr0 hc0
  go_enter Try.func105, Try.ntmps105
  go_wp2
  repeat (go_quiet (fail); try go_wp2)
  go_loopg [8] l0.length (fun kq v8 w' => ∃ (i : Nat), v8 = .int .i64 (i : Int) ∧ Aside0 (i + kq = l0.length) ∧ Aside0 (∀ j, j < i → (fun x : ByteArray => decide ((x.size : Int) > 700)) (l0.getD j ByteArray.empty) = false) ∧ Aside0 (Below w.heap.size w w'))
  case atStart => exact ⟨0, rfl, ⟨Nat.zero_add _⟩, ⟨fun j hj => by omega⟩, ⟨by repeat (first | exact Below.refl _ _ | apply below_alloc | apply pw_below_drewN | apply below_drew1)⟩⟩
  case round =>
    obtain ⟨i, rfl, HI, HF, HB⟩ := hrel
    by_cases c1 : i < l0.length
    · have c1b0 : decide ((i : Int) < (l0.length : Int)) = true := decide_eq_true (by omega)
      have p1 : (0 : Int) ≤ (i : Int) := by omega
      have q1 : (i : Int) < (l0.length : Int) := by omega
      have hm := HM.out
      have hw1 : wrap64 ((i : Int) + 1) = ((i + 1 : Nat) : Int) := by unfold wrap64; omega
      have HW := Aside0.mk hw1
      clear hm hw1
      obtain ⟨ad, e1, hx_0⟩ := Kd.at_string HR0.out (i : Int) p1 q1
      cases e1
      simp only [Int.toNat_natCast, rdOf] at hx_0
      replace hx_0 := (HB.out.cell (World.block_lt_of_cell? w _ hx_0)).trans hx_0
      replace p1 := eq_true p1
      replace q1 := eq_true q1
      obtain ⟨x, hE⟩ : ∃ x, x = l0.getD i ByteArray.empty := ⟨_, rfl⟩
      rw [← hE] at hx_0
      have HE := Aside0.mk hE
      clear hE
      by_cases c2 : decide ((x.size : Int) > 700) = true
      · have hfin := findIxG_at (p := (fun x : ByteArray => decide ((x.size : Int) > 700))) (z := ByteArray.empty) HF.out c1 (by rw [← HE.out]; exact c2)
        have HFIN := Aside0.mk hfin
        have HC := Aside0.mk c2
        clear hfin c2
        go_wp2_with (first | (go_at_call 96; refine (textPred x _).mono ?_; rintro e w9 ⟨rfl, hb⟩; rw [HC.out]; have n0_ := Aside0.mk (below_step (by repeat (first | (with_reducible first | exact HB.out | apply below_alloc | apply pw_below_drewN | apply below_drew1) | exact HB.out)) hb); clear HB; have HB := n0_; clear n0_ hb))
        go_ret
        exact ⟨by rw [HFIN.out]; rfl, (by repeat (first | (with_reducible first | exact HB.out | apply below_alloc | apply pw_below_drewN | apply below_drew1) | exact HB.out))⟩
      · have c2 : decide ((x.size : Int) > 700) = false := by simpa using c2
        have HF1 : Aside0 (∀ j, j < i + 1 → (fun x : ByteArray => decide ((x.size : Int) > 700)) (l0.getD j ByteArray.empty) = false) := ⟨fun j hj => by
          by_cases e : j = i
          · rw [e, ← HE.out]; exact c2
          · exact HF.out j (by omega)⟩
        have HC := Aside0.mk c2
        clear c2
        go_wp2_with (first | (go_at_call 96; refine (textPred x _).mono ?_; rintro e w9 ⟨rfl, hb⟩; rw [HC.out]; have n0_ := Aside0.mk (below_step (by repeat (first | (with_reducible first | exact HB.out | apply below_alloc | apply pw_below_drewN | apply below_drew1) | exact HB.out)) hb); clear HB; have HB := n0_; clear n0_ hb))
        go_roundg (gk - 1)
        case measure => have := HI.out; omega
        case rel => exact ⟨i + 1, by rw [← HW.out], ⟨by have := HI.out; omega⟩, HF1, ⟨(by repeat (first | (with_reducible first | exact HB.out | apply below_alloc | apply pw_below_drewN | apply below_drew1) | exact HB.out))⟩⟩
    · have c1b0 : decide ((i : Int) < (l0.length : Int)) = false := decide_eq_false (by omega)
      have hfin := findIxG_none (p := (fun x : ByteArray => decide ((x.size : Int) > 700))) (l := l0) (z := ByteArray.empty) (fun j hj => HF.out j (by omega))
      have HFIN := Aside0.mk hfin
      clear hfin
      go_wp2
      go_ret
      exact ⟨by rw [HFIN.out]; rfl, (by repeat (first | (with_reducible first | exact HB.out | apply below_alloc | apply pw_below_drewN | apply below_drew1) | exact HB.out))⟩

set_option maxHeartbeats 4000000 in
theorem containsText (A0 : Option Addr) (c0 : Nat) (l0 : List ByteArray) (w : World) (hr0 : Kd.C Kd.string w A0 l0.length l0) (hc0 : l0.length ≤ c0) :
    Calls Try.prog 95 #[.slice A0 l0.length c0, .func (.func 96) #[] #[]] w fun e w' => e = .returned (.bool (l0.any (fun x : ByteArray => decide ((x.size : Int) > 700)))) ∧ Below w.heap.size w w' := by
  have HI := Aside0.mk (indexText A0 c0 l0 w hr0 hc0)
  have HR := Aside0.mk (findIxG_any (fun x : ByteArray => decide ((x.size : Int) > 700)) l0)
  clear hr0 hc0
  go_enter Try.func95, Try.ntmps95
  go_wp2_with (first | (go_at_call 105; refine HI.out.mono ?_; rintro e w9 ⟨rfl, hb⟩; have HB := Aside0.mk hb; clear hb))
  go_ret
  exact ⟨by have hr := HR.out; simp only [ge_iff_le] at hr; first | (rw [← hr]; rfl) | (simp [← hr]; done), (by repeat (first | (with_reducible first | exact HB.out | apply below_alloc | apply pw_below_drewN | apply below_drew1) | exact HB.out))⟩
end Go.Proofs.Ytkgpnloghmbmlaa.Print
