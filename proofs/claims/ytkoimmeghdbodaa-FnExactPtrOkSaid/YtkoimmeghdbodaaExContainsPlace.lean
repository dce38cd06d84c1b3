/- Proved: slices.ContainsFunc over places, with the function that asks for a disk held in memory. Conditions: none but what the arguments are. -/
import Derived.Test.YtkoimmeghdbodaaPrint0
namespace Go.Proofs.Ytkoimmeghdbodaa.Print
open Go.RowKit Go.Proofs.YtkoimmeghdbodaaW.PrintWords Go.Proofs.YtkoimmeghdbodaaW.PrintLast Go.Proofs.YtkoimmeghdbodaaW.PrintMore
set_option linter.unusedVariables false
set_option linter.unusedSimpArgs false

set_option maxHeartbeats 1000000 in
theorem ptrPred (x : S37) (y0 y1 : Int) (g : Nat) (w : World) (hg : w.heap[g]? = some (.cells #[.int .i64 y0, .int .i64 y1] 37 (0, 0))) :
    Calls Try.prog 61 #[.agg #[.int .i64 x.f0, .int .i64 x.f1], .pointer (some ⟨g, 0, none⟩)] w fun e w' => e = .returned (.bool (x.f0 == y0)) ∧ Below w.heap.size w w' := by
  have hu37 := Try.underlying37
  have HB := Aside0.mk (Below.refl w.heap.size w)
  have HG := Aside0.mk hg
  clear hg
  go_enter Try.func61, Try.ntmps61
  go_wp2_with (first | ((with_reducible refine gate_dst (N := 2) rfl ?_); refine box_event ?hg (N := 2) ?hd (cs := #[.int .i64 x.f0, .int .i64 x.f1]) (t := 37) ?hr ?_; (case hd => rfl); (case hg => rfl); (case hr => first | (go_simp; done) | (go_simp; rfl)); intro gb hg w5 hbox hb; have n0_ := Aside0.mk (below_step (by repeat (first | (with_reducible first | exact HB.out | apply below_alloc | apply pw_below_drewN | apply below_drew1) | exact HB.out)) hb); have n1_ := Aside0.mk hbox; have n2_ := Aside0.mk (blk_below (g := g) (o := .cells #[.int .i64 y0, .int .i64 y1] 37 (0, 0)) (by (with_reducible repeat (first | refine blk_drewN ?_ _ | refine blk_drew ?_ | refine blk_alloc ?_ _)); exact HG.out) hb); clear HB HG; have HB := n0_; have BK := n1_; have HG := n2_; clear n0_ n1_ n2_; clear hb hbox hg; have hcz_0 : w5.cell? ⟨gb, 0, none⟩ = some (.int .i64 x.f0) := (blk_cell BK.out 0).trans rfl; have hcz_1 : w5.cell? ⟨gb, 1, none⟩ = some (.int .i64 x.f1) := (blk_cell BK.out 1).trans rfl; have hcy_0 : w5.cell? ⟨g, 0, none⟩ = some (.int .i64 y0) := (blk_cell HG.out 0).trans rfl; have hcy_1 : w5.cell? ⟨g, 1, none⟩ = some (.int .i64 y1) := (blk_cell HG.out 1).trans rfl))
  go_ret
  exact ⟨rfl, by repeat (first | (with_reducible first | exact HB.out | apply below_alloc | apply pw_below_drewN | apply below_drew1) | exact HB.out)⟩

def findIx (p : S37 → Bool) (l : List S37) : Int := match l.findIdx? p with | some i => (i : Int) | none => -1
theorem findIx_at {p : S37 → Bool} {l : List S37} {i : Nat} (h : ∀ j, j < i → p (rd_T37 l (j : Int)) = false) (hi : i < l.length) (hp : p (rd_T37 l (i : Int)) = true) : findIx p l = (i : Int) := by
  have e : l.findIdx? p = some i := by
    rw [List.findIdx?_eq_some_iff_getElem]
    refine ⟨hi, ?_, fun j hj => ?_⟩
    · simpa [rd_T37, List.getD, hi] using hp
    · have := h j hj
      have hjl : j < l.length := by omega
      simpa [rd_T37, List.getD, hjl] using this
  rw [findIx, e]
theorem findIx_none {p : S37 → Bool} {l : List S37} (h : ∀ j, j < l.length → p (rd_T37 l (j : Int)) = false) : findIx p l = -1 := by
  have e : l.findIdx? p = none := by
    rw [List.findIdx?_eq_none_iff]
    intro x hx
    obtain ⟨j, hj, rfl⟩ := List.getElem_of_mem hx
    have := h j hj
    simpa [rd_T37, List.getD, hj] using this
  rw [findIx, e]
theorem findIx_any (p : S37 → Bool) (l : List S37) : decide (findIx p l ≥ 0) = l.any p := by
  unfold findIx
  rw [Bool.eq_iff_iff, decide_eq_true_iff, List.any_eq_true]
  cases e : l.findIdx? p with
  | none =>
    rw [List.findIdx?_eq_none_iff] at e
    simp only [ge_iff_le]
    constructor
    · intro h; omega
    · rintro ⟨x, hx, hp⟩
      rw [e x hx] at hp
      cases hp
  | some i =>
    obtain ⟨hi, hp, _⟩ := List.findIdx?_eq_some_iff_getElem.1 e
    simp only [ge_iff_le]
    exact ⟨fun _ => ⟨_, List.getElem_mem hi, hp⟩, fun _ => by omega⟩

set_option maxHeartbeats 4000000 in
set_option maxRecDepth 100000 in
theorem indexPlace (p : S37 → Bool) (A0 : Option Addr) (c0 : Nat) (l0 : List S37) (g : Nat) (w : World) (hr0 : Kd.C k37 w A0 l0.length l0) (hc0 : l0.length ≤ c0)
    (hp : ∀ (x : S37) (W : World), Below w.heap.size w W → Calls Try.prog 61 #[.agg #[.int .i64 x.f0, .int .i64 x.f1], .pointer (some ⟨g, 0, none⟩)] W fun e w' => e = .returned (.bool (p x)) ∧ Below W.heap.size W w') :
    Calls Try.prog 93 #[.slice A0 l0.length c0, .func (.func 61) #[] #[.pointer (some ⟨g, 0, none⟩)]] w fun e w' => e = .returned (.int .i64 (findIx p l0)) ∧ Below w.heap.size w w' := by
  have HR0 := Aside0.mk hr0
  have HC0 := Aside0.mk hc0
  have HM := Aside0.mk (Kd.C_max hr0)
  have HP := Aside0.mk hp
  clear hr0 hc0 hp
  go_enter Try.func93, Try.ntmps93
  go_wp2
  repeat (go_quiet (fail); try go_wp2)
  go_loopg [8] l0.length (fun kq v8 w' => ∃ (i : Nat), v8 = .int .i64 (i : Int) ∧ Aside0 (i + kq = l0.length) ∧ Aside0 (∀ j, j < i → p (rd_T37 l0 (j : Int)) = false) ∧ Aside0 (Below w.heap.size w w'))
  case atStart => exact ⟨0, rfl, ⟨Nat.zero_add _⟩, ⟨fun j hj => by omega⟩, ⟨by repeat (first | exact Below.refl _ _ | apply below_alloc | apply pw_below_drewN | apply below_drew1)⟩⟩
  case round =>
    obtain ⟨i, rfl, HI, HF, HB⟩ := hrel
    by_cases c1 : i < l0.length
    · have c1b0 : decide ((i : Int) < (l0.length : Int)) = true := decide_eq_true (by omega)
      have p1 : (0 : Int) ≤ (i : Int) := by omega
      have q1 : (i : Int) < (l0.length : Int) := by omega
      have hm := HM.out
      have hw1 : wrap64 ((i : Int) + 1) = ((i + 1 : Nat) : Int) := by unfold wrap64; omega
      have HW := Aside0.mk hw1
      clear hm hw1
      obtain ⟨ad, e1, hx_0, hx_1⟩ := at_T37 HR0.out (i : Int) p1 q1
      cases e1
      simp only [Int.toNat_natCast] at hx_0 hx_1
      replace hx_0 := (HB.out.cell (World.block_lt_of_cell? w _ hx_0)).trans hx_0
      replace hx_1 := (HB.out.cell (World.block_lt_of_cell? w _ hx_1)).trans hx_1
      replace p1 := eq_true p1
      replace q1 := eq_true q1
      by_cases c2 : p (rd_T37 l0 (i : Int)) = true
      · have hfin := findIx_at HF.out c1 c2
        have HFIN := Aside0.mk hfin
        have HC := Aside0.mk c2
        clear hfin c2
        go_wp2_with (first | (go_at_call 61; refine (HP.out (rd_T37 l0 (i : Int)) _ (by repeat (first | (with_reducible first | exact HB.out | apply below_alloc | apply pw_below_drewN | apply below_drew1) | exact HB.out))).mono ?_; rintro e w9 ⟨rfl, hb⟩; rw [HC.out]; have n0_ := Aside0.mk (below_step (by repeat (first | (with_reducible first | exact HB.out | apply below_alloc | apply pw_below_drewN | apply below_drew1) | exact HB.out)) hb); clear HB; have HB := n0_; clear n0_ hb))
        go_ret
        exact ⟨by rw [HFIN.out]; rfl, by repeat (first | (with_reducible first | exact HB.out | apply below_alloc | apply pw_below_drewN | apply below_drew1) | exact HB.out)⟩
      · have c2 : p (rd_T37 l0 (i : Int)) = false := by simpa using c2
        have HF1 : Aside0 (∀ j, j < i + 1 → p (rd_T37 l0 (j : Int)) = false) := ⟨fun j hj => by
          by_cases e : j = i
          · rw [e]; exact c2
          · exact HF.out j (by omega)⟩
        have HC := Aside0.mk c2
        clear c2
        go_wp2_with (first | (go_at_call 61; refine (HP.out (rd_T37 l0 (i : Int)) _ (by repeat (first | (with_reducible first | exact HB.out | apply below_alloc | apply pw_below_drewN | apply below_drew1) | exact HB.out))).mono ?_; rintro e w9 ⟨rfl, hb⟩; rw [HC.out]; have n0_ := Aside0.mk (below_step (by repeat (first | (with_reducible first | exact HB.out | apply below_alloc | apply pw_below_drewN | apply below_drew1) | exact HB.out)) hb); clear HB; have HB := n0_; clear n0_ hb))
        go_roundg (gk - 1)
        case measure => have := HI.out; omega
        case rel => exact ⟨i + 1, by rw [← HW.out], ⟨by have := HI.out; omega⟩, HF1, ⟨by repeat (first | (with_reducible first | exact HB.out | apply below_alloc | apply pw_below_drewN | apply below_drew1) | exact HB.out)⟩⟩
    · have c1b0 : decide ((i : Int) < (l0.length : Int)) = false := decide_eq_false (by omega)
      have hfin := findIx_none (p := p) (l := l0) (fun j hj => HF.out j (by omega))
      have HFIN := Aside0.mk hfin
      clear hfin
      go_wp2
      go_ret
      exact ⟨by rw [HFIN.out]; rfl, by repeat (first | (with_reducible first | exact HB.out | apply below_alloc | apply pw_below_drewN | apply below_drew1) | exact HB.out)⟩

def slices_ContainsFunc_Place.f (l0 : List S37) (a1_0 : Int) (a1_1 : Int) : Option Bool := some (l0.any fun x => x.f0 == a1_0)
set_option maxHeartbeats 4000000 in
theorem slices_ContainsFunc_Place.calls (A0 : Option Addr) (c0 : Nat) (l0 : List S37) (a1_0 : Int) (a1_1 : Int) (r : Bool) (w : World) (hr0 : Kd.C k37 w A0 l0.length l0) (hc0 : l0.length ≤ c0) (h : slices_ContainsFunc_Place.f l0 a1_0 a1_1 = some r)
    (g : Nat) (hg : w.heap[g]? = some (.cells #[.int .i64 a1_0, .int .i64 a1_1] 37 (0, 0))) :
    Calls Try.prog 60 #[.slice A0 l0.length c0, .func (.func 61) #[] #[.pointer (some ⟨g, 0, none⟩)]] w fun e w' => e = .returned (.bool r) ∧ Below w.heap.size w w' := by
  have hlt := blk_lt hg
  have HI := Aside0.mk (indexPlace (fun x => x.f0 == a1_0) A0 c0 l0 g w hr0 hc0 (fun x W hb => ptrPred x a1_0 a1_1 g W ((hb.block g hlt).trans hg)))
  have HR := Aside0.mk ((findIx_any (fun x => x.f0 == a1_0) l0).trans (Option.some.inj h))
  clear hr0 hc0 h hg hlt
  go_enter Try.func60, Try.ntmps60
  go_wp2_with (first | (go_at_call 93; refine HI.out.mono ?_; rintro e w9 ⟨rfl, hb⟩; have HB := Aside0.mk hb; clear hb))
  go_ret
  exact ⟨by have hr := HR.out; simp only [ge_iff_le] at hr; first | (rw [← hr]; rfl) | (simp [← hr]; done), by repeat (first | (with_reducible first | exact HB.out | apply below_alloc | apply pw_below_drewN | apply below_drew1) | exact HB.out)⟩
end Go.Proofs.Ytkoimmeghdbodaa.Print
