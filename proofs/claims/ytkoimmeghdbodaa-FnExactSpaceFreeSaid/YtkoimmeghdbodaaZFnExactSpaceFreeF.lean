/- Proved, with what follows on it: the row of the law FnExactSpaceFree. Conditions: the row's alone. Texts of this session and words that the kit's print laid for this seat, merged and cut by shrink.py, a program of this session. -/
import Derived.Maps.OwnSet
import Derived.Test.YtkoimmeghdbodaaZFnExactSpaceFreeE
namespace Go.Proofs.Ytkoimmeghdbodaa.Hd
open Go.RowKit Go.Proofs.Ytkoimmeghdbodaa.Print Go.Proofs.YtkoimmeghdbodaaW.PrintWords Go.Proofs.YtkoimmeghdbodaaW.PrintLast Go.Proofs.YtkoimmeghdbodaaW.PrintMore Go.Proofs.Ytkoimmeghdbodaa.Pure
set_option linter.unusedVariables false
set_option linter.unusedSimpArgs false
abbrev AC := Option Addr × Nat
def cR (M : AC) (D : Int × List S65) : Array Value := #[.int .i64 D.1, .slice M.1 D.2.length M.2]
def cA (M : AC) (D : Int × List S120) : Array Value := #[.int .i64 D.1, .slice M.1 D.2.length M.2]
def pV (M : AC) (l : List S37) : Value := .slice M.1 l.length M.2
theorem cR_one (M : AC) (D : Int × List S65) : (cR M D).all (·.oneCell') = true := by simp [cR, Value.oneCell']
theorem size57 : (Try.prog.info? 57).map (·.size) = some 2 := by kernel_rfl
theorem size52 : (Try.prog.info? 52).map (·.size) = some 2 := by kernel_rfl
def OwR (wc : World) (B lo hi : Nat) (M : AC) (D : List S65) : Prop := Kd.R k65 65 wc B (fun k => lo ≤ k ∧ k < hi) (.slice M.1 D.length M.2) D
def OwP (wc : World) (B lo hi : Nat) (M : AC) (l : List S37) : Prop := Kd.R k37 37 wc B (fun k => lo ≤ k ∧ k < hi) (pV M l) l
def RdR (w : World) (M : AC) (D : List S65) : Prop := D.length ≤ M.2 ∧ Kd.C k65 w M.1 D.length D
def RdP (w : World) (M : AC) (l : List S37) : Prop := l.length ≤ M.2 ∧ Kd.C k37 w M.1 l.length l
section
variable {base : Nat} {w0 w wc : World} {L : List Part} {B lo hi : Nat} {M : AC}
theorem Hd.rdR (h : Hd base w0 w L) (i : Nat) (e : L[i]? = some (.same lo hi wc)) {D : List S65} (O : OwR wc B lo hi M D) : RdR w M D := by
  have := Kd.R_reads' (Kd.R_move O (fun k hk => h.same i e k hk.1 hk.2))
  exact ⟨this.2.1, this.2.2⟩
theorem Hd.rdP (h : Hd base w0 w L) (i : Nat) (e : L[i]? = some (.same lo hi wc)) {l : List S37} (O : OwP wc B lo hi M l) : RdP w M l := by
  have := Kd.R_reads' (Kd.R_move O (fun k hk => h.same i e k hk.1 hk.2))
  exact ⟨this.2.1, this.2.2⟩
theorem Hd.owR (h : Hd base w0 w L) (i : Nat) (e : L[i]? = some (.same lo hi wc)) {D : List S65} (O : OwR wc B lo hi M D) : OwR w B lo hi M D := Kd.R_move O (fun k hk => h.same i e k hk.1 hk.2)
theorem Hd.owP (h : Hd base w0 w L) (i : Nat) (e : L[i]? = some (.same lo hi wc)) {l : List S37} (O : OwP wc B lo hi M l) : OwP w B lo hi M l := Kd.R_move O (fun k hk => h.same i e k hk.1 hk.2)
end
theorem owP_of {w w' : World} {B : Nat} (hB : B ≤ w.heap.size) {v : Value} {l : List S37} (h : Kd.R k37 37 w' w.heap.size (fun _ => True) v l) : ∃ M, v = pV M l ∧ OwP w' B w.heap.size w'.heap.size M l := by
  obtain ⟨A, c, rfl⟩ := Kd.R_slice h
  exact ⟨(A, c), rfl, Kd.R_lower (Kd.R_mono (Kd.R_bound h) (fun k hk => ⟨hk.2.1, hk.2.2.1⟩)) hB⟩
theorem owR_of {w w' : World} {B : Nat} (hB : B ≤ w.heap.size) {v : Value} {l : List S65} (h : Kd.R k65 65 w' w.heap.size (fun _ => True) v l) : ∃ M : AC, v = .slice M.1 l.length M.2 ∧ OwR w' B w.heap.size w'.heap.size M l := by
  obtain ⟨A, c, rfl⟩ := Kd.R_slice h
  exact ⟨(A, c), rfl, Kd.R_lower (Kd.R_mono (Kd.R_bound h) (fun k hk => ⟨hk.2.1, hk.2.2.1⟩)) hB⟩
theorem toRoot_call {tx : Int} {l : List S120} (hF : FitR l) {w : World} {M : AC} (hr : Kd.C k120 w M.1 l.length l) (hc : l.length ≤ M.2) {B : Nat} (hB : B ≤ w.heap.size) :
    Calls Try.prog 37 #[.agg (cA M (tx, l))] w fun e w' => ∃ M', e = .returned (.agg (cR M' (tx, l.map voC))) ∧ OwR w' B w.heap.size w'.heap.size M' (l.map voC) ∧ Below w.heap.size w w' := by
  obtain ⟨k, hk⟩ := Ev.rounds (toRoot_ev tx l hF)
  refine (laws_toRoot.calls k tx M.1 M.2 l tx (l.map voC) w hr hc hk).mono ?_
  rintro e w' ⟨v, rfl, hR, hb⟩
  obtain ⟨M', rfl, hO⟩ := owR_of hB hR
  exact ⟨M', rfl, hO, hb⟩
theorem eqPl_call {l : List S37} (hl : l.length ≤ 1048576) {w : World} {M M' : AC} (h : RdP w M l) (h' : RdP w M' l) : Calls Try.prog 31 #[pV M l, pV M' l] w fun e w' => e = .returned (.bool true) ∧ Below w.heap.size w w' := by
  obtain ⟨k, hk⟩ := Ev.rounds (eqPlaceS_ev l hl)
  exact laws_eqPlaceS.calls k M.1 M.2 l M'.1 M'.2 l true w h.2 h.1 h'.2 h'.1 hk
theorem eqRoot_call {tx : Int} {D : List S65} (hF : FitM D) {w : World} {M M' : AC} (h : RdR w M D) (h' : RdR w M' D) : Calls Try.prog 39 #[.agg (cR M (tx, D)), .agg (cR M' (tx, D))] w fun e w' => e = .returned (.bool true) ∧ Below w.heap.size w w' := by
  obtain ⟨k, hk⟩ := Ev.rounds (eqRoot_ev tx D hF)
  exact laws_eqRoot.calls k tx M.1 M.2 D tx M'.1 M'.2 D true w h.2 h.1 h'.2 h'.1 hk
theorem heldPl_call {l : List S37} (hl : l.length ≤ 1048576) {w : World} {M : AC} (h : RdP w M (mkd l l.length)) : Calls Try.prog 46 #[pV M l, .int .i64 1] w fun e w' => e = .returned (.int .i64 (2 * (l.length : Int) + 1)) ∧ Below w.heap.size w w' := by
  have hz := mkd_length l l.length (Nat.le_refl _)
  rw [show pV M l = pV M (mkd l l.length) by unfold pV; rw [hz]]
  obtain ⟨k, hk⟩ := Ev.rounds (heldPlaceS_ev l hl)
  exact (laws_heldPlaceS.calls k M.1 M.2 (mkd l l.length) 1 _ w h.2 h.1 hk).mono fun e w' h => ⟨h.1, h.2.below⟩
theorem markPlS_call {l : List S37} (hl : l.length ≤ 1048576) {w0 w : World} (hB : Below w0.heap.size w0 w) {lo hi : Nat} {M : AC} (h : OwP w w0.heap.size lo hi M l) (hhi : hi ≤ w.heap.size) :
    Calls Try.prog 32 #[pV M l, .int .i64 1] w fun e w' => e = .returned (.int .i64 (2 * (l.length : Int) + 1)) ∧ OwP w' w0.heap.size lo hi M (mkd l l.length) ∧ Below w0.heap.size w0 w' ∧ Below w0.heap.size w w' ∧ (∀ k, k < w.heap.size → (k < lo ∨ hi ≤ k) → w'.heap[k]? = w.heap[k]?) := by
  obtain ⟨k, hk⟩ := Ev.rounds (markPlaceS_ev l hl)
  refine (laws_markPlaceS.calls k (fun k => lo ≤ k ∧ k < hi) (pV M l) l 1 _ _ w0 w hB h hk).mono ?_
  rintro e w' ⟨rfl, hR, hb, hkept⟩
  have hz := mkd_length l l.length (Nat.le_refl _)
  have hown : ∀ k, (pV M l).ownBlock = some k → lo ≤ k ∧ k < hi := h.1
  refine ⟨rfl, ?_, hb, ?_, ?_⟩
  · have hR2 := Kd.R_mono (Kd.R_tight (rfl : k37.E = []) hR) (ok' := fun k => lo ≤ k ∧ k < hi) (fun k hk => hown k hk.symm)
    unfold OwP
    rw [show pV M (mkd l l.length) = pV M l by unfold pV; rw [hz]]
    exact hR2
  · exact ⟨hb.os.trans hB.os.symm, hb.tape.trans hB.tape.symm, hb.output.trans hB.output.symm, hkept.1, fun k hk => (hb.block k hk).trans (hB.block k hk).symm⟩
  · exact fun k hk hf => hkept.2 k hk (fun h => by omega)
section
variable {w : World} {B lo hi : Nat} {ok : Nat → Prop} {v : Value}
theorem shPl_of {l : List S37} (h : Kd.R k37 37 w B ok v l) (hok : ∀ k, ok k → lo ≤ k ∧ k < hi) : ShPl w lo hi v l.length := by
  have h0 := h.1
  obtain ⟨_, inner, hown, hr⟩ := h
  rcases hown.2 with ⟨rfl, h1⟩ | ⟨g, cap, cur, rfl, hb, hh, hnc, hcm, hcs, ht⟩
  · exact Or.inl ⟨0, rfl, h1⟩
  · refine Or.inr ⟨g, cap, cur, rfl, hok g (h0 g rfl), hh, ?_⟩
    rw [hcs]
    exact Nat.mul_le_mul_right _ hnc
theorem shPt_of {l : List S29} (h : Kd.R k29 29 w B ok v l) (hok : ∀ k, ok k → lo ≤ k ∧ k < hi) (hl : ∀ x ∈ l, x.f2.length ≤ 1048576) : ShPt w lo hi v l.length := by
  have h0 := h.1
  obtain ⟨_, inner, hown, hr⟩ := h
  rcases hown.2 with ⟨rfl, h1⟩ | ⟨g, cap, cur, rfl, hb, hh, hnc, hcm, hcs, ht⟩
  · exact Or.inl ⟨0, rfl, h1⟩
  · refine Or.inr ⟨g, cap, cur, rfl, hok g (h0 g rfl), hh, by rw [hcs]; exact Nat.mul_le_mul_right _ hnc, fun i hi' => ?_⟩
    obtain ⟨v2, e, hR⟩ := k29_openM (hr.2 i l[i] (List.getElem?_eq_getElem hi'))
    rw [show k29.sz = 3 from rfl] at e
    have h2 : ((inner.drop (i * 3)).take 3)[2]? = some v2 := by rw [e]; rfl
    rw [List.getElem?_take_of_lt (by omega), List.getElem?_drop, ← ht, List.getElem?_take_of_lt (by show _ < l.length * 3; omega)] at h2
    exact ⟨v2, _, by simpa using h2, shPl_of hR (fun k hk => hok k hk.1), hl _ (List.getElem_mem hi')⟩
theorem shVo_of {l : List S65} (h : Kd.R k65 65 w B ok v l) (hok : ∀ k, ok k → lo ≤ k ∧ k < hi) (hF : FitM l) : ShVo w lo hi v l.length := by
  have h0 := h.1
  obtain ⟨_, inner, hown, hr⟩ := h
  rcases hown.2 with ⟨rfl, h1⟩ | ⟨g, cap, cur, rfl, hb, hh, hnc, hcm, hcs, ht⟩
  · exact Or.inl ⟨0, rfl, h1⟩
  · refine Or.inr ⟨g, cap, cur, rfl, hok g (h0 g rfl), hh, by rw [hcs]; exact Nat.mul_le_mul_right _ hnc, fun i hi' => ?_⟩
    obtain ⟨v2, e, hR⟩ := k65_openM (hr.2 i l[i] (List.getElem?_eq_getElem hi'))
    rw [show k65.sz = 2 from rfl] at e
    have h2 : ((inner.drop (i * 2)).take 2)[1]? = some v2 := by rw [e]; rfl
    rw [List.getElem?_take_of_lt (by omega), List.getElem?_drop, ← ht, List.getElem?_take_of_lt (by show _ < l.length * 2; omega)] at h2
    exact ⟨v2, _, by simpa using h2, shPt_of hR (fun k hk => hok k hk.1) (hF.places _ (List.getElem_mem hi')), hF.ptrs _ (List.getElem_mem hi')⟩
end
theorem markR_call {tx : Int} {D : List S65} (hF : FitM D) {w0 w : World} (hB : Below w0.heap.size w0 w) {lo hi : Nat} {M : AC} (hlo : w0.heap.size ≤ lo) (h : OwR w w0.heap.size lo hi M D) (k0 : Int) (hk : 0 ≤ k0 ∧ k0 ≤ 4000000000000000000) :
    Calls Try.prog 45 #[.agg (cR M (tx, D)), .int .i64 k0] w fun e w' => ∃ k' : Int, e = .returned (.int .i64 k') ∧ (0 ≤ k' ∧ k' ≤ k0 + 2305845208238948352) ∧ Below w0.heap.size w w' ∧ (∀ k, k < w.heap.size → (k < lo ∨ hi ≤ k) → w'.heap[k]? = w.heap[k]?) := by
  refine (markRoot_call lo hi tx (.slice M.1 D.length M.2) D.length k0 w (shVo_of h (fun k hk => hk) hF) hF.len hk).mono ?_
  rintro e w' ⟨k', rfl, h1, h2, hm⟩
  have := hF.len
  exact ⟨k', rfl, ⟨by omega, by omega⟩, ⟨hm.os, hm.tape, hm.output, hm.size, fun k hk => hm.far k (by have := hB.size; omega) (by omega)⟩, fun k hk hf => hm.far k hk hf⟩
end Go.Proofs.Ytkoimmeghdbodaa.Hd
namespace Go.Proofs.Ytkoimmeghdbodaa.Print
open Go.RowKit Go.Lib Go.Sort Go.Proofs.YtkoimmeghdbodaaW.PrintWords Go.Proofs.YtkoimmeghdbodaaW.PrintLast Go.Proofs.YtkoimmeghdbodaaW.PrintMore Go.Proofs.Ytkoimmeghdbodaa.Pure
set_option linter.unusedVariables false
set_option linter.unusedSimpArgs false
def idxPl (x : S37) (l : List S37) : Int := if x ∈ l then ((l.findIdx (fun y => decide (y = x)) : Nat) : Int) else -1
theorem idxPl_ge (x : S37) (l : List S37) : decide (idxPl x l ≥ 0) = decide (x ∈ l) := by
  apply decide_eq_decide.2
  unfold idxPl
  by_cases h : x ∈ l
  · rw [if_pos h]; simp [h]
  · rw [if_neg h]; simp [h]
theorem idxPl_at {x : S37} {l : List S37} {i : Nat} (hi : i < l.length) (h : l.getD i z37 = x) (hn : ∀ j, j < i → l.getD j z37 ≠ x) : idxPl x l = (i : Int) := by
  have hm : x ∈ l := by rw [← h]; exact getD_mem hi
  unfold idxPl
  rw [if_pos hm]
  congr 1
  rw [List.findIdx_eq hi]
  refine ⟨?_, fun j hj => ?_⟩
  · rw [decide_eq_true_iff]
    simpa [List.getD, hi] using h
  · rw [decide_eq_false_iff_not]
    have := hn j hj
    simpa [List.getD, show j < l.length by omega] using this
theorem idxPl_no {x : S37} {l : List S37} (h : ∀ j, j < l.length → l.getD j z37 ≠ x) : idxPl x l = -1 := by
  unfold idxPl
  rw [if_neg]
  intro hm
  obtain ⟨j, hj, e⟩ := List.getElem_of_mem hm
  exact h j hj (by simpa [List.getD, hj] using e)
set_option maxHeartbeats 4000000 in
set_option maxRecDepth 100000 in
theorem index_call (x : S37) (A : Option Addr) (c : Nat) (l : List S37) (w : World) (hr : Kd.C k37 w A l.length l) (hl : l.length ≤ 1099511627776) :
    Calls Try.prog 136 #[.slice A l.length c, .agg #[.int .i64 x.f0, .int .i64 x.f1]] w fun e w' => e = .returned (.int .i64 (idxPl x l)) ∧ Below w.heap.size w w' := by
  have hu37 := Try.underlying37
  have mixed : Try.prog.follows Departure.mixedOrders = true := by kernel_rfl
  have HR := Az.mk hr
  have HL := Az.mk hl
  have HB0 := Az.mk (Below.refl w.heap.size w)
  have hbox : Below w.heap.size w (w.alloc (Obj.cells #[.int .i64 x.f0, .int .i64 x.f1] 37)) := (Below.refl w.heap.size w).alloc (Nat.le_refl _) _
  have HBX := Az.mk hbox
  have HBK := Az.mk (Blk.made w #[.int .i64 x.f0, .int .i64 x.f1] 37)
  clear hr hl hbox
  go_enter Try.func136, Try.ntmps136
  go_wp2
  go_loopg [8] l.length (fun kq v8 wr => ∃ (i : Nat), v8 = .int .i64 (i : Int) ∧ Az (i + kq = l.length) ∧ Az (∀ j, j < i → l.getD j z37 ≠ x) ∧ Az (Blk wr w.heap.size #[.int .i64 x.f0, .int .i64 x.f1] 37) ∧ Az (Below w.heap.size w wr))
  case atStart => exact ⟨0, rfl, ⟨Nat.zero_add _⟩, ⟨fun j hj => by omega⟩, HBK, HBX⟩
  case round =>
    obtain ⟨i, rfl, HI, HN, HK, HB⟩ := hrel
    by_cases e1 : i < l.length
    · have e1b : decide ((i : Int) < (l.length : Int)) = true := decide_eq_true (by omega)
      have p1 := eq_true (show (0 : Int) ≤ (i : Int) by omega)
      have q1 := eq_true (show (i : Int) < (l.length : Int) by omega)
      have HW1 : Az (wrap64 ((i : Int) + 1) = ((i + 1 : Nat) : Int)) := ⟨by rw [Pure.wrap_ok (by have := HL.out; omega)]; omega⟩
      have HD : Az (Below wr.heap.size wr wr.drew) := ⟨(Below.refl _ _).drew⟩
      have hcz_0 := (HK.out.cell 0).trans rfl
      have hcz_1 := (HK.out.cell 1).trans rfl
      obtain ⟨ad, eA, hy_0, hy_1⟩ := at_T37 (Kd.C_below HR.out HB.out) (i : Int) (by omega) (by omega)
      simp only [Int.toNat_natCast, rd_T37] at hy_0 hy_1
      subst eA
      obtain ⟨y, hY⟩ : ∃ y, y = l.getD i z37 := ⟨_, rfl⟩
      rw [← hY] at hy_0 hy_1
      have HY := Az.mk hY
      by_cases e : x = y
      · subst e
        have HX := Az.mk (idxPl_at e1 hY.symm HN.out)
        clear hY
        go_wp2_with fail
        go_region_o
        go_wp2
        go_ret
        exact ⟨by rw [HX.out]; rfl, HB.out.trans (HD.out.mono HB.out.size)⟩
      · have HNE : Az (y ≠ x) := ⟨fun h => e h.symm⟩
        clear hY
        by_cases e0 : x.f0 = y.f0
        · have e2 : ¬ x.f1 = y.f1 := fun h => e (by cases x; cases y; simp only at e0 h; rw [e0, h])
          rw [← e0] at hy_0
          clear e
          go_wp2_with fail
          go_region_o
          go_wp2
          go_roundg (l.length - (i + 1))
          case measure => have := HI.out; omega
          case rel => exact ⟨i + 1, by rw [← HW1.out], ⟨by have := HI.out; omega⟩, ⟨fun j hj => by
              by_cases e : j = i
              · rw [e, ← HY.out]; exact HNE.out
              · exact HN.out j (by omega)⟩, ⟨HK.out.below HD.out⟩, ⟨HB.out.trans (HD.out.mono HB.out.size)⟩⟩
        · clear e
          go_wp2_with fail
          go_region_o
          go_wp2
          go_roundg (l.length - (i + 1))
          case measure => have := HI.out; omega
          case rel => exact ⟨i + 1, by rw [← HW1.out], ⟨by have := HI.out; omega⟩, ⟨fun j hj => by
              by_cases e : j = i
              · rw [e, ← HY.out]; exact HNE.out
              · exact HN.out j (by omega)⟩, ⟨HK.out.below HD.out⟩, ⟨HB.out.trans (HD.out.mono HB.out.size)⟩⟩
    · have e1b : decide ((i : Int) < (l.length : Int)) = false := decide_eq_false (by omega)
      have HX := Az.mk (idxPl_no (x := x) (l := l) (fun j hj => HN.out j (by omega)))
      go_wp2
      go_ret
      exact ⟨by rw [HX.out]; rfl, HB.out⟩
set_option maxHeartbeats 4000000 in
set_option maxRecDepth 100000 in
theorem contains_call (x : S37) (A : Option Addr) (c : Nat) (l : List S37) (w : World) (hr : Kd.C k37 w A l.length l) (hl : l.length ≤ 1099511627776) :
    Calls Try.prog 116 #[.slice A l.length c, .agg #[.int .i64 x.f0, .int .i64 x.f1]] w fun e w' => e = .returned (.bool (decide (x ∈ l))) ∧ Below w.heap.size w w' := by
  have hu37 := Try.underlying37
  have hbox : Below w.heap.size w (w.alloc (Obj.cells #[.int .i64 x.f0, .int .i64 x.f1] 37)) := (Below.refl w.heap.size w).alloc (Nat.le_refl _) _
  have hcz_0 := ((Blk.made w #[.int .i64 x.f0, .int .i64 x.f1] 37).cell 0).trans rfl
  have hcz_1 := ((Blk.made w #[.int .i64 x.f0, .int .i64 x.f1] 37).cell 1).trans rfl
  have HC := Az.mk (index_call x A c l _ (Kd.C_below hr hbox) hl)
  have HBX := Az.mk hbox
  have HE := Az.mk (idxPl_ge x l)
  clear hr hl hbox
  go_enter Try.func116, Try.ntmps116
  go_wp2_with (first | (go_at_call 136; refine HC.out.mono ?_; rintro e w7 ⟨rfl, hb⟩; have HB := Az.mk hb; clear hb) | go_in)
  go_ret
  exact ⟨by rw [← HE.out]; rfl, HBX.out.trans (HB.out.mono HBX.out.size)⟩
end Go.Proofs.Ytkoimmeghdbodaa.Print
namespace Go.Proofs.Ytkoimmeghdbodaa.Print
open Go.RowKit Go.Lib Go.Maps Go.WideMaps Go.Proofs.YtkoimmeghdbodaaW.PrintWords Go.Proofs.YtkoimmeghdbodaaW.PrintLast Go.Proofs.YtkoimmeghdbodaaW.PrintMore Go.Proofs.Ytkoimmeghdbodaa.Pure
set_option linter.unusedVariables false
set_option linter.unusedSimpArgs false
theorem ilaw : Keyed Try.prog 3 := int_keyed Try.underlying3
def kI (d : Nat) : Lit := .int .i64 (d : Int)
theorem kI_key {d : Nat} (h : d < 1000) : keyOf Try.prog 3 (.int .i64 (d : Int)) = some (kI d) := keyOf_int_mk Try.underlying3 (WalkArith.wf_i64 (by omega))
theorem kI_ne {d e : Nat} (h : d ≠ e) : kI d ≠ kI e := by
  unfold kI
  intro h2
  injection h2 with _ h2
  omega
def zS : DataW Value := .held (.slice none 0 0)
theorem szero (w : World) : (zeroValue 27).run Try.prog w = .ok (.slice none 0 0) w := by kernel_rfl
theorem lookup_one {H : Type} {P : Program} {w : World} {ops : Array Oper} {rest : List Oper} {o : Oper} {a : Act} {Q : Exit → Act → World → Prop} (hg : o.guard = none) (m x : Operand) (t : TypeId) (hop : o.op = Op.lookup t m x false)
    (k e : TypeId) (K : Keyed P k) (ht : P.underlying t = some (.map k e)) (R : Value → Option (DataW H × List MemPlace)) {z : Value} (hz : (zeroValue e).run P w = .ok z w) (zd : DataW H) (zp : List MemPlace) (hzd : R z = some (zd, zp)) (b n : Nat) (D : DataW H)
    (hm : a.eval m = .map (some b)) (hown : w.ownsMap P k R b n D) (key : Value) (kl : Lit) (hx : a.eval x = key) (hkey : keyOf P k key = some kl) (V : Value)
    (hV : ∀ v ps, R v = some (D.atKey kl zd, ps) → v = V)
    (hK : wpList P ops Q rest (a.put o.dst V) w) : wpList P ops Q (o :: rest) a w := by
  refine wpList_plain hg fun K' hK' => ?_
  obtain ⟨v, ps, hrun, hv⟩ := hown.lookup K ht hz hzd hkey
  obtain rfl := hV v ps hv
  unfold Oper.wp
  simp [execOp, hop, hm, hx, hrun, Result.andThen]
  exact hK' _ _ hK
def upd {α : Type} (f : Nat → α) (d : Nat) (x : α) : Nat → α := fun e => if e = d then x else f e
structure Gm (w : World) (B b n : Nat) (D : DataW Value) (V : Nat → Value) (L : Nat → List S37) : Prop where
  own : w.ownsMap Try.prog 3 RE b n D
  at_ : ∀ d, d < 4 → D.atKey (kI d) zS = .held (V d)
  row : ∀ d, d < 4 → Kd.R k37 37 w B (fun k => some k = (V d).ownBlock) (V d) (L d)
  apart : ∀ d e, d < 4 → e < 4 → d ≠ e → ∀ k, (V d).ownBlock = some k → (V e).ownBlock ≠ some k
theorem Gm.ne {w : World} {B b n : Nat} {D : DataW Value} {V : Nat → Value} {L : Nat → List S37} (h : Gm w B b n D V L) {d : Nat} (hd : d < 4) : some b ≠ (V d).ownBlock := by
  intro e
  obtain ⟨cs, hc⟩ := Kd.R_typed (h.row d hd) b e.symm
  obtain ⟨es, cl, hm, _⟩ := h.own
  rw [hm] at hc
  simp at hc
theorem Gm.below {w w' : World} {B b n : Nat} {D : DataW Value} {V : Nat → Value} {L : Nat → List S37} (h : Gm w B b n D V L) (hb : Below w.heap.size w w') : Gm w' B b n D V L :=
  ⟨own_move h.own (hb.block b h.own.lt), h.at_, fun d hd => Kd.R_below (h.row d hd) hb, h.apart⟩
theorem Gm.step {w w1 w2 : World} {B b n : Nat} {D : DataW Value} {V : Nat → Value} {L : Nat → List S37} (h : Gm w B b n D V L) {d : Nat} (hd : d < 4) {v1 : Value} {l1 : List S37} {ok : Nat → Prop}
    (hR : Kd.R k37 37 w1 B ok v1 l1) (hg : w.grownBy w1 (V d).ownBlock) (hat : v1.ownBlock = (V d).ownBlock ∨ ∃ b, v1.ownBlock = some b ∧ w.heap.size ≤ b)
    (ho : w2.ownsMap Try.prog 3 RE b (n + 1) (D.put (kI d) (.held v1))) (hg2 : w1.grownBy w2 (some b)) (hB : B ≤ w.heap.size) : Gm w2 B b (n + 1) (D.put (kI d) (.held v1)) (upd V d v1) (upd L d l1) := by
  have hlt := fun e he k (hk : (V e).ownBlock = some k) => Kd.R_lt (h.row e he) k hk
  have hnb : ∀ e, e < 4 → e ≠ d → ∀ k, some k = (V e).ownBlock → k < w.heap.size → w2.heap[k]? = w.heap[k]? := by
    intro e he hne k hk hkl
    have h1 := hg.block k hkl (fun e2 => h.apart e d he hd hne k hk.symm e2.symm)
    have h2 := hg2.block k (Nat.lt_of_lt_of_le hkl hg.size) (fun e2 => h.ne he (by rw [← hk]; exact e2.symm))
    exact h2.trans h1
  have hv1 : some b ≠ v1.ownBlock := by
    rcases hat with e | ⟨g, e, hge⟩
    · rw [e]; exact h.ne hd
    · rw [e]
      intro e2
      injection e2 with e2
      have := h.own.lt
      omega
  refine ⟨ho, fun e he => ?_, fun e he => ?_, fun e f he hf hne k hk => ?_⟩
  · unfold upd
    by_cases c : e = d
    · rw [if_pos c, c, Maps.atKey_put_same (h.own.isMap) (by exact trivial)]
    · rw [if_neg c, Maps.atKey_put_other (kI_ne c), h.at_ e he]
  · unfold upd
    by_cases c : e = d
    · rw [if_pos c, if_pos c]
      refine Kd.R_step (Kd.R_tight (rfl : k37.E = []) hR) (fun k hk hkl => hg2.block k hkl (fun e2 => hv1 (by rw [← hk]; exact e2.symm)))
    · rw [if_neg c, if_neg c]
      exact Kd.R_step (h.row e he) (fun k hk hkl => hnb e he c k hk hkl)
  · unfold upd at hk ⊢
    by_cases c : e = d
    · rw [if_pos c] at hk
      have c2 : f ≠ d := fun e2 => hne (c.trans e2.symm)
      rw [if_neg c2]
      rcases hat with e2 | ⟨g, e2, hge⟩
      · rw [e2, ← c] at hk
        exact h.apart e f he hf hne k hk
      · rw [e2] at hk
        injection hk with hk
        intro hk2
        have := hlt f hf k hk2
        omega
    · rw [if_neg c] at hk
      by_cases c2 : f = d
      · rw [if_pos c2]
        rcases hat with e2 | ⟨g, e2, hge⟩
        · rw [e2, ← c2]
          exact h.apart e f he hf hne k hk
        · rw [e2]
          intro hk2
          injection hk2 with hk2
          have := hlt e he k hk
          omega
      · rw [if_neg c2]
        exact h.apart e f he hf hne k hk
theorem Gm.made (w : World) : Gm (w.alloc (Obj.map #[] 0)) w.heap.size w.heap.size 0 (.map []) (fun _ => .slice none 0 0) (fun _ => []) :=
  ⟨World.ownsMap_made _ _ _ _, fun d hd => by rfl, fun d hd => Kd.R_nil _ _ _ _ _, fun d e _ _ _ k hk => by simp [Value.ownBlock] at hk⟩
def freeP (U : List S37) (d s : Nat) : List S37 := ((List.range s).map fun t => (⟨(d : Int), ((t : Nat) : Int)⟩ : S37)).filter fun x => !decide (x ∈ U)
def Lst (U : List S37) (d s : Nat) : Nat → List S37 := fun e => if e < d then freeP U e 12 else if e = d then freeP U d s else []
theorem freeP_succ (U : List S37) (d s : Nat) : freeP U d (s + 1) = freeP U d s ++ if (⟨(d : Int), (s : Int)⟩ : S37) ∈ U then [] else [(⟨(d : Int), (s : Int)⟩ : S37)] := by
  unfold freeP
  rw [List.range_succ, List.map_append, List.filter_append]
  congr 1
  by_cases h : (⟨(d : Int), (s : Int)⟩ : S37) ∈ U
  · rw [if_pos h]
    simp [h]
  · rw [if_neg h]
    simp [h]
theorem freeP_len (U : List S37) (d s : Nat) : (freeP U d s).length ≤ s := by
  unfold freeP
  exact Nat.le_trans (List.length_filter_le _ _) (by simp)
theorem Lst_next (U : List S37) (d : Nat) : Lst U d 12 = Lst U (d + 1) 0 := by
  funext e
  unfold Lst
  by_cases h1 : e < d
  · rw [if_pos h1, if_pos (by omega)]
  · rw [if_neg h1]
    by_cases h2 : e = d
    · subst h2
      rw [if_pos rfl, if_pos (by omega)]
    · rw [if_neg h2, if_neg (by omega)]
      by_cases h3 : e = d + 1
      · rw [if_pos h3]; simp [freeP]
      · rw [if_neg h3]
theorem Lst_zero (U : List S37) : Lst U 0 0 = fun _ => [] := by
  funext e
  unfold Lst
  rw [if_neg (by omega)]
  by_cases h : e = 0
  · rw [if_pos h]; simp [freeP]
  · rw [if_neg h]
theorem Lst_same (U : List S37) {d s : Nat} (h : (⟨(d : Int), (s : Int)⟩ : S37) ∈ U) : Lst U d (s + 1) = Lst U d s := by
  funext e
  unfold Lst
  rw [freeP_succ U d s, if_pos h, List.append_nil]
theorem Lst_upd (U : List S37) {d s : Nat} (h : (⟨(d : Int), (s : Int)⟩ : S37) ∉ U) : Lst U d (s + 1) = upd (Lst U d s) d (Lst U d s d ++ [(⟨(d : Int), (s : Int)⟩ : S37)]) := by
  funext e
  unfold Lst upd
  rw [freeP_succ U d s, if_neg h]
  by_cases c : e = d
  · subst c
    simp
  · simp only [if_neg c]
theorem sizeF57 : (Try.prog.info? 57).map (·.size) = some 2 := by kernel_rfl
theorem runLd {w : World} {g : Nat} {cs : Array Value} {t : TypeId} {a : Act} {o : Oper} {x : Operand} (h : Blk w g cs t) (hs : cs.size = 2) (ho : o.op = .load 57 x) (hx : a.eval x = .pointer (some ⟨g, 0, none⟩)) :
    (execOp a.eval o).run Try.prog w = .ok (.value (.agg cs)) w := by
  unfold execOp
  simp only [ho, hx, Instr.loadAt, Instr.sureAddr, Sem.run_bind, Sem.run_pure, Result.andThen_ok, run_loadVar_row w g t 57 cs (0, 0) _ h Try.underlying57 rfl (by rw [hs]; exact sizeF57)]
set_option maxHeartbeats 16000000 in
set_option maxRecDepth 100000 in
theorem free_call (nn : Nat) (txa txb : Int) (Aa Ab : Option Addr) (ca cb : Nat) (la lb : List S65) (w : World) (hn4 : nn ≤ 4)
    (hra : Kd.C k65 w Aa la.length la) (hca : la.length ≤ ca) (hsa : ∀ x ∈ la, ∀ y ∈ x.f1, y.f2.length ≤ 1048576)
    (hrb : Kd.C k65 w Ab lb.length lb) (hcb : lb.length ≤ cb) (hsb : ∀ x ∈ lb, ∀ y ∈ x.f1, y.f2.length ≤ 1048576) (n : Int) (hnn : n = (nn : Int)) (hln : (rootPl n txa la).length + (rootPl n txb lb).length ≤ 1000) :
    Calls Try.prog 90 #[.int .i64 n, .agg #[.int .i64 txa, .slice Aa la.length ca], .agg #[.int .i64 txb, .slice Ab lb.length cb]] w fun e w' => ∃ (b m : Nat) (D : DataW Value) (V : Nat → Value), e = .returned (.map (some b)) ∧ w.heap.size ≤ b ∧ Gm w' w.heap.size b m D V (Lst (rootPl n txa la ++ rootPl n txb lb) nn 0) ∧ Below w.heap.size w w' := by
  have hs57 : (Try.prog.info? 57).map (·.size) = some 2 := by kernel_rfl
  have hu37 := Try.underlying37
  have hu57 := Try.underlying57
  have hmm := @run_makeMap Try.prog
  have HNN := Az.mk hnn
  have HLN := Az.mk hln
  have HN4 := Az.mk hn4
  have HRPa := Az.mk (fun (W : World) (hb : Below w.heap.size w W) => rootPlaces_call n txa Aa ca la W (Kd.C_below hra hb) hca hsa)
  have HRPb := Az.mk (fun (W : World) (hb : Below w.heap.size w W) => rootPlaces_call n txb Ab cb lb W (Kd.C_below hrb hb) hcb hsb)
  have b1 : Blk (w.alloc (.cells #[.int .i64 txa, .slice Aa la.length ca] 57)) w.heap.size #[.int .i64 txa, .slice Aa la.length ca] 57 := Blk.made _ _ _
  have b2 := Blk.made (w.alloc (.cells #[.int .i64 txa, .slice Aa la.length ca] 57)) #[.int .i64 txb, .slice Ab lb.length cb] 57
  rw [World.size_alloc] at b2
  have b1 := b1.alloc (.cells #[.int .i64 txb, .slice Ab lb.length cb] 57)
  have hS := And.intro b1 b2
  have hB0 : Below w.heap.size w ((w.alloc (.cells #[.int .i64 txa, .slice Aa la.length ca] 57)).alloc (.cells #[.int .i64 txb, .slice Ab lb.length cb] 57)).drew := by
    have h1 : Below w.heap.size w (w.alloc (.cells #[.int .i64 txa, .slice Aa la.length ca] 57)) := (Below.refl w.heap.size w).alloc (Nat.le_refl _) _
    exact (h1.alloc (by simp) _).drew
  have HB := Az.mk hB0
  clear hnn b1 b2 hB0 hra hrb hca hcb hsa hsb hln
  obtain ⟨U, hU⟩ : ∃ U, U = rootPl n txa la ++ rootPl n txb lb := ⟨_, rfl⟩
  rw [← hU]
  have HU := Az.mk hU
  clear hU
  go_enter Try.func90, Try.ntmps90
  go_wp2_with fail
  generalize ((w.alloc (.cells #[.int .i64 txa, .slice Aa la.length ca] 57)).alloc (.cells #[.int .i64 txb, .slice Ab lb.length cb] 57)) = w1 at hS HB ⊢
  refine start_ (n := 8) (S := fun w' => Blk w' w.heap.size #[.int .i64 txa, .slice Aa la.length ca] 57 ∧ Blk w' (w.heap.size + 1) #[.int .i64 txb, .slice Ab lb.length cb] 57) (ds := []) (bm 8 0) (by kernel_rfl) rfl rfl (hS) (fun hHeld => ?_)
  generalize w1.drew = w2 at HB hHeld ⊢
  refine zqp (i := 0) (N := some 12) (v := ?_) (a' := ?_) (bm 8 1) rfl rfl (by kernel_rfl) (fun _ _ _ h => h) (Or.inl ⟨by rfl, ?_⟩) ?_ ?_
  rotate_left
  · intro w'
    go_simp
    with_reducible rfl
  rotate_left
  · simp only [Act.put, zs1, zs2, zs3, i64_w, i32_w]
    rfl
  refine zqp (i := 3) (N := some 15) (v := ?_) (a' := ?_) (bm 8 9) rfl rfl (by kernel_rfl) (fun _ _ _ h => h) (Or.inl ⟨by rfl, ?_⟩) ?_ ?_
  rotate_left
  · intro w'
    go_simp
    with_reducible rfl
  rotate_left
  · simp only [Act.put, zs1, zs2, zs3, i64_w, i32_w]
    rfl
  refine zqt (i := 1) (N := some 13) (v := .agg #[.int .i64 txa, .slice Aa la.length ca]) (a' := ?_) (bm 8 11) rfl rfl (by kernel_rfl) (fun _ _ _ h => h) (Or.inl ⟨by rfl, fun w' s0 => runLd s0.1 rfl rfl rfl⟩) hHeld ?_ ?_
  rotate_left
  · simp only [Act.put, zs1, zs2, zs3, i64_w, i32_w]
    rfl
  refine zqt (i := 4) (N := some 16) (v := .agg #[.int .i64 txb, .slice Ab lb.length cb]) (a' := ?_) (bm 8 27) rfl rfl (by kernel_rfl) (fun _ _ _ h => h) (Or.inl ⟨by rfl, fun w' s0 => runLd s0.2 rfl rfl rfl⟩) hHeld ?_ ?_
  rotate_left
  · simp only [Act.put, zs1, zs2, zs3, i64_w, i32_w]
    rfl
  refine one_ (i := 2) (N := some 14) (bm 8 31) rfl rfl (by kernel_rfl) (by decide) (fun K hK => ?_)
  refine goes_ Try.func41 (by kernel_rfl) rfl #[.int .i64 n, .agg #[.int .i64 txa, .slice Aa la.length ca]] (by rfl) rfl rfl (by (try simp only [List.map_toArray, List.map_cons, List.map_nil]); first | done | rfl) ?_
  refine (HRPa.out _ HB.out).mono ?_
  rintro e w14 ⟨v14, rfl, hR14, hb⟩
  refine ⟨_, rfl, ?_⟩
  have hb9 := hb
  have R14 := Az.mk (Kd.R_tight (rfl : k37.E = []) (Kd.R_lower hR14 HB.out.size))
  have HB2 := Az.mk (HB.out.trans (hb.mono HB.out.size))
  clear HB hR14 hb
  have HB := HB2
  clear HB2
  refine hK.out _ _ ⟨hHeld.1.below hb9, hHeld.2.below hb9⟩ (fun hHeld => ?_)
  clear hK K
  refine norm_ (a' := ?_) ?_ ?_
  rotate_left
  · show Act.put _ (some 14) _ = _
    simp only [Act.put, zs1, zs2, zs3, i64_w, i32_w]
    rfl
  refine one_ (i := 5) (N := some 17) (bm 8 63) rfl rfl (by kernel_rfl) (by decide) (fun K hK => ?_)
  refine goes_ Try.func41 (by kernel_rfl) rfl #[.int .i64 n, .agg #[.int .i64 txb, .slice Ab lb.length cb]] (by rfl) rfl rfl (by (try simp only [List.map_toArray, List.map_cons, List.map_nil]); first | done | rfl) ?_
  refine (HRPb.out _ HB.out).mono ?_
  rintro e w17 ⟨v17, rfl, hR17, hb⟩
  refine ⟨_, rfl, ?_⟩
  have hb9 := hb
  have R17 := Az.mk (Kd.R_reads hR17)
  have R14b := Az.mk (Kd.R_below R14.out hb)
  have HB2 := Az.mk (HB.out.trans (hb.mono HB.out.size))
  clear HB hR17 hb R14
  have HB := HB2
  clear HB2
  refine hK.out _ _ ⟨hHeld.1.below hb9, hHeld.2.below hb9⟩ (fun hHeld => ?_)
  obtain ⟨A17, c17, rfl, hl17, hC17⟩ := R17.out
  have HC17 := Az.mk hC17
  clear R17 hl17 hC17
  clear hK K
  refine norm_ (a' := ?_) ?_ ?_
  rotate_left
  · show Act.put _ (some 17) _ = _
    simp only [Act.put, zs1, zs2, zs3, i64_w, i32_w]
    rfl
  refine one_ (i := 6) (N := some 18) (bm 8 127) rfl rfl (by kernel_rfl) (by decide) (fun K hK => ?_)
  refine Kd.R_append_rows_step k37 (Rr := k37.K w17) (w0 := w) w.heap.size (by rfl) (.tmp 14) (.tmp 17) 27 37 (.agg #[.int .i64 0, .int .i64 0]) 16 rfl Try.underlying27 info37 rfl (by decide) (by omega) v14 (rootPl n txa la) (rootPl n txb lb) A17 (rootPl n txb lb).length c17 (fun _ => True) (fun k => some k ≠ v14.ownBlock) rfl rfl (Kd.R_mono R14b.out (fun _ _ => trivial)) HC17.out (fun x cs h => by rw [k37_open h]; exact k37_mkM _ _ _ x) (fun k hk => ⟨trivial, hk⟩) (fun _ _ => trivial) HB.out HB.out.size (by have := HLN.out; omega) ?_
  intro v18 w18 hR18 hB18 hg18 hat18
  have R18 := Az.mk (Kd.R_reads hR18)
  have hne : ∀ (k : Nat) (cs : Array Value), w17.heap[k]? = some (Obj.cells cs 57 (0, 0)) → some k ≠ v14.ownBlock := fun k cs h e => by obtain ⟨c2, h2⟩ := Kd.R_typed R14b.out k e.symm; rw [h] at h2; simp at h2
  have HB2 := Az.mk hB18
  clear HB hB18 hR18
  have HB := HB2
  clear HB2
  refine hK.out _ _ (⟨blk_grown hHeld.1 hg18 (hne _ _ hHeld.1), blk_grown hHeld.2 hg18 (hne _ _ hHeld.2)⟩) (fun hHeld => ?_)
  clear hg18 hat18 hne
  clear hK K
  refine norm_ (a' := ?_) ?_ ?_
  rotate_left
  · show Act.put _ (some 18) _ = _
    simp only [Act.put, zs1, zs2, zs3, i64_w, i32_w]
    rfl
  refine zqp (i := 7) (N := some 7) (v := ?_) (a' := ?_) (bm 8 255) rfl rfl (by kernel_rfl) (fun _ _ _ h => h) (Or.inl ⟨by rfl, ?_⟩) ?_ ?_
  rotate_left
  · intro w'
    go_simp
    with_reducible rfl
  rotate_left
  · simp only [Act.put, zs1, zs2, zs3, i64_w, i32_w]
    rfl
  refine done_ (by kernel_rfl) ?_
  clear hHeld
  obtain ⟨A18, c18, rfl, hl18, hC18⟩ := R18.out
  have hlu : (rootPl n txa la ++ rootPl n txb lb).length ≤ 1000 := by rw [List.length_append]; exact HLN.out
  rw [← HU.out] at hC18 hlu ⊢
  have HC18 := Az.mk hC18
  have HLU := Az.mk hlu
  have HBW := Az.mk HB.out
  have HM0 := Az.mk (Gm.made w18)
  have HS0 : Az (Below w18.heap.size w18 (w18.alloc (Obj.map #[] 0))) := ⟨(Below.refl _ _).alloc (Nat.le_refl _) _⟩
  clear R18 hl18 hC18 hlu HB R14b HC17 HLN HRPa HRPb
  go_wp2
  go_loopg [21] nn (fun kq v21 wr => ∃ (d m : Nat) (D : DataW Value) (V : Nat → Value), v21 = .int .i64 (d : Int) ∧ Az (d + kq = nn) ∧ Az (m ≤ 12 * d) ∧ Az (Gm wr w18.heap.size w18.heap.size m D V (Lst U d 0)) ∧ Az (Below w18.heap.size w18 wr))
  case atStart => exact ⟨0, 0, _, _, rfl, ⟨Nat.zero_add _⟩, ⟨Nat.le_refl _⟩, ⟨by rw [Lst_zero]; exact HM0.out⟩, HS0⟩
  case round =>
    obtain ⟨d, m0, D0, V0, rfl, HI, HM, HG0, HB0⟩ := hrel
    by_cases e1 : d < nn
    · have e1b : decide ((d : Int) < n) = true := decide_eq_true (by rw [HNN.out]; omega)
      have HD4 : Az (d < 4) := ⟨by have := HN4.out; omega⟩
      have HDN := Az.mk e1
      have HWd : Az (wrap64 ((d : Int) + 1) = ((d + 1 : Nat) : Int)) := ⟨by rw [Pure.wrap_ok (by omega)]; omega⟩
      obtain ⟨wo, hwo⟩ : ∃ wo, wo = wr := ⟨_, rfl⟩
      subst hwo
      obtain ⟨go, hgo⟩ : ∃ go, go = gk := ⟨_, rfl⟩
      subst hgo
      clear e1
      go_wp2
      go_loopg [24] 12 (fun kq v24 wr => ∃ (s m : Nat) (D : DataW Value) (V : Nat → Value), v24 = .int .i64 (s : Int) ∧ Az (s + kq = 12) ∧ Az (m ≤ 12 * d + s) ∧ Az (Gm wr w18.heap.size w18.heap.size m D V (Lst U d s)) ∧ Az (Below w18.heap.size w18 wr))
      case atStart => exact ⟨0, m0, D0, V0, rfl, ⟨Nat.zero_add _⟩, ⟨HM.out⟩, HG0, HB0⟩
      case round =>
        obtain ⟨s, m, D, V, rfl, HJ, HM1, HG, HB⟩ := hrel
        by_cases e2 : s < 12
        · have e2b : decide ((s : Int) < 12) = true := decide_eq_true (by omega)
          have HWs : Az (wrap64 ((s : Int) + 1) = ((s + 1 : Nat) : Int)) := ⟨by rw [Pure.wrap_ok (by omega)]; omega⟩
          have HE2 := Az.mk e2
          have hb1 : Below wr.heap.size wr (wr.alloc (Obj.cells #[.int .i64 (d : Int), .int .i64 (s : Int)] 37)) := (Below.refl _ _).alloc (Nat.le_refl _) _
          have HG1 := Az.mk (HG.out.below hb1)
          have HB1 := Az.mk (HB.out.trans (hb1.mono HB.out.size))
          have B1 := Az.mk (Blk.made wr #[.int .i64 (d : Int), .int .i64 (s : Int)] 37)
          have HCT := Az.mk (fun W (hb : Below w18.heap.size w18 W) => contains_call (⟨(d : Int), (s : Int)⟩ : S37) A18 c18 U W (Kd.C_below HC18.out hb) (by have := HLU.out; omega))
          have HKY := Az.mk (kI_key (d := d) (by have := HD4.out; omega))
          have HNL : Az (m < maxLen) := ⟨by have := HM1.out; have := HD4.out; unfold maxLen; omega⟩
          have HLL : Az ((Lst U d s d).length ≤ 12) := ⟨by
            unfold Lst
            rw [if_neg (by omega), if_pos rfl]
            exact Nat.le_trans (freeP_len U d s) (by omega)⟩
          clear hb1 HG HB e2
          by_cases hm : (⟨(d : Int), (s : Int)⟩ : S37) ∈ U
          · rw [decide_eq_true hm] at HCT
            have HL := Az.mk (Lst_same U hm)
            clear hm
            go_wp2_with (first | (go_at_call 116; refine (HCT.out _ HB1.out).mono ?_; rintro e w32 ⟨rfl, hb⟩; have HG2 := Az.mk (HG1.out.below hb); have HB2 := Az.mk (HB1.out.trans (hb.mono HB1.out.size)); have B11 := Az.mk (B1.out.below hb); have hc11_0 := (B11.out.cell 0).trans rfl; have hc11_1 := (B11.out.cell 1).trans rfl; clear hb) | go_in)
            go_roundg (12 - (s + 1))
            case measure => have := HJ.out; have := HE2.out; omega
            case rel => exact ⟨s + 1, m, D, V, by rw [← HWs.out], ⟨by have := HE2.out; omega⟩, ⟨by have := HM1.out; omega⟩, ⟨by rw [HL.out]; exact HG2.out⟩, HB2⟩
          · rw [decide_eq_false hm] at HCT
            have HL := Az.mk (Lst_upd U hm)
            clear hm
            go_wp2_with (first | (go_at_call 116; refine (HCT.out _ HB1.out).mono ?_; rintro e w32 ⟨rfl, hb⟩; have HG2 := Az.mk (HG1.out.below hb); have HB2 := Az.mk (HB1.out.trans (hb.mono HB1.out.size)); have B11 := Az.mk (B1.out.below hb); have hc11_0 := (B11.out.cell 0).trans rfl; have hc11_1 := (B11.out.cell 1).trans rfl; clear hb) | (at_lookup; refine lookup_one rfl _ _ 108 rfl 3 27 ilaw Try.underlying108 RE (szero _) zS [] rfl w18.heap.size m D rfl HG2.out.own (.int .i64 (d : Int)) (kI d) rfl HKY.out (V d) (fun v qs h => re_inv h (HG2.out.at_ d HD4.out)) ?_) | ((with_reducible refine zqg (N := 41) rfl ?_); refine Kd.R_append k37 (w0 := w18) w18.heap.size rfl (.tmp 38) (.tmp 40) 27 37 (.agg #[.int .i64 0, .int .i64 0]) 16 rfl Try.underlying27 info37 rfl (by decide) (by omega) (V d) (Lst U d s d) (⟨(d : Int), (s : Int)⟩ : S37) [.int .i64 (d : Int), .int .i64 (s : Int)] (fun _ => True) (fun _ => False) rfl rfl (k37_mkM _ _ _ (⟨(d : Int), (s : Int)⟩ : S37)) (fun _ hk => hk.elim) (fun _ _ => trivial) (Kd.R_mono (HG2.out.row d HD4.out) (fun _ _ => trivial)) HB2.out HB2.out.size (by have := HLL.out; omega) ?_; intro v1 w1 hR1 hB1 hg1 hat1; have R1 := Az.mk hR1; have B1w := Az.mk hB1; have G1 := Az.mk hg1; have AT1 := Az.mk hat1; clear hR1 hB1 hg1 hat1) | (at_mapUpdate; refine wpList_mapUpdate_own _ rfl _ _ _ 108 rfl 3 27 ilaw Try.underlying108 RE w18.heap.size m D rfl (HG2.out.own.kept G1.out (HG2.out.ne HD4.out)) HNL.out (.int .i64 (d : Int)) v1 (kI d) rfl rfl HKY.out (.held v1) [] rfl ?_; intro w2 hown2 hgrow2; have O2 := Az.mk hown2; have G2 := Az.mk hgrow2; clear hown2 hgrow2) | go_in)
            have HGN := Az.mk (HG2.out.step HD4.out R1.out G1.out AT1.out O2.out G2.out HB2.out.size)
            have HBN : Az (Below w18.heap.size w18 w2) := ⟨B1w.out.grown G2.out B1w.out.size (fun k hk => by cases hk; exact Nat.le_refl _)⟩
            clear R1 B1w G1 AT1 O2 G2 hc11_0 hc11_1
            go_wp2
            go_roundg (12 - (s + 1))
            case measure => have := HJ.out; have := HE2.out; omega
            case rel => exact ⟨s + 1, m + 1, _, _, by rw [← HWs.out], ⟨by have := HE2.out; omega⟩, ⟨by have := HM1.out; omega⟩, ⟨by rw [HL.out]; exact HGN.out⟩, HBN⟩
        · have e2b : decide ((s : Int) < 12) = false := decide_eq_false (by omega)
          have hs : s = 12 := by have := HJ.out; omega
          subst hs
          go_wp2
          go_roundg (nn - (d + 1))
          case measure => have := HI.out; have := HDN.out; omega
          case rel => exact ⟨d + 1, m, D, V, by rw [← HWd.out], ⟨by have := HI.out; have := HDN.out; omega⟩, ⟨by have := HM1.out; omega⟩, ⟨by rw [← Lst_next]; exact HG.out⟩, HB⟩
    · have e1b : decide ((d : Int) < n) = false := decide_eq_false (by rw [HNN.out]; omega)
      have hd : d = nn := by have := HI.out; omega
      subst hd
      go_wp2
      go_ret
      exact ⟨w18.heap.size, m0, D0, V0, rfl, HBW.out.size, ⟨HG0.out.own, HG0.out.at_, fun e he => Kd.R_lower (HG0.out.row e he) HBW.out.size, HG0.out.apart⟩, HBW.out.trans (HB0.out.mono HBW.out.size)⟩
end Go.Proofs.Ytkoimmeghdbodaa.Print
namespace Go.Proofs.Ytkoimmeghdbodaa.Print
open Go.RowKit Go.Lib Go.Maps Go.WideMaps Go.Proofs.YtkoimmeghdbodaaW.PrintWords Go.Proofs.YtkoimmeghdbodaaW.PrintLast Go.Proofs.YtkoimmeghdbodaaW.PrintMore Go.Proofs.Ytkoimmeghdbodaa.Pure
set_option linter.unusedVariables false
set_option linter.unusedSimpArgs false
def flatF (U : List S37) (d : Nat) : List S37 := (List.range d).flatMap fun e => freeP U e 12
theorem flatF_succ (U : List S37) (d : Nat) : flatF U (d + 1) = flatF U d ++ freeP U d 12 := by
  simp only [flatF, List.range_succ, List.flatMap_append, List.flatMap_cons, List.flatMap_nil, List.append_nil]
theorem flatF_len (U : List S37) (d : Nat) : (flatF U d).length ≤ 12 * d := by
  induction d with
  | zero => simp [flatF]
  | succ d ih =>
    rw [flatF_succ, List.length_append]
    have := freeP_len U d 12
    omega
theorem Lst_done (U : List S37) {d nn : Nat} (h : d < nn) : Lst U nn 0 d = freeP U d 12 := by
  unfold Lst
  rw [if_pos h]
theorem rootPl_small {n tx : Int} {vs : List S65} (h : rootB n tx vs = true) : (rootPl n tx vs).length ≤ 48 ∧ 3 ≤ n ∧ n ≤ 4 := by
  rw [rootPl_grid n tx vs h]
  have := gridF_len (ptrs vs) (12 * n).toNat
  unfold rootB at h
  simp only [Bool.and_eq_true, decide_eq_true_iff] at h
  omega
def spaceI (n txa txb : Int) (la lb : List S65) : List S37 := if (rootB n txa la && rootB n txb lb) = true then flatF (rootPl n txa la ++ rootPl n txb lb) n.toNat else []
set_option maxHeartbeats 16000000 in
set_option maxRecDepth 100000 in
theorem spaceFree_call (n txa txb : Int) (Aa Ab : Option Addr) (ca cb : Nat) (la lb : List S65) (w : World)
    (hra : Kd.C k65 w Aa la.length la) (hca : la.length ≤ ca) (hsa : ∀ x ∈ la, ∀ y ∈ x.f1, y.f2.length ≤ 1048576)
    (hrb : Kd.C k65 w Ab lb.length lb) (hcb : lb.length ≤ cb) (hsb : ∀ x ∈ lb, ∀ y ∈ x.f1, y.f2.length ≤ 1048576) :
    Calls Try.prog 48 #[.int .i64 n, .agg #[.int .i64 txa, .slice Aa la.length ca], .agg #[.int .i64 txb, .slice Ab lb.length cb]] w fun e w' => ∃ v, e = .returned v ∧ Kd.R k37 37 w' w.heap.size (fun _ => True) v (spaceI n txa txb la lb) ∧ Below w.heap.size w w' := by
  have hu37 := Try.underlying37
  have hu57 := Try.underlying57
  have small : ∀ (tx : Int) (l : List S65), (∀ x ∈ l, ∀ y ∈ x.f1, y.f2.length ≤ 1048576) → impl_RootOk.f n tx l = some (rootB n tx l) := fun tx l h => by
    unfold impl_RootOk.f
    rw [if_pos]
    exact List.all_eq_true.2 fun x hx => List.all_eq_true.2 fun y hy => decide_eq_true (h x hx y hy)
  have HROa := Az.mk (fun (W : World) (hb : Below w.heap.size w W) => impl_RootOk.calls n txa Aa ca la (rootB n txa la) W (Kd.C_below hra hb) hca (small txa la hsa))
  have HROb := Az.mk (fun (W : World) (hb : Below w.heap.size w W) => impl_RootOk.calls n txb Ab cb lb (rootB n txb lb) W (Kd.C_below hrb hb) hcb (small txb lb hsb))
  have b1 : Blk (w.alloc (.cells #[.int .i64 txa, .slice Aa la.length ca] 57)) w.heap.size #[.int .i64 txa, .slice Aa la.length ca] 57 := Blk.made _ _ _
  have b2 := Blk.made (w.alloc (.cells #[.int .i64 txa, .slice Aa la.length ca] 57)) #[.int .i64 txb, .slice Ab lb.length cb] 57
  rw [World.size_alloc] at b2
  have b1 := b1.alloc (.cells #[.int .i64 txb, .slice Ab lb.length cb] 57)
  have hB0 : Below w.heap.size w ((w.alloc (.cells #[.int .i64 txa, .slice Aa la.length ca] 57)).alloc (.cells #[.int .i64 txb, .slice Ab lb.length cb] 57)) := by
    have h1 : Below w.heap.size w (w.alloc (.cells #[.int .i64 txa, .slice Aa la.length ca] 57)) := (Below.refl w.heap.size w).alloc (Nat.le_refl _) _
    exact h1.alloc (by simp) _
  have BA := Az.mk b1
  have BB := Az.mk b2
  have HB := Az.mk hB0
  have hca_0 := (BA.out.cell 0).trans rfl
  have hca_1 := (BA.out.cell 1).trans rfl
  have hcb_0 := (BB.out.cell 0).trans rfl
  have hcb_1 := (BB.out.cell 1).trans rfl
  have tk0 : True := trivial
  clear b1 b2 hB0 small
  have hsp : spaceI n txa txb la lb = if (rootB n txa la && rootB n txb lb) = true then flatF (rootPl n txa la ++ rootPl n txb lb) n.toNat else [] := rfl
  generalize spaceI n txa txb la lb = res at hsp ⊢
  cases ea : rootB n txa la with
  | false =>
    rw [ea] at HROa hsp
    have HE : Az (res = []) := ⟨by rw [hsp]; rfl⟩
    clear hra hrb hca hcb hsa hsb hsp ea
    go_enter Try.func48, Try.ntmps48
    go_wp2_with (first | (go_at_call 38; have _tk := tk0; refine (HROa.out _ HB.out).mono ?_; rintro e w12 ⟨rfl, hb⟩; have BA2 := Az.mk (BA.out.below hb); have BB2 := Az.mk (BB.out.below hb); have HB2 := Az.mk (HB.out.trans (hb.mono HB.out.size)); clear BA BB HB hca_0 hca_1 hcb_0 hcb_1; have BA := BA2; have BB := BB2; have HB := HB2; clear BA2 BB2 HB2; have hca_0 := (BA.out.cell 0).trans rfl; have hca_1 := (BA.out.cell 1).trans rfl; have hcb_0 := (BB.out.cell 0).trans rfl; have hcb_1 := (BB.out.cell 1).trans rfl; clear hb; clear tk0 _tk; have tk1 : True := trivial) | go_in)
    go_ret
    exact ⟨_, rfl, by rw [HE.out]; exact Kd.R_nil _ _ _ _ _, HB.out⟩
  | true =>
    rw [ea] at HROa hsp
    cases eb : rootB n txb lb with
    | false =>
      rw [eb] at HROb hsp
      have HE : Az (res = []) := ⟨by rw [hsp]; rfl⟩
      clear hra hrb hca hcb hsa hsb hsp ea eb
      go_enter Try.func48, Try.ntmps48
      go_wp2_with (first | (go_at_call 38; have _tk := tk0; refine (HROa.out _ HB.out).mono ?_; rintro e w12 ⟨rfl, hb⟩; have BA2 := Az.mk (BA.out.below hb); have BB2 := Az.mk (BB.out.below hb); have HB2 := Az.mk (HB.out.trans (hb.mono HB.out.size)); clear BA BB HB hca_0 hca_1 hcb_0 hcb_1; have BA := BA2; have BB := BB2; have HB := HB2; clear BA2 BB2 HB2; have hca_0 := (BA.out.cell 0).trans rfl; have hca_1 := (BA.out.cell 1).trans rfl; have hcb_0 := (BB.out.cell 0).trans rfl; have hcb_1 := (BB.out.cell 1).trans rfl; clear hb; clear tk0 _tk; have tk1 : True := trivial) | (go_at_call 38; have _tk := tk1; refine (HROb.out _ HB.out).mono ?_; rintro e w17 ⟨rfl, hb⟩; have BA2 := Az.mk (BA.out.below hb); have BB2 := Az.mk (BB.out.below hb); have HB2 := Az.mk (HB.out.trans (hb.mono HB.out.size)); clear BA BB HB hca_0 hca_1 hcb_0 hcb_1; have BA := BA2; have BB := BB2; have HB := HB2; clear BA2 BB2 HB2; have hca_0 := (BA.out.cell 0).trans rfl; have hca_1 := (BA.out.cell 1).trans rfl; have hcb_0 := (BB.out.cell 0).trans rfl; have hcb_1 := (BB.out.cell 1).trans rfl; clear hb; clear tk1 _tk; have tk2 : True := trivial) | go_in)
      go_ret
      exact ⟨_, rfl, by rw [HE.out]; exact Kd.R_nil _ _ _ _ _, HB.out⟩
    | true =>
      rw [eb] at HROb hsp
      have sa := rootPl_small ea
      have sb := rootPl_small eb
      obtain ⟨nn, hnn⟩ := Int.eq_ofNat_of_zero_le (show 0 ≤ n by omega)
      have hn4 : nn ≤ 4 := by omega
      have HFR := Az.mk (fun (W : World) (hb : Below w.heap.size w W) => free_call nn txa txb Aa Ab ca cb la lb W hn4 (Kd.C_below hra hb) hca hsa (Kd.C_below hrb hb) hcb hsb n hnn (by omega))
      obtain ⟨U, hU⟩ : ∃ U, U = rootPl n txa la ++ rootPl n txb lb := ⟨_, rfl⟩
      rw [← hU] at hsp HFR
      have HE : Az (res = flatF U nn) := ⟨by rw [hsp, hnn]; rfl⟩
      have HNN := Az.mk hnn
      have HN4 := Az.mk hn4
      clear hra hrb hca hcb hsa hsb hsp ea eb sa sb hnn hn4 hU
      go_enter Try.func48, Try.ntmps48
      go_wp2_with (first | (go_at_call 38; have _tk := tk0; refine (HROa.out _ HB.out).mono ?_; rintro e w12 ⟨rfl, hb⟩; have BA2 := Az.mk (BA.out.below hb); have BB2 := Az.mk (BB.out.below hb); have HB2 := Az.mk (HB.out.trans (hb.mono HB.out.size)); clear BA BB HB hca_0 hca_1 hcb_0 hcb_1; have BA := BA2; have BB := BB2; have HB := HB2; clear BA2 BB2 HB2; have hca_0 := (BA.out.cell 0).trans rfl; have hca_1 := (BA.out.cell 1).trans rfl; have hcb_0 := (BB.out.cell 0).trans rfl; have hcb_1 := (BB.out.cell 1).trans rfl; clear hb; clear tk0 _tk; have tk1 : True := trivial) | (go_at_call 38; have _tk := tk1; refine (HROb.out _ HB.out).mono ?_; rintro e w17 ⟨rfl, hb⟩; have BA2 := Az.mk (BA.out.below hb); have BB2 := Az.mk (BB.out.below hb); have HB2 := Az.mk (HB.out.trans (hb.mono HB.out.size)); clear BA BB HB hca_0 hca_1 hcb_0 hcb_1; have BA := BA2; have BB := BB2; have HB := HB2; clear BA2 BB2 HB2; have hca_0 := (BA.out.cell 0).trans rfl; have hca_1 := (BA.out.cell 1).trans rfl; have hcb_0 := (BB.out.cell 0).trans rfl; have hcb_1 := (BB.out.cell 1).trans rfl; clear hb; clear tk1 _tk; have tk2 : True := trivial) | (go_at_call 90; refine (HFR.out _ HB.out).mono ?_; rintro e w23 ⟨b, m, D, V, rfl, hbb, hG, hb⟩; have HG := Az.mk hG; have HBB := Az.mk hbb; have BA2 := Az.mk (BA.out.below hb); have BB2 := Az.mk (BB.out.below hb); have HB2 := Az.mk (HB.out.trans (hb.mono HB.out.size)); clear BA BB HB hca_0 hca_1 hcb_0 hcb_1; have BA := BA2; have BB := BB2; have HB := HB2; clear BA2 BB2 HB2; have hca_0 := (BA.out.cell 0).trans rfl; have hca_1 := (BA.out.cell 1).trans rfl; have hcb_0 := (BB.out.cell 0).trans rfl; have hcb_1 := (BB.out.cell 1).trans rfl; clear hb hG hbb) | go_in)
      have HS0 := Az.mk (Below.refl w23.heap.size w23)
      have HBW := Az.mk HB.out
      clear HB hca_0 hca_1 hcb_0 hcb_1
      go_loopg [8, 25] nn (fun kq v8 v25 wr => ∃ (d : Nat), v25 = .int .i64 (d : Int) ∧ Az (d + kq = nn) ∧ Az (Kd.R k37 37 wr w23.heap.size (fun _ => True) v8 (flatF U d)) ∧ Az (Below w23.heap.size w23 wr))
      case atStart => exact ⟨0, rfl, ⟨Nat.zero_add _⟩, ⟨Kd.R_nil _ _ _ _ _⟩, HS0⟩
      case round =>
        obtain ⟨d, rfl, HI, HR, HBR⟩ := hrel
        by_cases e1 : d < nn
        · have e1b : decide ((d : Int) < n) = true := decide_eq_true (by rw [HNN.out]; omega)
          have HDN := Az.mk e1
          have hd4 : d < 4 := by have := HN4.out; omega
          have HWd : Az (wrap64 ((d : Int) + 1) = ((d + 1 : Nat) : Int)) := ⟨by rw [Pure.wrap_ok (by omega)]; omega⟩
          have HG2 := Az.mk (HG.out.below HBR.out)
          obtain ⟨A2, c2, hV, hlc, hC2⟩ := Kd.R_reads (HG2.out.row d hd4)
          have HVD := Az.mk ((HG2.out.at_ d hd4).trans (by rw [hV]))
          have HC2 := Az.mk hC2
          have HKY := Az.mk (kI_key (d := d) (by omega))
          have HLN : Az ((flatF U d).length + (Lst U nn 0 d).length ≤ 1000) := ⟨by
            rw [Lst_done U e1]
            have := freeP_len U d 12
            have := flatF_len U d
            omega⟩
          have HFS := Az.mk (flatF_succ U d)
          have HLD := Az.mk (Lst_done U e1)
          clear hV hlc hC2 hd4 e1
          go_wp2_with (first | (at_lookup; refine lookup_one rfl _ _ 108 rfl 3 27 ilaw Try.underlying108 RE (szero _) zS [] rfl b m D rfl HG2.out.own (.int .i64 (d : Int)) (kI d) rfl HKY.out (.slice A2 (Lst U nn 0 d).length c2) (fun v qs h => re_inv h HVD.out) ?_) | ((with_reducible refine zqg (N := 32) rfl ?_); refine Kd.R_append_rows k37 (Rr := k37.K wr) (w0 := w23) w23.heap.size rfl (.tmp 28) (.tmp 31) 27 37 (.agg #[.int .i64 0, .int .i64 0]) 16 rfl Try.underlying27 info37 rfl (by decide) (by omega) u8 (flatF U d) (Lst U nn 0 d) A2 (Lst U nn 0 d).length c2 (fun _ => True) (fun k => some k ≠ u8.ownBlock) rfl rfl HR.out HC2.out (fun x cs h => by rw [k37_open h]; exact k37_mkM _ _ _ x) (fun k hk => ⟨trivial, hk⟩) (fun _ _ => trivial) HBR.out HBR.out.size (by have := HLN.out; omega) ?_; intro v1 w1 hR1 hB1 hg1 hat1; have R1 := Az.mk hR1; have B1w := Az.mk hB1; clear hR1 hB1 hg1 hat1) | go_in)
          go_roundg (nn - (d + 1))
          case measure => have := HI.out; have := HDN.out; omega
          case rel => exact ⟨d + 1, by rw [← HWd.out], ⟨by have := HI.out; have := HDN.out; omega⟩, ⟨by rw [HFS.out, ← HLD.out]; exact R1.out⟩, B1w⟩
        · have e1b : decide ((d : Int) < n) = false := decide_eq_false (by rw [HNN.out]; omega)
          have hd : d = nn := by have := HI.out; omega
          subst hd
          go_wp2
          go_ret
          exact ⟨u8, rfl, by rw [HE.out]; exact Kd.R_lower HR.out HBW.out.size, HBW.out.trans (HBR.out.mono HBW.out.size)⟩
end Go.Proofs.Ytkoimmeghdbodaa.Print
namespace Go.Proofs.Ytkoimmeghdbodaa.Print
open Go.RowKit Go.Proofs.YtkoimmeghdbodaaW.PrintWords Go.Proofs.YtkoimmeghdbodaaW.PrintLast Go.Proofs.YtkoimmeghdbodaaW.PrintMore
attribute [local go_sem] max2_int min2_int max_two min_two max_three min_three max_four min_four   -- for this text's walks alone
set_option linter.unusedVariables false
set_option linter.unusedSimpArgs false
attribute [local go_sem high] eqA37
mutual
def spec_l12Used.l0 : Nat → List (S29) → Int → Int → Int → Option (Bool)
 | 0, _, _, _, _ => none
 | k + 1, x5, x6, x648000, x648001 => if x6 < (x5.length : Int) then (spec_l12Used.l1 k x5 x6 0 x648000 x648001) else (some false)
def spec_l12Used.l1 : Nat → List (S29) → Int → Int → Int → Int → Option (Bool)
 | 0, _, _, _, _, _ => none
 | k + 1, x5, x6, x7, x648000, x648001 => if 0 ≤ x6 then (if x6 < (x5.length : Int) then (if x7 < (((rd_T29 x5 x6).f2).length : Int) then (if 0 ≤ x7 then (if (((rd_T37 ((rd_T29 x5 x6).f2) x7).f0) == x648000 && (((rd_T37 ((rd_T29 x5 x6).f2) x7).f1) == x648001)) = true then (some true) else (spec_l12Used.l1 k x5 x6 (wrap64 (x7 + 1)) x648000 x648001)) else (none)) else (spec_l12Used.l0 k x5 (wrap64 (x6 + 1)) x648000 x648001)) else (none)) else (none)
end
def spec_l12Used.f (k : Nat) (a0_0 : Int) (l0_1 : List (S65)) (a1_0 : Int) (a1_1 : Int) : Option (Bool) := (spec_l2All.f k a0_0 l0_1).bind fun t648 => (spec_l12Used.l0 k t648 0 a1_0 a1_1)
set_option maxHeartbeats 8000000 in
set_option maxRecDepth 100000 in
theorem spec_l12Used.calls (k : Nat) (a0_0 : Int) (A0_1 : Option Addr) (c0_1 : Nat) (l0_1 : List (S65)) (a1_0 : Int) (a1_1 : Int) (r : Bool) (w : World) (hr0_1 : Kd.C k65 w A0_1 l0_1.length l0_1) (hc0_1 : l0_1.length ≤ c0_1) (h : spec_l12Used.f k a0_0 l0_1 a1_0 a1_1 = some r) :
  Calls Try.prog 117 #[.agg #[.int .i64 a0_0, .slice A0_1 l0_1.length c0_1], .agg #[.int .i64 a1_0, .int .i64 a1_1]] w fun e w' => e = .returned (.bool r) ∧ Below w.heap.size w w' := by
 have hu57 := Try.underlying57
 have hu37 := Try.underlying37
 have HR0_1 := Az.mk hr0_1
 have HC0_1 := Az.mk hc0_1
 clear hr0_1 hc0_1
 have HB := Az.mk (Below.refl w.heap.size w)
 have H : ((spec_l2All.f k a0_0 l0_1).bind fun t648 => (spec_l12Used.l0 k t648 0 a1_0 a1_1)) = some r := h
 clear h
 replace H := Option.bind_eq_some_iff.mp H
 obtain ⟨t648, A30, H⟩ := H
 replace H : (spec_l12Used.l0 k t648 0 a1_0 a1_1) = some r := H
 have A3 := Az.mk A30
 clear A30
 have H' := Az.mk H
 clear H
 go_enter Try.func117, Try.ntmps117
 go_wp2_with (first | ((with_reducible refine zqg (N := 2) rfl ?_); refine zqb ?hg (N := 2) ?hd (cs := #[.int .i64 a0_0, .slice A0_1 l0_1.length c0_1]) (t := 57) ?hr ?_; (case hd => rfl); (case hg => rfl); (case hr => first | (go_simp; done) | (go_simp; rfl)); intro gb646 hg w4 hbox hb; have n0_ := Az.mk (below_step (by repeat (first | (with_reducible first | exact HB.out | apply zq2 | apply zq1 | apply zqd) | exact HB.out)) hb); have n1_ := Az.mk (hbox); have n2_ := Az.mk ((by rw [hg]; exact (below_size (by repeat (first | (with_reducible first | exact HB.out | apply zq2 | apply zq1 | apply zqd) | exact HB.out))) : w.heap.size ≤ gb646)); have n3_ := Az.mk ((by rw [hg]; exact (below_size (by repeat (first | (with_reducible first | exact HB.out | apply zq2 | apply zq1 | apply zqd) | exact HB.out))) : w.heap.size ≤ gb646)); clear HB; have HB := n0_; have BK646 := n1_; have GW646 := n2_; have GE646 := n3_; clear n0_ n1_ n2_ n3_; clear hb hbox hg) | ((with_reducible refine zqg (N := 3) rfl ?_); refine zqb ?hg (N := 3) ?hd (cs := #[.int .i64 a1_0, .int .i64 a1_1]) (t := 37) ?hr ?_; (case hd => rfl); (case hg => rfl); (case hr => first | (go_simp; done) | (go_simp; rfl)); intro gb647 hg w5 hbox hb; have n0_ := Az.mk (blk_below (g := gb646) (o := .cells #[.int .i64 a0_0, .slice A0_1 l0_1.length c0_1] 57 (0, 0)) (by (with_reducible repeat (first | refine zq6 ?_ _ | refine zq8 ?_ | refine zq7 ?_ _)); exact BK646.out) hb); have n1_ := Az.mk (below_step (by repeat (first | (with_reducible first | exact HB.out | apply zq2 | apply zq1 | apply zqd | refine zq3 ?_ GE646.out) | exact HB.out)) hb); have n2_ := Az.mk (hbox); have n3_ := Az.mk ((by rw [hg]; exact (below_size (by repeat (first | (with_reducible first | exact HB.out | apply zq2 | apply zq1 | apply zqd | refine zq3 ?_ GE646.out) | exact HB.out))) : w.heap.size ≤ gb647)); have n4_ := Az.mk ((by rw [hg]; exact (below_size (by repeat (first | (with_reducible first | exact HB.out | apply zq2 | apply zq1 | apply zqd | refine zq3 ?_ GE646.out) | exact HB.out))) : w.heap.size ≤ gb647)); have n5_ := Az.mk ((by rw [hg]; exact Nat.ne_of_lt (blk_lt (g := gb646) (o := .cells #[.int .i64 a0_0, .slice A0_1 l0_1.length c0_1] 57 (0, 0)) (by (with_reducible repeat (first | refine zq6 ?_ _ | refine zq8 ?_ | refine zq7 ?_ _)); exact BK646.out)) : gb646 ≠ gb647)); have n6_ := Az.mk ((by rw [hg]; exact Nat.ne_of_gt (blk_lt (g := gb646) (o := .cells #[.int .i64 a0_0, .slice A0_1 l0_1.length c0_1] 57 (0, 0)) (by (with_reducible repeat (first | refine zq6 ?_ _ | refine zq8 ?_ | refine zq7 ?_ _)); exact BK646.out)) : gb647 ≠ gb646)); clear BK646; clear HB; have BK646 := n0_; have HB := n1_; have BK647 := n2_; have GW647 := n3_; have GE647 := n4_; have NB646_647 := n5_; have NB647_646 := n6_; clear n0_ n1_ n2_ n3_ n4_ n5_ n6_; clear hb hbox hg; have hnb6 := NB646_647.out; have hnc6 := NB647_646.out; have hcz7_0 : w5.cell? ⟨gb646, 0, none⟩ = some (.int .i64 a0_0) := (zq4 BK646.out 0).trans rfl; have hcz7_1 : w5.cell? ⟨gb646, 1, none⟩ = some (.slice A0_1 l0_1.length c0_1) := (zq4 BK646.out 1).trans rfl; have hfz7_0 := zq5 BK646.out 0; have hfz7_1 := zq5 BK646.out 1) | (go_at_call 86; (with_reducible refine (spec_l2All.calls k a0_0 (fun k_ => k_ < w.heap.size) _ _ l0_1 t648 _ ?side1 A3.out).mono ?_); (case side1 => exact Kd.V_mk HC0_1.out (Kd.F_below (Kd.C_F k65_heap HR0_1.out) (by repeat (first | (with_reducible first | exact HB.out | apply zq2 | apply zq1 | apply zqd | refine zq3 ?_ GE646.out | refine zq3 ?_ GE647.out) | exact HB.out)))); rintro e w8 ⟨v649, rfl, ho0, hb⟩; have n0_ := Az.mk (Kd.N_lower (Kd.N_mono (ok' := fun k_ => k_ ≠ gb646 ∧ k_ ≠ gb647) ho0 (fun k_ hk_ => ⟨Or.elim hk_ (fun hs_ => fun e_ => Nat.not_le.2 hs_ (by rw [e_]; exact GW646.out)) (fun hn_ => (Kd.freshB (g := gb646) (o := .cells #[.int .i64 a0_0, .slice A0_1 l0_1.length c0_1] 57 (0, 0)) (by (with_reducible repeat (first | refine zq6 ?_ _ | refine zq8 ?_ | refine zq7 ?_ _)); exact BK646.out) k_ hn_)), Or.elim hk_ (fun hs_ => fun e_ => Nat.not_le.2 hs_ (by rw [e_]; exact GW647.out)) (fun hn_ => (Kd.freshB (g := gb647) (o := .cells #[.int .i64 a1_0, .int .i64 a1_1] 37 (0, 0)) (by (with_reducible repeat (first | refine zq6 ?_ _ | refine zq8 ?_ | refine zq7 ?_ _)); exact BK647.out) k_ hn_))⟩)) (below_size (by repeat (first | (with_reducible first | exact HB.out | apply zq2 | apply zq1 | apply zqd | refine zq3 ?_ GE646.out | refine zq3 ?_ GE647.out) | exact HB.out)))); have n1_ := Az.mk (blk_below (g := gb646) (o := .cells #[.int .i64 a0_0, .slice A0_1 l0_1.length c0_1] 57 (0, 0)) (by (with_reducible repeat (first | refine zq6 ?_ _ | refine zq8 ?_ | refine zq7 ?_ _)); exact BK646.out) hb); have n2_ := Az.mk (blk_below (g := gb647) (o := .cells #[.int .i64 a1_0, .int .i64 a1_1] 37 (0, 0)) (by (with_reducible repeat (first | refine zq6 ?_ _ | refine zq8 ?_ | refine zq7 ?_ _)); exact BK647.out) hb); have n3_ := Az.mk (below_step (by repeat (first | (with_reducible first | exact HB.out | apply zq2 | apply zq1 | apply zqd | refine zq3 ?_ GE646.out | refine zq3 ?_ GE647.out) | exact HB.out)) hb); clear BK646; clear BK647; clear HB; have HO650 := n0_; have BK646 := n1_; have BK647 := n2_; have HB := n3_; clear n0_ n1_ n2_ n3_; (try clear hb); (try clear hb2); (try clear hk); (try clear hi); (try clear ho0)))
 repeat (go_quiet (first | ((with_reducible refine zqg (N := 2) rfl ?_); refine zqb ?hg (N := 2) ?hd (cs := #[.int .i64 a0_0, .slice A0_1 l0_1.length c0_1]) (t := 57) ?hr ?_; (case hd => rfl); (case hg => rfl); (case hr => first | (go_simp; done) | (go_simp; rfl)); intro gb646 hg w4 hbox hb; have n0_ := Az.mk (below_step (by repeat (first | (with_reducible first | exact HB.out | apply zq2 | apply zq1 | apply zqd) | exact HB.out)) hb); have n1_ := Az.mk (hbox); have n2_ := Az.mk ((by rw [hg]; exact (below_size (by repeat (first | (with_reducible first | exact HB.out | apply zq2 | apply zq1 | apply zqd) | exact HB.out))) : w.heap.size ≤ gb646)); have n3_ := Az.mk ((by rw [hg]; exact (below_size (by repeat (first | (with_reducible first | exact HB.out | apply zq2 | apply zq1 | apply zqd) | exact HB.out))) : w.heap.size ≤ gb646)); clear HB; have HB := n0_; have BK646 := n1_; have GW646 := n2_; have GE646 := n3_; clear n0_ n1_ n2_ n3_; clear hb hbox hg) | ((with_reducible refine zqg (N := 3) rfl ?_); refine zqb ?hg (N := 3) ?hd (cs := #[.int .i64 a1_0, .int .i64 a1_1]) (t := 37) ?hr ?_; (case hd => rfl); (case hg => rfl); (case hr => first | (go_simp; done) | (go_simp; rfl)); intro gb647 hg w5 hbox hb; have n0_ := Az.mk (blk_below (g := gb646) (o := .cells #[.int .i64 a0_0, .slice A0_1 l0_1.length c0_1] 57 (0, 0)) (by (with_reducible repeat (first | refine zq6 ?_ _ | refine zq8 ?_ | refine zq7 ?_ _)); exact BK646.out) hb); have n1_ := Az.mk (below_step (by repeat (first | (with_reducible first | exact HB.out | apply zq2 | apply zq1 | apply zqd | refine zq3 ?_ GE646.out) | exact HB.out)) hb); have n2_ := Az.mk (hbox); have n3_ := Az.mk ((by rw [hg]; exact (below_size (by repeat (first | (with_reducible first | exact HB.out | apply zq2 | apply zq1 | apply zqd | refine zq3 ?_ GE646.out) | exact HB.out))) : w.heap.size ≤ gb647)); have n4_ := Az.mk ((by rw [hg]; exact (below_size (by repeat (first | (with_reducible first | exact HB.out | apply zq2 | apply zq1 | apply zqd | refine zq3 ?_ GE646.out) | exact HB.out))) : w.heap.size ≤ gb647)); have n5_ := Az.mk ((by rw [hg]; exact Nat.ne_of_lt (blk_lt (g := gb646) (o := .cells #[.int .i64 a0_0, .slice A0_1 l0_1.length c0_1] 57 (0, 0)) (by (with_reducible repeat (first | refine zq6 ?_ _ | refine zq8 ?_ | refine zq7 ?_ _)); exact BK646.out)) : gb646 ≠ gb647)); have n6_ := Az.mk ((by rw [hg]; exact Nat.ne_of_gt (blk_lt (g := gb646) (o := .cells #[.int .i64 a0_0, .slice A0_1 l0_1.length c0_1] 57 (0, 0)) (by (with_reducible repeat (first | refine zq6 ?_ _ | refine zq8 ?_ | refine zq7 ?_ _)); exact BK646.out)) : gb647 ≠ gb646)); clear BK646; clear HB; have BK646 := n0_; have HB := n1_; have BK647 := n2_; have GW647 := n3_; have GE647 := n4_; have NB646_647 := n5_; have NB647_646 := n6_; clear n0_ n1_ n2_ n3_ n4_ n5_ n6_; clear hb hbox hg; have hnb6 := NB646_647.out; have hnc6 := NB647_646.out; have hcz7_0 : w5.cell? ⟨gb646, 0, none⟩ = some (.int .i64 a0_0) := (zq4 BK646.out 0).trans rfl; have hcz7_1 : w5.cell? ⟨gb646, 1, none⟩ = some (.slice A0_1 l0_1.length c0_1) := (zq4 BK646.out 1).trans rfl; have hfz7_0 := zq5 BK646.out 0; have hfz7_1 := zq5 BK646.out 1) | (go_at_call 86; (with_reducible refine (spec_l2All.calls k a0_0 (fun k_ => k_ < w.heap.size) _ _ l0_1 t648 _ ?side1 A3.out).mono ?_); (case side1 => exact Kd.V_mk HC0_1.out (Kd.F_below (Kd.C_F k65_heap HR0_1.out) (by repeat (first | (with_reducible first | exact HB.out | apply zq2 | apply zq1 | apply zqd | refine zq3 ?_ GE646.out | refine zq3 ?_ GE647.out) | exact HB.out)))); rintro e w8 ⟨v649, rfl, ho0, hb⟩; have n0_ := Az.mk (Kd.N_lower (Kd.N_mono (ok' := fun k_ => k_ ≠ gb646 ∧ k_ ≠ gb647) ho0 (fun k_ hk_ => ⟨Or.elim hk_ (fun hs_ => fun e_ => Nat.not_le.2 hs_ (by rw [e_]; exact GW646.out)) (fun hn_ => (Kd.freshB (g := gb646) (o := .cells #[.int .i64 a0_0, .slice A0_1 l0_1.length c0_1] 57 (0, 0)) (by (with_reducible repeat (first | refine zq6 ?_ _ | refine zq8 ?_ | refine zq7 ?_ _)); exact BK646.out) k_ hn_)), Or.elim hk_ (fun hs_ => fun e_ => Nat.not_le.2 hs_ (by rw [e_]; exact GW647.out)) (fun hn_ => (Kd.freshB (g := gb647) (o := .cells #[.int .i64 a1_0, .int .i64 a1_1] 37 (0, 0)) (by (with_reducible repeat (first | refine zq6 ?_ _ | refine zq8 ?_ | refine zq7 ?_ _)); exact BK647.out) k_ hn_))⟩)) (below_size (by repeat (first | (with_reducible first | exact HB.out | apply zq2 | apply zq1 | apply zqd | refine zq3 ?_ GE646.out | refine zq3 ?_ GE647.out) | exact HB.out)))); have n1_ := Az.mk (blk_below (g := gb646) (o := .cells #[.int .i64 a0_0, .slice A0_1 l0_1.length c0_1] 57 (0, 0)) (by (with_reducible repeat (first | refine zq6 ?_ _ | refine zq8 ?_ | refine zq7 ?_ _)); exact BK646.out) hb); have n2_ := Az.mk (blk_below (g := gb647) (o := .cells #[.int .i64 a1_0, .int .i64 a1_1] 37 (0, 0)) (by (with_reducible repeat (first | refine zq6 ?_ _ | refine zq8 ?_ | refine zq7 ?_ _)); exact BK647.out) hb); have n3_ := Az.mk (below_step (by repeat (first | (with_reducible first | exact HB.out | apply zq2 | apply zq1 | apply zqd | refine zq3 ?_ GE646.out | refine zq3 ?_ GE647.out) | exact HB.out)) hb); clear BK646; clear BK647; clear HB; have HO650 := n0_; have BK646 := n1_; have BK647 := n2_; have HB := n3_; clear n0_ n1_ n2_ n3_; (try clear hb); (try clear hb2); (try clear hk); (try clear hi); (try clear ho0))); try go_wp2_with (first | ((with_reducible refine zqg (N := 2) rfl ?_); refine zqb ?hg (N := 2) ?hd (cs := #[.int .i64 a0_0, .slice A0_1 l0_1.length c0_1]) (t := 57) ?hr ?_; (case hd => rfl); (case hg => rfl); (case hr => first | (go_simp; done) | (go_simp; rfl)); intro gb646 hg w4 hbox hb; have n0_ := Az.mk (below_step (by repeat (first | (with_reducible first | exact HB.out | apply zq2 | apply zq1 | apply zqd) | exact HB.out)) hb); have n1_ := Az.mk (hbox); have n2_ := Az.mk ((by rw [hg]; exact (below_size (by repeat (first | (with_reducible first | exact HB.out | apply zq2 | apply zq1 | apply zqd) | exact HB.out))) : w.heap.size ≤ gb646)); have n3_ := Az.mk ((by rw [hg]; exact (below_size (by repeat (first | (with_reducible first | exact HB.out | apply zq2 | apply zq1 | apply zqd) | exact HB.out))) : w.heap.size ≤ gb646)); clear HB; have HB := n0_; have BK646 := n1_; have GW646 := n2_; have GE646 := n3_; clear n0_ n1_ n2_ n3_; clear hb hbox hg) | ((with_reducible refine zqg (N := 3) rfl ?_); refine zqb ?hg (N := 3) ?hd (cs := #[.int .i64 a1_0, .int .i64 a1_1]) (t := 37) ?hr ?_; (case hd => rfl); (case hg => rfl); (case hr => first | (go_simp; done) | (go_simp; rfl)); intro gb647 hg w5 hbox hb; have n0_ := Az.mk (blk_below (g := gb646) (o := .cells #[.int .i64 a0_0, .slice A0_1 l0_1.length c0_1] 57 (0, 0)) (by (with_reducible repeat (first | refine zq6 ?_ _ | refine zq8 ?_ | refine zq7 ?_ _)); exact BK646.out) hb); have n1_ := Az.mk (below_step (by repeat (first | (with_reducible first | exact HB.out | apply zq2 | apply zq1 | apply zqd | refine zq3 ?_ GE646.out) | exact HB.out)) hb); have n2_ := Az.mk (hbox); have n3_ := Az.mk ((by rw [hg]; exact (below_size (by repeat (first | (with_reducible first | exact HB.out | apply zq2 | apply zq1 | apply zqd | refine zq3 ?_ GE646.out) | exact HB.out))) : w.heap.size ≤ gb647)); have n4_ := Az.mk ((by rw [hg]; exact (below_size (by repeat (first | (with_reducible first | exact HB.out | apply zq2 | apply zq1 | apply zqd | refine zq3 ?_ GE646.out) | exact HB.out))) : w.heap.size ≤ gb647)); have n5_ := Az.mk ((by rw [hg]; exact Nat.ne_of_lt (blk_lt (g := gb646) (o := .cells #[.int .i64 a0_0, .slice A0_1 l0_1.length c0_1] 57 (0, 0)) (by (with_reducible repeat (first | refine zq6 ?_ _ | refine zq8 ?_ | refine zq7 ?_ _)); exact BK646.out)) : gb646 ≠ gb647)); have n6_ := Az.mk ((by rw [hg]; exact Nat.ne_of_gt (blk_lt (g := gb646) (o := .cells #[.int .i64 a0_0, .slice A0_1 l0_1.length c0_1] 57 (0, 0)) (by (with_reducible repeat (first | refine zq6 ?_ _ | refine zq8 ?_ | refine zq7 ?_ _)); exact BK646.out)) : gb647 ≠ gb646)); clear BK646; clear HB; have BK646 := n0_; have HB := n1_; have BK647 := n2_; have GW647 := n3_; have GE647 := n4_; have NB646_647 := n5_; have NB647_646 := n6_; clear n0_ n1_ n2_ n3_ n4_ n5_ n6_; clear hb hbox hg; have hnb6 := NB646_647.out; have hnc6 := NB647_646.out; have hcz7_0 : w5.cell? ⟨gb646, 0, none⟩ = some (.int .i64 a0_0) := (zq4 BK646.out 0).trans rfl; have hcz7_1 : w5.cell? ⟨gb646, 1, none⟩ = some (.slice A0_1 l0_1.length c0_1) := (zq4 BK646.out 1).trans rfl; have hfz7_0 := zq5 BK646.out 0; have hfz7_1 := zq5 BK646.out 1) | (go_at_call 86; (with_reducible refine (spec_l2All.calls k a0_0 (fun k_ => k_ < w.heap.size) _ _ l0_1 t648 _ ?side1 A3.out).mono ?_); (case side1 => exact Kd.V_mk HC0_1.out (Kd.F_below (Kd.C_F k65_heap HR0_1.out) (by repeat (first | (with_reducible first | exact HB.out | apply zq2 | apply zq1 | apply zqd | refine zq3 ?_ GE646.out | refine zq3 ?_ GE647.out) | exact HB.out)))); rintro e w8 ⟨v649, rfl, ho0, hb⟩; have n0_ := Az.mk (Kd.N_lower (Kd.N_mono (ok' := fun k_ => k_ ≠ gb646 ∧ k_ ≠ gb647) ho0 (fun k_ hk_ => ⟨Or.elim hk_ (fun hs_ => fun e_ => Nat.not_le.2 hs_ (by rw [e_]; exact GW646.out)) (fun hn_ => (Kd.freshB (g := gb646) (o := .cells #[.int .i64 a0_0, .slice A0_1 l0_1.length c0_1] 57 (0, 0)) (by (with_reducible repeat (first | refine zq6 ?_ _ | refine zq8 ?_ | refine zq7 ?_ _)); exact BK646.out) k_ hn_)), Or.elim hk_ (fun hs_ => fun e_ => Nat.not_le.2 hs_ (by rw [e_]; exact GW647.out)) (fun hn_ => (Kd.freshB (g := gb647) (o := .cells #[.int .i64 a1_0, .int .i64 a1_1] 37 (0, 0)) (by (with_reducible repeat (first | refine zq6 ?_ _ | refine zq8 ?_ | refine zq7 ?_ _)); exact BK647.out) k_ hn_))⟩)) (below_size (by repeat (first | (with_reducible first | exact HB.out | apply zq2 | apply zq1 | apply zqd | refine zq3 ?_ GE646.out | refine zq3 ?_ GE647.out) | exact HB.out)))); have n1_ := Az.mk (blk_below (g := gb646) (o := .cells #[.int .i64 a0_0, .slice A0_1 l0_1.length c0_1] 57 (0, 0)) (by (with_reducible repeat (first | refine zq6 ?_ _ | refine zq8 ?_ | refine zq7 ?_ _)); exact BK646.out) hb); have n2_ := Az.mk (blk_below (g := gb647) (o := .cells #[.int .i64 a1_0, .int .i64 a1_1] 37 (0, 0)) (by (with_reducible repeat (first | refine zq6 ?_ _ | refine zq8 ?_ | refine zq7 ?_ _)); exact BK647.out) hb); have n3_ := Az.mk (below_step (by repeat (first | (with_reducible first | exact HB.out | apply zq2 | apply zq1 | apply zqd | refine zq3 ?_ GE646.out | refine zq3 ?_ GE647.out) | exact HB.out)) hb); clear BK646; clear BK647; clear HB; have HO650 := n0_; have BK646 := n1_; have BK647 := n2_; have HB := n3_; clear n0_ n1_ n2_ n3_; (try clear hb); (try clear hb2); (try clear hk); (try clear hi); (try clear ho0))))
 go_loopg [6] k (fun kq v6 w' => ∃ (x6_1 : Int), v6 = .int .i64 x6_1 ∧ Az (spec_l12Used.l0 kq t648 x6_1 a1_0 a1_1 = some r) ∧ Az (kq ≤ k) ∧ Az (Kd.N k29 29 w' w.heap.size (fun k_ => k_ ≠ gb646 ∧ k_ ≠ gb647) v649 t648) ∧ Az (w'.heap[gb646]? = some (.cells #[.int .i64 a0_0, (.slice A0_1 l0_1.length c0_1)] 57 (0, 0))) ∧ Az (w'.heap[gb647]? = some (.cells #[.int .i64 a1_0, .int .i64 a1_1] 37 (0, 0))) ∧ Az (Below w.heap.size w w'))
 case atStart => exact ⟨(0), (by first | rfl | (simp; done) | (simp [*]; done)), H', ⟨Nat.le_refl _⟩, ⟨by (with_reducible repeat (first | apply Kd.N_alloc | apply Kd.N_drewN | apply Kd.N_drew)); exact HO650.out⟩, ⟨by (with_reducible repeat (first | refine zq6 ?_ _ | refine zq8 ?_ | refine zq7 ?_ _)); exact BK646.out⟩, ⟨by (with_reducible repeat (first | refine zq6 ?_ _ | refine zq8 ?_ | refine zq7 ?_ _)); exact BK647.out⟩, ⟨by repeat (first | (with_reducible first | exact HB.out | apply zq2 | apply zq1 | apply zqd | refine zq3 ?_ GE646.out | refine zq3 ?_ GE647.out) | exact HB.out)⟩⟩
 case round =>
  clear H'
  try clear c1
  try clear p2
  try clear c6
  try clear hcz7_0
  try clear hcz7_1
  try clear hfz7_0
  try clear hfz7_1
  obtain ⟨x6_1, rfl, HA, HK1, HO_5, BK646, BK647, HB⟩ := hrel
  cases gk with
  | zero => exact absurd HA.out (by simp [spec_l12Used.l0])
  | succ k1 =>
   have H := HA.out
   clear HA
   simp only [spec_l12Used.l0] at H
   by_cases c9 : x6_1 < (t648.length : Int)
   ·rw [if_pos c9] at H
    have c9b0 : decide (x6_1 < (t648.length : Int)) = true := decide_eq_true c9
    clear c9
    have H' := Az.mk H
    clear H
    obtain ⟨Ao10, co10, eo10⟩ := Kd.N_slice HO_5.out
    subst eo10
    go_wp2
    repeat (go_quiet (fail); try go_wp2)
    go_loopg [7] k1 (fun kq v7 w' => ∃ (x7_2 : Int), v7 = .int .i64 x7_2 ∧ Az (spec_l12Used.l1 kq t648 x6_1 x7_2 a1_0 a1_1 = some r) ∧ Az (kq ≤ k1) ∧ Az (Kd.N k29 29 w' w.heap.size (fun k_ => k_ ≠ gb646 ∧ k_ ≠ gb647) (.slice Ao10 t648.length co10) t648) ∧ Az (w'.heap[gb646]? = some (.cells #[.int .i64 a0_0, (.slice A0_1 l0_1.length c0_1)] 57 (0, 0))) ∧ Az (w'.heap[gb647]? = some (.cells #[.int .i64 a1_0, .int .i64 a1_1] 37 (0, 0))) ∧ Az (Below w.heap.size w w'))
    case atStart => exact ⟨(0), (by first | rfl | (simp; done) | (simp [*]; done)), H', ⟨Nat.le_refl _⟩, ⟨by (with_reducible repeat (first | apply Kd.N_alloc | apply Kd.N_drewN | apply Kd.N_drew)); exact HO_5.out⟩, ⟨by (with_reducible repeat (first | refine zq6 ?_ _ | refine zq8 ?_ | refine zq7 ?_ _)); exact BK646.out⟩, ⟨by (with_reducible repeat (first | refine zq6 ?_ _ | refine zq8 ?_ | refine zq7 ?_ _)); exact BK647.out⟩, ⟨by repeat (first | (with_reducible first | exact HB.out | apply zq2 | apply zq1 | apply zqd | refine zq3 ?_ GE646.out | refine zq3 ?_ GE647.out) | exact HB.out)⟩⟩
    case round =>
     clear H'
     try clear c1
     try clear p2
     try clear c6
     try clear c9
     try clear c9b0
     try clear hcz7_0
     try clear hcz7_1
     try clear hfz7_0
     try clear hfz7_1
     try clear p2
     obtain ⟨x7_2, rfl, HA, HK2, HO_5, BK646, BK647, HB⟩ := hrel
     cases gk with
     | zero => exact absurd HA.out (by simp [spec_l12Used.l1])
     | succ k2 =>
      have H := HA.out
      clear HA
      simp only [spec_l12Used.l1] at H
      by_cases c11 : 0 ≤ x6_1
      ·rw [if_pos c11] at H
       have c11b0 : decide (0 ≤ x6_1) = true := decide_eq_true c11
       clear c11
       by_cases c12 : x6_1 < (t648.length : Int)
       ·rw [if_pos c12] at H
        have c12b0 : decide (x6_1 < (t648.length : Int)) = true := decide_eq_true c12
        clear c12
        by_cases c13 : x7_2 < (((rd_T29 t648 x6_1).f2).length : Int)
        ·rw [if_pos c13] at H
         have c13b0 : decide (x7_2 < (((rd_T29 t648 x6_1).f2).length : Int)) = true := decide_eq_true c13
         clear c13
         by_cases c14 : 0 ≤ x7_2
         ·rw [if_pos c14] at H
          have c14b0 : decide (0 ≤ x7_2) = true := decide_eq_true c14
          clear c14
          by_cases c15 : (((rd_T37 ((rd_T29 t648 x6_1).f2) x7_2).f0) == a1_0 && (((rd_T37 ((rd_T29 t648 x6_1).f2) x7_2).f1) == a1_1)) = true
          ·rw [if_pos c15] at H
           have c15b0 : (((rd_T37 ((rd_T29 t648 x6_1).f2) x7_2).f0) == a1_0 && (((rd_T37 ((rd_T29 t648 x6_1).f2) x7_2).f1) == a1_1)) = true := c15
           (try (have c15b1 : decide (((rd_T37 ((rd_T29 t648 x6_1).f2) x7_2).f0) = a1_0 && (((rd_T37 ((rd_T29 t648 x6_1).f2) x7_2).f1) == a1_1)) = true := by simpa using c15))
           (try (have c15b2 : (((rd_T37 ((rd_T29 t648 x6_1).f2) x7_2).f0) == a1_0 && (((rd_T37 ((rd_T29 t648 x6_1).f2) x7_2).f1) == a1_1)) = true := by simpa using c15))
           clear c15
           obtain rfl := Option.some.inj H
           have p651 : 0 ≤ (x6_1 : Int) := of_decide_eq_true (by first | (with_reducible assumption) | assumption)
           have q651 : x6_1 < (t648.length : Int) := of_decide_eq_true (by first | (with_reducible assumption) | assumption)
           obtain ⟨ad651, A651_2, c651_2, e651, hx651_0, hx651_1, hx651_2, hl651_2, hi651_2⟩ := at_T29 (Kd.N_reads' HO_5.out).2.2 x6_1 p651 q651
           cases e651
           obtain ⟨ce651, hce651, hMe651, hcc651⟩ := Kd.N_get HO_5.out z29 x6_1 p651 (by first | exact q651 | exact of_decide_eq_true (by first | (with_reducible assumption) | assumption) | (have e_ := (Kd.N_reads' HO_5.out).1; omega))
           obtain ⟨ua651_2, uc651_2, rfl, ul651_2, ge651_2⟩ := k29_openF hMe651
           have hv651_2 := hcc651 2 _ rfl
           rw [add_field _ _ 2 (by omega)] at hv651_2
           replace hv651_2 := Option.some.inj (hv651_2.symm.trans hx651_2)
           injection hv651_2 with hva_ hvn_ hvc_
           rw [hva_] at ge651_2
           rw [hvc_] at ul651_2
           have HL651_2 := Az.mk (show Kd.V k37 37 _ w.heap.size _ _ ((rd_T29 t648 x6_1).f2) from Kd.V_mk ul651_2 ge651_2)
           clear hva_ hvn_ hvc_ ge651_2 ul651_2
           clear hcc651 hce651
           have HR651_2 := Az.mk hi651_2
           have HC651_2 := Az.mk hl651_2
           clear hi651_2 hl651_2
           replace p651 := eq_true p651
           replace q651 := eq_true q651
           have p652 : 0 ≤ (x6_1 : Int) := of_decide_eq_true (by first | (with_reducible assumption) | assumption)
           have q652 : x6_1 < (t648.length : Int) := of_decide_eq_true (by first | (with_reducible assumption) | assumption)
           obtain ⟨ad652, A652_2, c652_2, e652, hx652_0, hx652_1, hx652_2, hl652_2, hi652_2⟩ := at_T29 (Kd.N_reads' HO_5.out).2.2 x6_1 p652 q652
           obtain rfl : ad651 = ad652 := (by injection e652)
           obtain ⟨ce652, hce652, hMe652, hcc652⟩ := Kd.N_get HO_5.out z29 x6_1 p652 (by first | exact q652 | exact of_decide_eq_true (by first | (with_reducible assumption) | assumption) | (have e_ := (Kd.N_reads' HO_5.out).1; omega))
           obtain ⟨ua652_2, uc652_2, rfl, ul652_2, ge652_2⟩ := k29_openF hMe652
           have hv652_2 := hcc652 2 _ rfl
           rw [add_field _ _ 2 (by omega)] at hv652_2
           replace hv652_2 := Option.some.inj (hv652_2.symm.trans hx652_2)
           injection hv652_2 with hva_ hvn_ hvc_
           rw [hva_] at ge652_2
           rw [hvc_] at ul652_2
           have HL652_2 := Az.mk (show Kd.V k37 37 _ w.heap.size _ _ ((rd_T29 t648 x6_1).f2) from Kd.V_mk ul652_2 ge652_2)
           clear hva_ hvn_ hvc_ ge652_2 ul652_2
           clear hcc652 hce652
           have HR652_2 := Az.mk hi652_2
           have HC652_2 := Az.mk hl652_2
           clear hi652_2 hl652_2
           replace p652 := eq_true p652
           replace q652 := eq_true q652
           have ea_ := Option.some.inj (hx651_2.symm.trans hx652_2)
           injection ea_ with ea_ en_ ec_
           subst ea_
           subst ec_
           clear en_
           have p653 : 0 ≤ (x7_2 : Int) := of_decide_eq_true (by first | (with_reducible assumption) | assumption)
           have q653 : x7_2 < (((rd_T29 t648 x6_1).f2).length : Int) := of_decide_eq_true (by first | (with_reducible assumption) | assumption)
           obtain ⟨ad653, e653, hx653_0, hx653_1⟩ := at_T37 (by repeat (first | (with_reducible exact HR652_2.out) | (with_reducible refine Kd.C_alloc ?_ _) | (with_reducible refine Kd.C_drewN ?_ _) | (with_reducible refine Kd.C_drew ?_) | exact HR652_2.out)) x7_2 p653 q653
           cases e653
           replace p653 := eq_true p653
           replace q653 := eq_true q653
           have hnb16 := NB647_646.out
           have hnc16 := NB646_647.out
           have hcz17_0 : wr.cell? ⟨gb647, 0, none⟩ = some (.int .i64 a1_0) := (zq4 BK647.out 0).trans rfl
           have hcz17_1 : wr.cell? ⟨gb647, 1, none⟩ = some (.int .i64 a1_1) := (zq4 BK647.out 1).trans rfl
           have hfz17_0 := zq5 BK647.out 0
           have hfz17_1 := zq5 BK647.out 1
           go_wp2
           repeat (go_quiet (fail); try go_wp2)
           go_ret
           exact ⟨by first | rfl | (simp [errW_none, errW_some] <;> rfl) | (simp [*, errW_none, errW_some] <;> rfl), by repeat (first | (with_reducible first | exact HB.out | apply zq2 | apply zq1 | apply zqd | refine zq3 ?_ GE646.out | refine zq3 ?_ GE647.out) | exact HB.out)⟩
          ·rw [if_neg c15] at H
           have c15b0 : (((rd_T37 ((rd_T29 t648 x6_1).f2) x7_2).f0) == a1_0 && (((rd_T37 ((rd_T29 t648 x6_1).f2) x7_2).f1) == a1_1)) = false := by simpa using c15
           (try (have c15b1 : decide (((rd_T37 ((rd_T29 t648 x6_1).f2) x7_2).f0) = a1_0 && (((rd_T37 ((rd_T29 t648 x6_1).f2) x7_2).f1) == a1_1)) = false := by simpa using c15))
           (try (have c15b2 : (((rd_T37 ((rd_T29 t648 x6_1).f2) x7_2).f0) == a1_0 && (((rd_T37 ((rd_T29 t648 x6_1).f2) x7_2).f1) == a1_1)) = false := by simpa using c15))
           (try (have c15b3 : ¬ (((rd_T37 ((rd_T29 t648 x6_1).f2) x7_2).f0) = a1_0 && (((rd_T37 ((rd_T29 t648 x6_1).f2) x7_2).f1) == a1_1)) := by simpa using c15))
           clear c15
           have H' := Az.mk H
           clear H
           have p651 : 0 ≤ (x6_1 : Int) := of_decide_eq_true (by first | (with_reducible assumption) | assumption)
           have q651 : x6_1 < (t648.length : Int) := of_decide_eq_true (by first | (with_reducible assumption) | assumption)
           obtain ⟨ad651, A651_2, c651_2, e651, hx651_0, hx651_1, hx651_2, hl651_2, hi651_2⟩ := at_T29 (Kd.N_reads' HO_5.out).2.2 x6_1 p651 q651
           cases e651
           obtain ⟨ce651, hce651, hMe651, hcc651⟩ := Kd.N_get HO_5.out z29 x6_1 p651 (by first | exact q651 | exact of_decide_eq_true (by first | (with_reducible assumption) | assumption) | (have e_ := (Kd.N_reads' HO_5.out).1; omega))
           obtain ⟨ua651_2, uc651_2, rfl, ul651_2, ge651_2⟩ := k29_openF hMe651
           have hv651_2 := hcc651 2 _ rfl
           rw [add_field _ _ 2 (by omega)] at hv651_2
           replace hv651_2 := Option.some.inj (hv651_2.symm.trans hx651_2)
           injection hv651_2 with hva_ hvn_ hvc_
           rw [hva_] at ge651_2
           rw [hvc_] at ul651_2
           have HL651_2 := Az.mk (show Kd.V k37 37 _ w.heap.size _ _ ((rd_T29 t648 x6_1).f2) from Kd.V_mk ul651_2 ge651_2)
           clear hva_ hvn_ hvc_ ge651_2 ul651_2
           clear hcc651 hce651
           have HR651_2 := Az.mk hi651_2
           have HC651_2 := Az.mk hl651_2
           clear hi651_2 hl651_2
           replace p651 := eq_true p651
           replace q651 := eq_true q651
           have p652 : 0 ≤ (x6_1 : Int) := of_decide_eq_true (by first | (with_reducible assumption) | assumption)
           have q652 : x6_1 < (t648.length : Int) := of_decide_eq_true (by first | (with_reducible assumption) | assumption)
           obtain ⟨ad652, A652_2, c652_2, e652, hx652_0, hx652_1, hx652_2, hl652_2, hi652_2⟩ := at_T29 (Kd.N_reads' HO_5.out).2.2 x6_1 p652 q652
           obtain rfl : ad651 = ad652 := (by injection e652)
           obtain ⟨ce652, hce652, hMe652, hcc652⟩ := Kd.N_get HO_5.out z29 x6_1 p652 (by first | exact q652 | exact of_decide_eq_true (by first | (with_reducible assumption) | assumption) | (have e_ := (Kd.N_reads' HO_5.out).1; omega))
           obtain ⟨ua652_2, uc652_2, rfl, ul652_2, ge652_2⟩ := k29_openF hMe652
           have hv652_2 := hcc652 2 _ rfl
           rw [add_field _ _ 2 (by omega)] at hv652_2
           replace hv652_2 := Option.some.inj (hv652_2.symm.trans hx652_2)
           injection hv652_2 with hva_ hvn_ hvc_
           rw [hva_] at ge652_2
           rw [hvc_] at ul652_2
           have HL652_2 := Az.mk (show Kd.V k37 37 _ w.heap.size _ _ ((rd_T29 t648 x6_1).f2) from Kd.V_mk ul652_2 ge652_2)
           clear hva_ hvn_ hvc_ ge652_2 ul652_2
           clear hcc652 hce652
           have HR652_2 := Az.mk hi652_2
           have HC652_2 := Az.mk hl652_2
           clear hi652_2 hl652_2
           replace p652 := eq_true p652
           replace q652 := eq_true q652
           have ea_ := Option.some.inj (hx651_2.symm.trans hx652_2)
           injection ea_ with ea_ en_ ec_
           subst ea_
           subst ec_
           clear en_
           have p653 : 0 ≤ (x7_2 : Int) := of_decide_eq_true (by first | (with_reducible assumption) | assumption)
           have q653 : x7_2 < (((rd_T29 t648 x6_1).f2).length : Int) := of_decide_eq_true (by first | (with_reducible assumption) | assumption)
           obtain ⟨ad653, e653, hx653_0, hx653_1⟩ := at_T37 (by repeat (first | (with_reducible exact HR652_2.out) | (with_reducible refine Kd.C_alloc ?_ _) | (with_reducible refine Kd.C_drewN ?_ _) | (with_reducible refine Kd.C_drew ?_) | exact HR652_2.out)) x7_2 p653 q653
           cases e653
           replace p653 := eq_true p653
           replace q653 := eq_true q653
           have hnb18 := NB647_646.out
           have hnc18 := NB646_647.out
           have hcz19_0 : wr.cell? ⟨gb647, 0, none⟩ = some (.int .i64 a1_0) := (zq4 BK647.out 0).trans rfl
           have hcz19_1 : wr.cell? ⟨gb647, 1, none⟩ = some (.int .i64 a1_1) := (zq4 BK647.out 1).trans rfl
           have hfz19_0 := zq5 BK647.out 0
           have hfz19_1 := zq5 BK647.out 1
           go_wp2
           repeat (go_quiet (fail); try go_wp2)
           go_roundg k2
           case measure => have := HK1.out; have := HK2.out; omega
           case rel => exact ⟨(wrap64 (x7_2 + 1)), (by first | rfl | (simp; done) | (simp [*]; done)), H', ⟨by have := HK1.out; have := HK2.out; omega⟩, ⟨by (with_reducible repeat (first | apply Kd.N_alloc | apply Kd.N_drewN | apply Kd.N_drew)); exact HO_5.out⟩, ⟨by (with_reducible repeat (first | refine zq6 ?_ _ | refine zq8 ?_ | refine zq7 ?_ _)); exact BK646.out⟩, ⟨by (with_reducible repeat (first | refine zq6 ?_ _ | refine zq8 ?_ | refine zq7 ?_ _)); exact BK647.out⟩, ⟨by repeat (first | (with_reducible first | exact HB.out | apply zq2 | apply zq1 | apply zqd | refine zq3 ?_ GE646.out | refine zq3 ?_ GE647.out) | exact HB.out)⟩⟩
         ·rw [if_neg c14] at H
          exact absurd H (by simp)
        ·rw [if_neg c13] at H
         have c13b0 : decide (x7_2 < (((rd_T29 t648 x6_1).f2).length : Int)) = false := decide_eq_false c13
         clear c13
         have H' := Az.mk H
         clear H
         have p651 : 0 ≤ (x6_1 : Int) := of_decide_eq_true (by first | (with_reducible assumption) | assumption)
         have q651 : x6_1 < (t648.length : Int) := of_decide_eq_true (by first | (with_reducible assumption) | assumption)
         obtain ⟨ad651, A651_2, c651_2, e651, hx651_0, hx651_1, hx651_2, hl651_2, hi651_2⟩ := at_T29 (Kd.N_reads' HO_5.out).2.2 x6_1 p651 q651
         cases e651
         obtain ⟨ce651, hce651, hMe651, hcc651⟩ := Kd.N_get HO_5.out z29 x6_1 p651 (by first | exact q651 | exact of_decide_eq_true (by first | (with_reducible assumption) | assumption) | (have e_ := (Kd.N_reads' HO_5.out).1; omega))
         obtain ⟨ua651_2, uc651_2, rfl, ul651_2, ge651_2⟩ := k29_openF hMe651
         have hv651_2 := hcc651 2 _ rfl
         rw [add_field _ _ 2 (by omega)] at hv651_2
         replace hv651_2 := Option.some.inj (hv651_2.symm.trans hx651_2)
         injection hv651_2 with hva_ hvn_ hvc_
         rw [hva_] at ge651_2
         rw [hvc_] at ul651_2
         have HL651_2 := Az.mk (show Kd.V k37 37 _ w.heap.size _ _ ((rd_T29 t648 x6_1).f2) from Kd.V_mk ul651_2 ge651_2)
         clear hva_ hvn_ hvc_ ge651_2 ul651_2
         clear hcc651 hce651
         have HR651_2 := Az.mk hi651_2
         have HC651_2 := Az.mk hl651_2
         clear hi651_2 hl651_2
         replace p651 := eq_true p651
         replace q651 := eq_true q651
         go_wp2
         repeat (go_quiet (fail); try go_wp2)
         go_roundg k2
         case measure => have := HK1.out; have := HK2.out; omega
         case rel => exact ⟨(wrap64 (x6_1 + 1)), (by first | rfl | (simp; done) | (simp [*]; done)), H', ⟨by have := HK1.out; have := HK2.out; omega⟩, ⟨by (with_reducible repeat (first | apply Kd.N_alloc | apply Kd.N_drewN | apply Kd.N_drew)); exact HO_5.out⟩, ⟨by (with_reducible repeat (first | refine zq6 ?_ _ | refine zq8 ?_ | refine zq7 ?_ _)); exact BK646.out⟩, ⟨by (with_reducible repeat (first | refine zq6 ?_ _ | refine zq8 ?_ | refine zq7 ?_ _)); exact BK647.out⟩, ⟨by repeat (first | (with_reducible first | exact HB.out | apply zq2 | apply zq1 | apply zqd | refine zq3 ?_ GE646.out | refine zq3 ?_ GE647.out) | exact HB.out)⟩⟩
       ·rw [if_neg c12] at H
        exact absurd H (by simp)
      ·rw [if_neg c11] at H
       exact absurd H (by simp)
   ·rw [if_neg c9] at H
    have c9b0 : decide (x6_1 < (t648.length : Int)) = false := decide_eq_false c9
    clear c9
    obtain rfl := Option.some.inj H
    obtain ⟨Ao20, co20, eo20⟩ := Kd.N_slice HO_5.out
    subst eo20
    go_wp2
    repeat (go_quiet (fail); try go_wp2)
    go_ret
    exact ⟨by first | rfl | (simp [errW_none, errW_some] <;> rfl) | (simp [*, errW_none, errW_some] <;> rfl), by repeat (first | (with_reducible first | exact HB.out | apply zq2 | apply zq1 | apply zqd | refine zq3 ?_ GE646.out | refine zq3 ?_ GE647.out) | exact HB.out)⟩
end Go.Proofs.Ytkoimmeghdbodaa.Print
namespace Go.Proofs.Ytkoimmeghdbodaa.Print
open Go.RowKit Go.Proofs.YtkoimmeghdbodaaW.PrintWords Go.Proofs.YtkoimmeghdbodaaW.PrintLast Go.Proofs.YtkoimmeghdbodaaW.PrintMore
attribute [local go_sem] max2_int min2_int max_two min_two max_three min_three max_four min_four   -- for this text's walks alone
set_option linter.unusedVariables false
set_option linter.unusedSimpArgs false
mutual
def spec_l12Free.l0 : Nat → Int → List (S37) → Int → Int → List (S65) → Int → List (S65) → Option ((List (S37)))
 | 0, _, _, _, _, _, _, _ => none
 | k + 1, x0, x7, x8, x655000, x655001, x656000, x656001 => if x8 < x0 then (spec_l12Free.l1 k x0 x7 x8 0 x655000 x655001 x656000 x656001) else (some x7)
def spec_l12Free.l1 : Nat → Int → List (S37) → Int → Int → Int → List (S65) → Int → List (S65) → Option ((List (S37)))
 | 0, _, _, _, _, _, _, _, _ => none
 | k + 1, x0, x7, x8, x9, x655000, x655001, x656000, x656001 => if x9 < 12 then ((spec_l12Used.f k x655000 x655001 x8 x9).bind fun t660 => (if t660 = true then (spec_l12Free.l1 k x0 x7 x8 (wrap64 (x9 + 1)) x655000 x655001 x656000 x656001) else ((spec_l12Used.f k x656000 x656001 x8 x9).bind fun t661 => (if t661 = true then (spec_l12Free.l1 k x0 x7 x8 (wrap64 (x9 + 1)) x655000 x655001 x656000 x656001) else (if x7.length < 8796093022208 then (spec_l12Free.l1 k x0 (x7 ++ [(⟨x8, x9⟩ : S37)]) x8 (wrap64 (x9 + 1)) x655000 x655001 x656000 x656001) else (none)))))) else (spec_l12Free.l0 k x0 x7 (wrap64 (x8 + 1)) x655000 x655001 x656000 x656001)
end
def spec_l12Free.f (k : Nat) (a0 : Int) (a1_0 : Int) (l1_1 : List (S65)) (a2_0 : Int) (l2_1 : List (S65)) : Option ((List (S37))) := spec_l12Free.l0 k a0 (([] : List (S37))) 0 a1_0 l1_1 a2_0 l2_1
set_option maxHeartbeats 8000000 in
set_option maxRecDepth 100000 in
theorem spec_l12Free.calls (k : Nat) (a0 : Int) (a1_0 : Int) (A1_1 : Option Addr) (c1_1 : Nat) (l1_1 : List (S65)) (a2_0 : Int) (A2_1 : Option Addr) (c2_1 : Nat) (l2_1 : List (S65)) (r : List (S37)) (w : World) (hr1_1 : Kd.C k65 w A1_1 l1_1.length l1_1) (hc1_1 : l1_1.length ≤ c1_1) (hr2_1 : Kd.C k65 w A2_1 l2_1.length l2_1) (hc2_1 : l2_1.length ≤ c2_1) (h : spec_l12Free.f k a0 a1_0 l1_1 a2_0 l2_1 = some r) :
  Calls Try.prog 91 #[.int .i64 a0, .agg #[.int .i64 a1_0, .slice A1_1 l1_1.length c1_1], .agg #[.int .i64 a2_0, .slice A2_1 l2_1.length c2_1]] w fun e w' => ∃ v0_ : Value, e = .returned (v0_) ∧ Kd.R k37 37 w' w.heap.size (fun _ => True) v0_ r ∧ Below w.heap.size w w' := by
 have hu57 := Try.underlying57
 have hu37 := Try.underlying37
 have HR1_1 := Az.mk hr1_1
 have HC1_1 := Az.mk hc1_1
 clear hr1_1 hc1_1
 have HR2_1 := Az.mk hr2_1
 have HC2_1 := Az.mk hc2_1
 clear hr2_1 hc2_1
 have HB := Az.mk (Below.refl w.heap.size w)
 have H : (spec_l12Free.l0 k a0 (([] : List (S37))) 0 a1_0 l1_1 a2_0 l2_1) = some r := h
 clear h
 obtain ⟨y656, hy656⟩ : ∃ y_ : List (S37), y_ = (([] : List (S37))) := ⟨_, rfl⟩
 replace H : (spec_l12Free.l0 k a0 y656 0 a1_0 l1_1 a2_0 l2_1) = some r := by first | (rw [hy656]; with_reducible exact H) | (have H2_ := (Option.bind_some _ _).symm.trans H; rw [hy656]; with_reducible exact H2_) | (have H2_ := (Option.bind_some _ _).symm.trans H; with_reducible exact H2_) | with_reducible exact H | (rw [hy656]; exact H) | exact H
 have Ny656 := Az.mk hy656
 clear hy656
 have H' := Az.mk H
 clear H
 go_enter Try.func91, Try.ntmps91
 go_wp2_with (first | ((with_reducible refine zqg (N := 4) rfl ?_); refine zqb ?hg (N := 4) ?hd (cs := #[.int .i64 a1_0, .slice A1_1 l1_1.length c1_1]) (t := 57) ?hr ?_; (case hd => rfl); (case hg => rfl); (case hr => first | (go_simp; done) | (go_simp; rfl)); intro gb654 hg w4 hbox hb; have n0_ := Az.mk (below_step (by repeat (first | (with_reducible first | exact HB.out | apply zq2 | apply zq1 | apply zqd) | exact HB.out)) hb); have n1_ := Az.mk (hbox); have n2_ := Az.mk ((by rw [hg]; exact (below_size (by repeat (first | (with_reducible first | exact HB.out | apply zq2 | apply zq1 | apply zqd) | exact HB.out))) : w.heap.size ≤ gb654)); have n3_ := Az.mk ((by rw [hg]; exact (below_size (by repeat (first | (with_reducible first | exact HB.out | apply zq2 | apply zq1 | apply zqd) | exact HB.out))) : w.heap.size ≤ gb654)); clear HB; have HB := n0_; have BK654 := n1_; have GW654 := n2_; have GE654 := n3_; clear n0_ n1_ n2_ n3_; clear hb hbox hg) | ((with_reducible refine zqg (N := 5) rfl ?_); refine zqb ?hg (N := 5) ?hd (cs := #[.int .i64 a2_0, .slice A2_1 l2_1.length c2_1]) (t := 57) ?hr ?_; (case hd => rfl); (case hg => rfl); (case hr => first | (go_simp; done) | (go_simp; rfl)); intro gb655 hg w5 hbox hb; have n0_ := Az.mk (blk_below (g := gb654) (o := .cells #[.int .i64 a1_0, .slice A1_1 l1_1.length c1_1] 57 (0, 0)) (by (with_reducible repeat (first | refine zq6 ?_ _ | refine zq8 ?_ | refine zq7 ?_ _)); exact BK654.out) hb); have n1_ := Az.mk (below_step (by repeat (first | (with_reducible first | exact HB.out | apply zq2 | apply zq1 | apply zqd | refine zq3 ?_ GE654.out) | exact HB.out)) hb); have n2_ := Az.mk (hbox); have n3_ := Az.mk ((by rw [hg]; exact (below_size (by repeat (first | (with_reducible first | exact HB.out | apply zq2 | apply zq1 | apply zqd | refine zq3 ?_ GE654.out) | exact HB.out))) : w.heap.size ≤ gb655)); have n4_ := Az.mk ((by rw [hg]; exact (below_size (by repeat (first | (with_reducible first | exact HB.out | apply zq2 | apply zq1 | apply zqd | refine zq3 ?_ GE654.out) | exact HB.out))) : w.heap.size ≤ gb655)); have n5_ := Az.mk ((by rw [hg]; exact Nat.ne_of_lt (blk_lt (g := gb654) (o := .cells #[.int .i64 a1_0, .slice A1_1 l1_1.length c1_1] 57 (0, 0)) (by (with_reducible repeat (first | refine zq6 ?_ _ | refine zq8 ?_ | refine zq7 ?_ _)); exact BK654.out)) : gb654 ≠ gb655)); have n6_ := Az.mk ((by rw [hg]; exact Nat.ne_of_gt (blk_lt (g := gb654) (o := .cells #[.int .i64 a1_0, .slice A1_1 l1_1.length c1_1] 57 (0, 0)) (by (with_reducible repeat (first | refine zq6 ?_ _ | refine zq8 ?_ | refine zq7 ?_ _)); exact BK654.out)) : gb655 ≠ gb654)); clear BK654; clear HB; have BK654 := n0_; have HB := n1_; have BK655 := n2_; have GW655 := n3_; have GE655 := n4_; have NB654_655 := n5_; have NB655_654 := n6_; clear n0_ n1_ n2_ n3_ n4_ n5_ n6_; clear hb hbox hg) | ((with_reducible refine zqg (N := 11) rfl ?_); refine Kd.R_lit k37 _ 37 ?hg (N := 11) ?hd (xs := ([] : List (S37))) (inner := []) (ok := fun _ => True) (okp := fun _ => True) ?hr ?hp (fun _ hk => hk) trivial (Below.refl _ _) (Nat.le_refl _) (by simp) ?_; (case hd => rfl); (case hg => rfl); (case hr => first | (go_simp; done) | (go_simp; rfl)); (case hp => exact (Reps.none _ _)); intro v657 w6 ho7 hb hg_ hnew_; clear hg_ hnew_; (first | rw [← Ny656.out] at ho7 | (simp only [Int.reduceToNat] at ho7; rw [← Ny656.out] at ho7)); have n0_ := Az.mk (Kd.R_lower ho7 (below_size (by repeat (first | (with_reducible first | exact HB.out | apply zq2 | apply zq1 | apply zqd | refine zq3 ?_ GE654.out | refine zq3 ?_ GE655.out) | exact HB.out)))); have n1_ := Az.mk (blk_below (g := gb654) (o := .cells #[.int .i64 a1_0, .slice A1_1 l1_1.length c1_1] 57 (0, 0)) (by (with_reducible repeat (first | refine zq6 ?_ _ | refine zq8 ?_ | refine zq7 ?_ _)); exact BK654.out) hb); have n2_ := Az.mk (blk_below (g := gb655) (o := .cells #[.int .i64 a2_0, .slice A2_1 l2_1.length c2_1] 57 (0, 0)) (by (with_reducible repeat (first | refine zq6 ?_ _ | refine zq8 ?_ | refine zq7 ?_ _)); exact BK655.out) hb); have n3_ := Az.mk (below_step (by repeat (first | (with_reducible first | exact HB.out | apply zq2 | apply zq1 | apply zqd | refine zq3 ?_ GE654.out | refine zq3 ?_ GE655.out) | exact HB.out)) hb); clear BK654; clear BK655; clear HB; have HO658 := n0_; have BK654 := n1_; have BK655 := n2_; have HB := n3_; clear n0_ n1_ n2_ n3_; clear hb ho7))
 go_loopg [7, 8] k (fun kq v7 v8 w' => ∃ (x7_1 : List (S37)) (x8_1 : Int), v8 = .int .i64 x8_1 ∧ Az (spec_l12Free.l0 kq a0 x7_1 x8_1 a1_0 l1_1 a2_0 l2_1 = some r) ∧ Az (kq ≤ k) ∧ Az (Kd.R k37 37 w' w.heap.size (fun _ => True) v7 x7_1) ∧ Az (w'.heap[gb654]? = some (.cells #[.int .i64 a1_0, (.slice A1_1 l1_1.length c1_1)] 57 (0, 0))) ∧ Az (w'.heap[gb655]? = some (.cells #[.int .i64 a2_0, (.slice A2_1 l2_1.length c2_1)] 57 (0, 0))) ∧ Az (Below w.heap.size w w'))
 case atStart => exact ⟨(y656), (0), (by first | rfl | (simp; done) | (simp [*]; done)), H', ⟨Nat.le_refl _⟩, ⟨by (with_reducible repeat (first | apply Kd.R_alloc | apply Kd.R_drewN | apply Kd.R_drew)); exact HO658.out⟩, ⟨by (with_reducible repeat (first | refine zq6 ?_ _ | refine zq8 ?_ | refine zq7 ?_ _)); exact BK654.out⟩, ⟨by (with_reducible repeat (first | refine zq6 ?_ _ | refine zq8 ?_ | refine zq7 ?_ _)); exact BK655.out⟩, ⟨by repeat (first | (with_reducible first | exact HB.out | apply zq2 | apply zq1 | apply zqd | refine zq3 ?_ GE654.out | refine zq3 ?_ GE655.out) | exact HB.out)⟩⟩
 case round =>
  clear H'
  try clear c1
  try clear c2
  try clear p2
  obtain ⟨x7_1, x8_1, rfl, HA, HK1, HO_7, BK654, BK655, HB⟩ := hrel
  cases gk with
  | zero => exact absurd HA.out (by simp [spec_l12Free.l0])
  | succ k1 =>
   have H := HA.out
   clear HA
   simp only [spec_l12Free.l0] at H
   by_cases c8 : x8_1 < a0
   ·rw [if_pos c8] at H
    have c8b0 : decide (x8_1 < a0) = true := decide_eq_true c8
    clear c8
    have H' := Az.mk H
    clear H
    go_wp2
    go_loopg [7, 9] k1 (fun kq v7 v9 w' => ∃ (x7_2 : List (S37)) (x9_2 : Int), v9 = .int .i64 x9_2 ∧ Az (spec_l12Free.l1 kq a0 x7_2 x8_1 x9_2 a1_0 l1_1 a2_0 l2_1 = some r) ∧ Az (kq ≤ k1) ∧ Az (Kd.R k37 37 w' w.heap.size (fun _ => True) v7 x7_2) ∧ Az (w'.heap[gb654]? = some (.cells #[.int .i64 a1_0, (.slice A1_1 l1_1.length c1_1)] 57 (0, 0))) ∧ Az (w'.heap[gb655]? = some (.cells #[.int .i64 a2_0, (.slice A2_1 l2_1.length c2_1)] 57 (0, 0))) ∧ Az (Below w.heap.size w w'))
    case atStart => exact ⟨(x7_1), (0), (by first | rfl | (simp; done) | (simp [*]; done)), H', ⟨Nat.le_refl _⟩, ⟨by (with_reducible repeat (first | apply Kd.R_alloc | apply Kd.R_drewN | apply Kd.R_drew)); exact HO_7.out⟩, ⟨by (with_reducible repeat (first | refine zq6 ?_ _ | refine zq8 ?_ | refine zq7 ?_ _)); exact BK654.out⟩, ⟨by (with_reducible repeat (first | refine zq6 ?_ _ | refine zq8 ?_ | refine zq7 ?_ _)); exact BK655.out⟩, ⟨by repeat (first | (with_reducible first | exact HB.out | apply zq2 | apply zq1 | apply zqd | refine zq3 ?_ GE654.out | refine zq3 ?_ GE655.out) | exact HB.out)⟩⟩
    case round =>
     clear H'
     try clear c1
     try clear c2
     try clear p2
     try clear c8
     try clear c8b0
     try clear p2
     obtain ⟨x7_2, x9_2, rfl, HA, HK2, HO_7, BK654, BK655, HB⟩ := hrel
     cases gk with
     | zero => exact absurd HA.out (by simp [spec_l12Free.l1])
     | succ k2 =>
      have H := HA.out
      clear HA
      simp only [spec_l12Free.l1] at H
      by_cases c9 : x9_2 < 12
      ·rw [if_pos c9] at H
       have c9b0 : decide (x9_2 < 12) = true := decide_eq_true c9
       clear c9
       replace H := Option.bind_eq_some_iff.mp H
       obtain ⟨t660, A100, H⟩ := H
       replace H : (if t660 = true then (spec_l12Free.l1 k2 a0 x7_2 x8_1 (wrap64 (x9_2 + 1)) a1_0 l1_1 a2_0 l2_1) else ((spec_l12Used.f k2 a2_0 l2_1 x8_1 x9_2).bind fun t661 => (if t661 = true then (spec_l12Free.l1 k2 a0 x7_2 x8_1 (wrap64 (x9_2 + 1)) a1_0 l1_1 a2_0 l2_1) else (if x7_2.length < 8796093022208 then (spec_l12Free.l1 k2 a0 (x7_2 ++ [(⟨x8_1, x9_2⟩ : S37)]) x8_1 (wrap64 (x9_2 + 1)) a1_0 l1_1 a2_0 l2_1) else (none))))) = some r := H
       have A10 := Az.mk A100
       clear A100
       by_cases c11 : t660 = true
       ·subst c11
        have H1 : (spec_l12Free.l1 k2 a0 x7_2 x8_1 (wrap64 (x9_2 + 1)) a1_0 l1_1 a2_0 l2_1) = some r := by rw [if_pos rfl] at H; exact H
        clear H
        have H := H1
        clear H1
        have H' := Az.mk H
        clear H
        go_wp2_with (first | ((with_reducible refine zqg (N := 10) rfl ?_); refine zqb ?hg (N := 10) ?hd (cs := #[.int .i64 0, .int .i64 0]) (t := 37) ?hr ?_; (case hd => rfl); (case hg => rfl); (case hr => first | (go_simp; done) | (go_simp; rfl)); intro gb659 hg w12 hbox hb; have n0_ := Az.mk (Kd.R_below (Kd.R_elderB (by (with_reducible repeat (first | apply Kd.R_alloc | apply Kd.R_drewN | apply Kd.R_drew)); exact HO_7.out) gb659 (Nat.le_of_eq hg.symm)) hb); have n1_ := Az.mk (blk_below (g := gb654) (o := .cells #[.int .i64 a1_0, .slice A1_1 l1_1.length c1_1] 57 (0, 0)) (by (with_reducible repeat (first | refine zq6 ?_ _ | refine zq8 ?_ | refine zq7 ?_ _)); exact BK654.out) hb); have n2_ := Az.mk (blk_below (g := gb655) (o := .cells #[.int .i64 a2_0, .slice A2_1 l2_1.length c2_1] 57 (0, 0)) (by (with_reducible repeat (first | refine zq6 ?_ _ | refine zq8 ?_ | refine zq7 ?_ _)); exact BK655.out) hb); have n3_ := Az.mk (below_step (by repeat (first | (with_reducible first | exact HB.out | apply zq2 | apply zq1 | apply zqd | refine zq3 ?_ GE654.out | refine zq3 ?_ GE655.out) | exact HB.out)) hb); have n4_ := Az.mk (hbox); have n5_ := Az.mk ((by rw [hg]; exact (below_size (by repeat (first | (with_reducible first | exact HB.out | apply zq2 | apply zq1 | apply zqd | refine zq3 ?_ GE654.out | refine zq3 ?_ GE655.out) | exact HB.out))) : w.heap.size ≤ gb659)); have n6_ := Az.mk ((by rw [hg]; exact (below_size (by repeat (first | (with_reducible first | exact HB.out | apply zq2 | apply zq1 | apply zqd | refine zq3 ?_ GE654.out | refine zq3 ?_ GE655.out) | exact HB.out))) : w.heap.size ≤ gb659)); have n7_ := Az.mk ((by rw [hg]; exact Nat.ne_of_lt (blk_lt (g := gb654) (o := .cells #[.int .i64 a1_0, .slice A1_1 l1_1.length c1_1] 57 (0, 0)) (by (with_reducible repeat (first | refine zq6 ?_ _ | refine zq8 ?_ | refine zq7 ?_ _)); exact BK654.out)) : gb654 ≠ gb659)); have n8_ := Az.mk ((by rw [hg]; exact Nat.ne_of_gt (blk_lt (g := gb654) (o := .cells #[.int .i64 a1_0, .slice A1_1 l1_1.length c1_1] 57 (0, 0)) (by (with_reducible repeat (first | refine zq6 ?_ _ | refine zq8 ?_ | refine zq7 ?_ _)); exact BK654.out)) : gb659 ≠ gb654)); have n9_ := Az.mk ((by rw [hg]; exact Nat.ne_of_lt (blk_lt (g := gb655) (o := .cells #[.int .i64 a2_0, .slice A2_1 l2_1.length c2_1] 57 (0, 0)) (by (with_reducible repeat (first | refine zq6 ?_ _ | refine zq8 ?_ | refine zq7 ?_ _)); exact BK655.out)) : gb655 ≠ gb659)); have n10_ := Az.mk ((by rw [hg]; exact Nat.ne_of_gt (blk_lt (g := gb655) (o := .cells #[.int .i64 a2_0, .slice A2_1 l2_1.length c2_1] 57 (0, 0)) (by (with_reducible repeat (first | refine zq6 ?_ _ | refine zq8 ?_ | refine zq7 ?_ _)); exact BK655.out)) : gb659 ≠ gb655)); clear HO_7; clear BK654; clear BK655; clear HB; have HO_7 := n0_; have BK654 := n1_; have BK655 := n2_; have HB := n3_; have BK659 := n4_; have GW659 := n5_; have GE659 := n6_; have NB654_659 := n7_; have NB659_654 := n8_; have NB655_659 := n9_; have NB659_655 := n10_; clear n0_ n1_ n2_ n3_ n4_ n5_ n6_ n7_ n8_ n9_ n10_; clear hb hbox hg; have hnb13 := NB659_654.out; have hnc13 := NB654_659.out; have hnb14 := NB659_655.out; have hnc14 := NB655_659.out; have hcz15_0 : w12.cell? ⟨gb659, 0, none⟩ = some (.int .i64 0) := (zq4 BK659.out 0).trans rfl; have hcz15_1 : w12.cell? ⟨gb659, 1, none⟩ = some (.int .i64 0) := (zq4 BK659.out 1).trans rfl; have hfz15_0 := zq5 BK659.out 0; have hfz15_1 := zq5 BK659.out 1; have hnb16 := NB654_655.out; have hnc16 := NB655_654.out; have hcz17_0 : w12.cell? ⟨gb654, 0, none⟩ = some (.int .i64 a1_0) := (zq4 BK654.out 0).trans rfl; have hcz17_1 : w12.cell? ⟨gb654, 1, none⟩ = some (.slice A1_1 l1_1.length c1_1) := (zq4 BK654.out 1).trans rfl; have hfz17_0 := zq5 BK654.out 0; have hfz17_1 := zq5 BK654.out 1) | ((with_reducible refine gate_callee (f := 117) rfl ?_); refine zq9 (some 26) rfl rfl Try.func117 (by kernel_rfl) rfl #[.agg #[.int .i64 a1_0, .slice A1_1 l1_1.length c1_1], .agg #[.int .i64 x8_1, .int .i64 x9_2]] rfl (by (try simp only [List.map_toArray, List.map_cons, List.map_nil]); first | done | rfl | (simp only [List.length_drop, List.length_take]; rfl)) ?_; (with_reducible refine (spec_l12Used.calls k2 a1_0 _ _ l1_1 x8_1 x9_2 true _ ?side1 ?side2 A10.out).mono ?_); (case side1 => exact Kd.C_below HR1_1.out (by repeat (first | (with_reducible first | exact HB.out | apply zq2 | apply zq1 | apply zqd | refine zq3 ?_ GE654.out | refine zq3 ?_ GE655.out | refine zq3 ?_ GE659.out) | exact HB.out))); (case side2 => exact HC1_1.out); rintro e w18 ⟨rfl, hb⟩; refine ⟨_, rfl, ?_⟩; have n0_ := Az.mk (Kd.R_below (by (with_reducible repeat (first | apply Kd.R_alloc | apply Kd.R_drewN | apply Kd.R_drew)); exact (Kd.R_mono (Kd.R_far (p := ⟨gb659, 1, none⟩) (Kd.R_far (p := ⟨gb659, 0, none⟩) (Kd.R_mono HO_7.out (fun k_ hk => (⟨hk, hk.2⟩ : _ ∧ k_ ≠ gb659))) (fun _ hk => hk.2) (.int .i64 x8_1)) (fun _ hk => hk.2) (.int .i64 x9_2)) (fun _ h_ => h_.1))) hb); have n1_ := Az.mk (blk_below (g := gb654) (o := .cells #[.int .i64 a1_0, .slice A1_1 l1_1.length c1_1] 57 (0, 0)) (by (with_reducible repeat (first | refine zq6 ?_ _ | refine zq8 ?_ | refine zq7 ?_ _)); refine blk_far ?_ NB654_659.out _; (with_reducible repeat (first | refine zq6 ?_ _ | refine zq8 ?_ | refine zq7 ?_ _)); refine blk_far ?_ NB654_659.out _; (with_reducible repeat (first | refine zq6 ?_ _ | refine zq8 ?_ | refine zq7 ?_ _)); exact BK654.out) hb); have n2_ := Az.mk (blk_below (g := gb655) (o := .cells #[.int .i64 a2_0, .slice A2_1 l2_1.length c2_1] 57 (0, 0)) (by (with_reducible repeat (first | refine zq6 ?_ _ | refine zq8 ?_ | refine zq7 ?_ _)); refine blk_far ?_ NB655_659.out _; (with_reducible repeat (first | refine zq6 ?_ _ | refine zq8 ?_ | refine zq7 ?_ _)); refine blk_far ?_ NB655_659.out _; (with_reducible repeat (first | refine zq6 ?_ _ | refine zq8 ?_ | refine zq7 ?_ _)); exact BK655.out) hb); have n3_ := Az.mk (blk_below (g := gb659) (o := .cells #[.int .i64 x8_1, .int .i64 x9_2] 37 (0, 0)) (by (with_reducible repeat (first | refine zq6 ?_ _ | refine zq8 ?_ | refine zq7 ?_ _)); refine blk_put (cs := #[.int .i64 x8_1, .int .i64 0]) ?_ 1 _ rfl; (with_reducible repeat (first | refine zq6 ?_ _ | refine zq8 ?_ | refine zq7 ?_ _)); refine blk_put (cs := #[.int .i64 0, .int .i64 0]) ?_ 0 _ rfl; (with_reducible repeat (first | refine zq6 ?_ _ | refine zq8 ?_ | refine zq7 ?_ _)); exact BK659.out) hb); have n4_ := Az.mk (below_step (by repeat (first | (with_reducible first | exact HB.out | apply zq2 | apply zq1 | apply zqd | refine zq3 ?_ GE654.out | refine zq3 ?_ GE655.out | refine zq3 ?_ GE659.out) | exact HB.out)) hb); clear HO_7; clear BK654; clear BK655; clear BK659; clear HB; have HO_7 := n0_; have BK654 := n1_; have BK655 := n2_; have BK659 := n3_; have HB := n4_; clear n0_ n1_ n2_ n3_ n4_; (try clear hb); (try clear hb2); (try clear hk); (try clear hi)))
        go_roundg k2
        case measure => have := HK1.out; have := HK2.out; omega
        case rel => exact ⟨(x7_2), (wrap64 (x9_2 + 1)), (by first | rfl | (simp; done) | (simp [*]; done)), H', ⟨by have := HK1.out; have := HK2.out; omega⟩, ⟨by (with_reducible repeat (first | apply Kd.R_alloc | apply Kd.R_drewN | apply Kd.R_drew)); exact Kd.R_mono HO_7.out (fun _ hk => trivial)⟩, ⟨by (with_reducible repeat (first | refine zq6 ?_ _ | refine zq8 ?_ | refine zq7 ?_ _)); exact BK654.out⟩, ⟨by (with_reducible repeat (first | refine zq6 ?_ _ | refine zq8 ?_ | refine zq7 ?_ _)); exact BK655.out⟩, ⟨by repeat (first | (with_reducible first | exact HB.out | apply zq2 | apply zq1 | apply zqd | refine zq3 ?_ GE654.out | refine zq3 ?_ GE655.out | refine zq3 ?_ GE659.out) | exact HB.out)⟩⟩
       ·replace c11 := Bool.eq_false_iff.mpr c11
        subst c11
        have H1 : ((spec_l12Used.f k2 a2_0 l2_1 x8_1 x9_2).bind fun t661 => (if t661 = true then (spec_l12Free.l1 k2 a0 x7_2 x8_1 (wrap64 (x9_2 + 1)) a1_0 l1_1 a2_0 l2_1) else (if x7_2.length < 8796093022208 then (spec_l12Free.l1 k2 a0 (x7_2 ++ [(⟨x8_1, x9_2⟩ : S37)]) x8_1 (wrap64 (x9_2 + 1)) a1_0 l1_1 a2_0 l2_1) else (none)))) = some r := by rw [if_neg (show ¬ (false = true) by decide)] at H; exact H
        clear H
        have H := H1
        clear H1
        replace H := Option.bind_eq_some_iff.mp H
        obtain ⟨t661, A190, H⟩ := H
        replace H : (if t661 = true then (spec_l12Free.l1 k2 a0 x7_2 x8_1 (wrap64 (x9_2 + 1)) a1_0 l1_1 a2_0 l2_1) else (if x7_2.length < 8796093022208 then (spec_l12Free.l1 k2 a0 (x7_2 ++ [(⟨x8_1, x9_2⟩ : S37)]) x8_1 (wrap64 (x9_2 + 1)) a1_0 l1_1 a2_0 l2_1) else (none))) = some r := H
        have A19 := Az.mk A190
        clear A190
        by_cases c20 : t661 = true
        ·subst c20
         have H1 : (spec_l12Free.l1 k2 a0 x7_2 x8_1 (wrap64 (x9_2 + 1)) a1_0 l1_1 a2_0 l2_1) = some r := by rw [if_pos rfl] at H; exact H
         clear H
         have H := H1
         clear H1
         have H' := Az.mk H
         clear H
         go_wp2_with (first | ((with_reducible refine zqg (N := 10) rfl ?_); refine zqb ?hg (N := 10) ?hd (cs := #[.int .i64 0, .int .i64 0]) (t := 37) ?hr ?_; (case hd => rfl); (case hg => rfl); (case hr => first | (go_simp; done) | (go_simp; rfl)); intro gb659 hg w21 hbox hb; have n0_ := Az.mk (Kd.R_below (Kd.R_elderB (by (with_reducible repeat (first | apply Kd.R_alloc | apply Kd.R_drewN | apply Kd.R_drew)); exact HO_7.out) gb659 (Nat.le_of_eq hg.symm)) hb); have n1_ := Az.mk (blk_below (g := gb654) (o := .cells #[.int .i64 a1_0, .slice A1_1 l1_1.length c1_1] 57 (0, 0)) (by (with_reducible repeat (first | refine zq6 ?_ _ | refine zq8 ?_ | refine zq7 ?_ _)); exact BK654.out) hb); have n2_ := Az.mk (blk_below (g := gb655) (o := .cells #[.int .i64 a2_0, .slice A2_1 l2_1.length c2_1] 57 (0, 0)) (by (with_reducible repeat (first | refine zq6 ?_ _ | refine zq8 ?_ | refine zq7 ?_ _)); exact BK655.out) hb); have n3_ := Az.mk (below_step (by repeat (first | (with_reducible first | exact HB.out | apply zq2 | apply zq1 | apply zqd | refine zq3 ?_ GE654.out | refine zq3 ?_ GE655.out) | exact HB.out)) hb); have n4_ := Az.mk (hbox); have n5_ := Az.mk ((by rw [hg]; exact (below_size (by repeat (first | (with_reducible first | exact HB.out | apply zq2 | apply zq1 | apply zqd | refine zq3 ?_ GE654.out | refine zq3 ?_ GE655.out) | exact HB.out))) : w.heap.size ≤ gb659)); have n6_ := Az.mk ((by rw [hg]; exact (below_size (by repeat (first | (with_reducible first | exact HB.out | apply zq2 | apply zq1 | apply zqd | refine zq3 ?_ GE654.out | refine zq3 ?_ GE655.out) | exact HB.out))) : w.heap.size ≤ gb659)); have n7_ := Az.mk ((by rw [hg]; exact Nat.ne_of_lt (blk_lt (g := gb654) (o := .cells #[.int .i64 a1_0, .slice A1_1 l1_1.length c1_1] 57 (0, 0)) (by (with_reducible repeat (first | refine zq6 ?_ _ | refine zq8 ?_ | refine zq7 ?_ _)); exact BK654.out)) : gb654 ≠ gb659)); have n8_ := Az.mk ((by rw [hg]; exact Nat.ne_of_gt (blk_lt (g := gb654) (o := .cells #[.int .i64 a1_0, .slice A1_1 l1_1.length c1_1] 57 (0, 0)) (by (with_reducible repeat (first | refine zq6 ?_ _ | refine zq8 ?_ | refine zq7 ?_ _)); exact BK654.out)) : gb659 ≠ gb654)); have n9_ := Az.mk ((by rw [hg]; exact Nat.ne_of_lt (blk_lt (g := gb655) (o := .cells #[.int .i64 a2_0, .slice A2_1 l2_1.length c2_1] 57 (0, 0)) (by (with_reducible repeat (first | refine zq6 ?_ _ | refine zq8 ?_ | refine zq7 ?_ _)); exact BK655.out)) : gb655 ≠ gb659)); have n10_ := Az.mk ((by rw [hg]; exact Nat.ne_of_gt (blk_lt (g := gb655) (o := .cells #[.int .i64 a2_0, .slice A2_1 l2_1.length c2_1] 57 (0, 0)) (by (with_reducible repeat (first | refine zq6 ?_ _ | refine zq8 ?_ | refine zq7 ?_ _)); exact BK655.out)) : gb659 ≠ gb655)); clear HO_7; clear BK654; clear BK655; clear HB; have HO_7 := n0_; have BK654 := n1_; have BK655 := n2_; have HB := n3_; have BK659 := n4_; have GW659 := n5_; have GE659 := n6_; have NB654_659 := n7_; have NB659_654 := n8_; have NB655_659 := n9_; have NB659_655 := n10_; clear n0_ n1_ n2_ n3_ n4_ n5_ n6_ n7_ n8_ n9_ n10_; clear hb hbox hg; have hnb22 := NB659_654.out; have hnc22 := NB654_659.out; have hnb23 := NB659_655.out; have hnc23 := NB655_659.out; have hcz24_0 : w21.cell? ⟨gb659, 0, none⟩ = some (.int .i64 0) := (zq4 BK659.out 0).trans rfl; have hcz24_1 : w21.cell? ⟨gb659, 1, none⟩ = some (.int .i64 0) := (zq4 BK659.out 1).trans rfl; have hfz24_0 := zq5 BK659.out 0; have hfz24_1 := zq5 BK659.out 1; have hnb25 := NB654_655.out; have hnc25 := NB655_654.out; have hcz26_0 : w21.cell? ⟨gb654, 0, none⟩ = some (.int .i64 a1_0) := (zq4 BK654.out 0).trans rfl; have hcz26_1 : w21.cell? ⟨gb654, 1, none⟩ = some (.slice A1_1 l1_1.length c1_1) := (zq4 BK654.out 1).trans rfl; have hfz26_0 := zq5 BK654.out 0; have hfz26_1 := zq5 BK654.out 1) | ((with_reducible refine gate_callee (f := 117) rfl ?_); refine zq9 (some 26) rfl rfl Try.func117 (by kernel_rfl) rfl #[.agg #[.int .i64 a1_0, .slice A1_1 l1_1.length c1_1], .agg #[.int .i64 x8_1, .int .i64 x9_2]] rfl (by (try simp only [List.map_toArray, List.map_cons, List.map_nil]); first | done | rfl | (simp only [List.length_drop, List.length_take]; rfl)) ?_; (with_reducible refine (spec_l12Used.calls k2 a1_0 _ _ l1_1 x8_1 x9_2 false _ ?side1 ?side2 A10.out).mono ?_); (case side1 => exact Kd.C_below HR1_1.out (by repeat (first | (with_reducible first | exact HB.out | apply zq2 | apply zq1 | apply zqd | refine zq3 ?_ GE654.out | refine zq3 ?_ GE655.out | refine zq3 ?_ GE659.out) | exact HB.out))); (case side2 => exact HC1_1.out); rintro e w27 ⟨rfl, hb⟩; refine ⟨_, rfl, ?_⟩; have n0_ := Az.mk (Kd.R_below (by (with_reducible repeat (first | apply Kd.R_alloc | apply Kd.R_drewN | apply Kd.R_drew)); exact (Kd.R_mono (Kd.R_far (p := ⟨gb659, 1, none⟩) (Kd.R_far (p := ⟨gb659, 0, none⟩) (Kd.R_mono HO_7.out (fun k_ hk => (⟨hk, hk.2⟩ : _ ∧ k_ ≠ gb659))) (fun _ hk => hk.2) (.int .i64 x8_1)) (fun _ hk => hk.2) (.int .i64 x9_2)) (fun _ h_ => h_.1))) hb); have n1_ := Az.mk (blk_below (g := gb654) (o := .cells #[.int .i64 a1_0, .slice A1_1 l1_1.length c1_1] 57 (0, 0)) (by (with_reducible repeat (first | refine zq6 ?_ _ | refine zq8 ?_ | refine zq7 ?_ _)); refine blk_far ?_ NB654_659.out _; (with_reducible repeat (first | refine zq6 ?_ _ | refine zq8 ?_ | refine zq7 ?_ _)); refine blk_far ?_ NB654_659.out _; (with_reducible repeat (first | refine zq6 ?_ _ | refine zq8 ?_ | refine zq7 ?_ _)); exact BK654.out) hb); have n2_ := Az.mk (blk_below (g := gb655) (o := .cells #[.int .i64 a2_0, .slice A2_1 l2_1.length c2_1] 57 (0, 0)) (by (with_reducible repeat (first | refine zq6 ?_ _ | refine zq8 ?_ | refine zq7 ?_ _)); refine blk_far ?_ NB655_659.out _; (with_reducible repeat (first | refine zq6 ?_ _ | refine zq8 ?_ | refine zq7 ?_ _)); refine blk_far ?_ NB655_659.out _; (with_reducible repeat (first | refine zq6 ?_ _ | refine zq8 ?_ | refine zq7 ?_ _)); exact BK655.out) hb); have n3_ := Az.mk (blk_below (g := gb659) (o := .cells #[.int .i64 x8_1, .int .i64 x9_2] 37 (0, 0)) (by (with_reducible repeat (first | refine zq6 ?_ _ | refine zq8 ?_ | refine zq7 ?_ _)); refine blk_put (cs := #[.int .i64 x8_1, .int .i64 0]) ?_ 1 _ rfl; (with_reducible repeat (first | refine zq6 ?_ _ | refine zq8 ?_ | refine zq7 ?_ _)); refine blk_put (cs := #[.int .i64 0, .int .i64 0]) ?_ 0 _ rfl; (with_reducible repeat (first | refine zq6 ?_ _ | refine zq8 ?_ | refine zq7 ?_ _)); exact BK659.out) hb); have n4_ := Az.mk (below_step (by repeat (first | (with_reducible first | exact HB.out | apply zq2 | apply zq1 | apply zqd | refine zq3 ?_ GE654.out | refine zq3 ?_ GE655.out | refine zq3 ?_ GE659.out) | exact HB.out)) hb); clear HO_7; clear BK654; clear BK655; clear BK659; clear HB; have HO_7 := n0_; have BK654 := n1_; have BK655 := n2_; have BK659 := n3_; have HB := n4_; clear n0_ n1_ n2_ n3_ n4_; (try clear hb); (try clear hb2); (try clear hk); (try clear hi); have hcz28_0 : w27.cell? ⟨gb655, 0, none⟩ = some (.int .i64 a2_0) := (zq4 BK655.out 0).trans rfl; have hcz28_1 : w27.cell? ⟨gb655, 1, none⟩ = some (.slice A2_1 l2_1.length c2_1) := (zq4 BK655.out 1).trans rfl; have hfz28_0 := zq5 BK655.out 0; have hfz28_1 := zq5 BK655.out 1; have hcz29_0 : w27.cell? ⟨gb659, 0, none⟩ = some (.int .i64 x8_1) := (zq4 BK659.out 0).trans rfl; have hcz29_1 : w27.cell? ⟨gb659, 1, none⟩ = some (.int .i64 x9_2) := (zq4 BK659.out 1).trans rfl; have hfz29_0 := zq5 BK659.out 0; have hfz29_1 := zq5 BK659.out 1) | (go_at_call 117; (with_reducible refine (spec_l12Used.calls k2 a2_0 _ _ l2_1 x8_1 x9_2 true _ ?side1 ?side2 A19.out).mono ?_); (case side1 => repeat (first | exact (Kd.C_below HR2_1.out HB.out) | (with_reducible refine Kd.C_alloc ?_ _) | (with_reducible refine Kd.C_drewN ?_ _) | (with_reducible refine Kd.C_drew ?_))); (case side2 => exact HC2_1.out); rintro e w30 ⟨rfl, hb⟩; have n0_ := Az.mk (Kd.R_below (by (with_reducible repeat (first | apply Kd.R_alloc | apply Kd.R_drewN | apply Kd.R_drew)); exact HO_7.out) hb); have n1_ := Az.mk (blk_below (g := gb654) (o := .cells #[.int .i64 a1_0, .slice A1_1 l1_1.length c1_1] 57 (0, 0)) (by (with_reducible repeat (first | refine zq6 ?_ _ | refine zq8 ?_ | refine zq7 ?_ _)); exact BK654.out) hb); have n2_ := Az.mk (blk_below (g := gb655) (o := .cells #[.int .i64 a2_0, .slice A2_1 l2_1.length c2_1] 57 (0, 0)) (by (with_reducible repeat (first | refine zq6 ?_ _ | refine zq8 ?_ | refine zq7 ?_ _)); exact BK655.out) hb); have n3_ := Az.mk (blk_below (g := gb659) (o := .cells #[.int .i64 x8_1, .int .i64 x9_2] 37 (0, 0)) (by (with_reducible repeat (first | refine zq6 ?_ _ | refine zq8 ?_ | refine zq7 ?_ _)); exact BK659.out) hb); have n4_ := Az.mk (below_step (by repeat (first | (with_reducible first | exact HB.out | apply zq2 | apply zq1 | apply zqd | refine zq3 ?_ GE654.out | refine zq3 ?_ GE655.out | refine zq3 ?_ GE659.out) | exact HB.out)) hb); clear HO_7; clear BK654; clear BK655; clear BK659; clear HB; have HO_7 := n0_; have BK654 := n1_; have BK655 := n2_; have BK659 := n3_; have HB := n4_; clear n0_ n1_ n2_ n3_ n4_; (try clear hb); (try clear hb2); (try clear hk); (try clear hi)))
         go_roundg k2
         case measure => have := HK1.out; have := HK2.out; omega
         case rel => exact ⟨(x7_2), (wrap64 (x9_2 + 1)), (by first | rfl | (simp; done) | (simp [*]; done)), H', ⟨by have := HK1.out; have := HK2.out; omega⟩, ⟨by (with_reducible repeat (first | apply Kd.R_alloc | apply Kd.R_drewN | apply Kd.R_drew)); exact Kd.R_mono HO_7.out (fun _ hk => trivial)⟩, ⟨by (with_reducible repeat (first | refine zq6 ?_ _ | refine zq8 ?_ | refine zq7 ?_ _)); exact BK654.out⟩, ⟨by (with_reducible repeat (first | refine zq6 ?_ _ | refine zq8 ?_ | refine zq7 ?_ _)); exact BK655.out⟩, ⟨by repeat (first | (with_reducible first | exact HB.out | apply zq2 | apply zq1 | apply zqd | refine zq3 ?_ GE654.out | refine zq3 ?_ GE655.out | refine zq3 ?_ GE659.out) | exact HB.out)⟩⟩
        ·replace c20 := Bool.eq_false_iff.mpr c20
         subst c20
         have H1 : (if x7_2.length < 8796093022208 then (spec_l12Free.l1 k2 a0 (x7_2 ++ [(⟨x8_1, x9_2⟩ : S37)]) x8_1 (wrap64 (x9_2 + 1)) a1_0 l1_1 a2_0 l2_1) else (none)) = some r := by rw [if_neg (show ¬ (false = true) by decide)] at H; exact H
         clear H
         have H := H1
         clear H1
         by_cases c31 : x7_2.length < 8796093022208
         ·rw [if_pos c31] at H
          have LMc31 := Az.mk c31
          clear c31
          obtain ⟨y662, hy662⟩ : ∃ y_ : List (S37), y_ = (x7_2 ++ [(⟨x8_1, x9_2⟩ : S37)]) := ⟨_, rfl⟩
          replace H : (spec_l12Free.l1 k2 a0 y662 x8_1 (wrap64 (x9_2 + 1)) a1_0 l1_1 a2_0 l2_1) = some r := by first | (rw [hy662]; with_reducible exact H) | (have H2_ := (Option.bind_some _ _).symm.trans H; rw [hy662]; with_reducible exact H2_) | (have H2_ := (Option.bind_some _ _).symm.trans H; with_reducible exact H2_) | with_reducible exact H | (rw [hy662]; exact H) | exact H
          have Ny662 := Az.mk hy662
          clear hy662
          have H' := Az.mk H
          clear H
          go_wp2_with (first | ((with_reducible refine zqg (N := 10) rfl ?_); refine zqb ?hg (N := 10) ?hd (cs := #[.int .i64 0, .int .i64 0]) (t := 37) ?hr ?_; (case hd => rfl); (case hg => rfl); (case hr => first | (go_simp; done) | (go_simp; rfl)); intro gb659 hg w32 hbox hb; have n0_ := Az.mk (Kd.R_below (Kd.R_elderB (by (with_reducible repeat (first | apply Kd.R_alloc | apply Kd.R_drewN | apply Kd.R_drew)); exact HO_7.out) gb659 (Nat.le_of_eq hg.symm)) hb); have n1_ := Az.mk (blk_below (g := gb654) (o := .cells #[.int .i64 a1_0, .slice A1_1 l1_1.length c1_1] 57 (0, 0)) (by (with_reducible repeat (first | refine zq6 ?_ _ | refine zq8 ?_ | refine zq7 ?_ _)); exact BK654.out) hb); have n2_ := Az.mk (blk_below (g := gb655) (o := .cells #[.int .i64 a2_0, .slice A2_1 l2_1.length c2_1] 57 (0, 0)) (by (with_reducible repeat (first | refine zq6 ?_ _ | refine zq8 ?_ | refine zq7 ?_ _)); exact BK655.out) hb); have n3_ := Az.mk (below_step (by repeat (first | (with_reducible first | exact HB.out | apply zq2 | apply zq1 | apply zqd | refine zq3 ?_ GE654.out | refine zq3 ?_ GE655.out) | exact HB.out)) hb); have n4_ := Az.mk (hbox); have n5_ := Az.mk ((by rw [hg]; exact (below_size (by repeat (first | (with_reducible first | exact HB.out | apply zq2 | apply zq1 | apply zqd | refine zq3 ?_ GE654.out | refine zq3 ?_ GE655.out) | exact HB.out))) : w.heap.size ≤ gb659)); have n6_ := Az.mk ((by rw [hg]; exact (below_size (by repeat (first | (with_reducible first | exact HB.out | apply zq2 | apply zq1 | apply zqd | refine zq3 ?_ GE654.out | refine zq3 ?_ GE655.out) | exact HB.out))) : w.heap.size ≤ gb659)); have n7_ := Az.mk ((by rw [hg]; exact Nat.ne_of_lt (blk_lt (g := gb654) (o := .cells #[.int .i64 a1_0, .slice A1_1 l1_1.length c1_1] 57 (0, 0)) (by (with_reducible repeat (first | refine zq6 ?_ _ | refine zq8 ?_ | refine zq7 ?_ _)); exact BK654.out)) : gb654 ≠ gb659)); have n8_ := Az.mk ((by rw [hg]; exact Nat.ne_of_gt (blk_lt (g := gb654) (o := .cells #[.int .i64 a1_0, .slice A1_1 l1_1.length c1_1] 57 (0, 0)) (by (with_reducible repeat (first | refine zq6 ?_ _ | refine zq8 ?_ | refine zq7 ?_ _)); exact BK654.out)) : gb659 ≠ gb654)); have n9_ := Az.mk ((by rw [hg]; exact Nat.ne_of_lt (blk_lt (g := gb655) (o := .cells #[.int .i64 a2_0, .slice A2_1 l2_1.length c2_1] 57 (0, 0)) (by (with_reducible repeat (first | refine zq6 ?_ _ | refine zq8 ?_ | refine zq7 ?_ _)); exact BK655.out)) : gb655 ≠ gb659)); have n10_ := Az.mk ((by rw [hg]; exact Nat.ne_of_gt (blk_lt (g := gb655) (o := .cells #[.int .i64 a2_0, .slice A2_1 l2_1.length c2_1] 57 (0, 0)) (by (with_reducible repeat (first | refine zq6 ?_ _ | refine zq8 ?_ | refine zq7 ?_ _)); exact BK655.out)) : gb659 ≠ gb655)); clear HO_7; clear BK654; clear BK655; clear HB; have HO_7 := n0_; have BK654 := n1_; have BK655 := n2_; have HB := n3_; have BK659 := n4_; have GW659 := n5_; have GE659 := n6_; have NB654_659 := n7_; have NB659_654 := n8_; have NB655_659 := n9_; have NB659_655 := n10_; clear n0_ n1_ n2_ n3_ n4_ n5_ n6_ n7_ n8_ n9_ n10_; clear hb hbox hg; have hnb33 := NB659_654.out; have hnc33 := NB654_659.out; have hnb34 := NB659_655.out; have hnc34 := NB655_659.out; have hcz35_0 : w32.cell? ⟨gb659, 0, none⟩ = some (.int .i64 0) := (zq4 BK659.out 0).trans rfl; have hcz35_1 : w32.cell? ⟨gb659, 1, none⟩ = some (.int .i64 0) := (zq4 BK659.out 1).trans rfl; have hfz35_0 := zq5 BK659.out 0; have hfz35_1 := zq5 BK659.out 1; have hnb36 := NB654_655.out; have hnc36 := NB655_654.out; have hcz37_0 : w32.cell? ⟨gb654, 0, none⟩ = some (.int .i64 a1_0) := (zq4 BK654.out 0).trans rfl; have hcz37_1 : w32.cell? ⟨gb654, 1, none⟩ = some (.slice A1_1 l1_1.length c1_1) := (zq4 BK654.out 1).trans rfl; have hfz37_0 := zq5 BK654.out 0; have hfz37_1 := zq5 BK654.out 1) | ((with_reducible refine gate_callee (f := 117) rfl ?_); refine zq9 (some 26) rfl rfl Try.func117 (by kernel_rfl) rfl #[.agg #[.int .i64 a1_0, .slice A1_1 l1_1.length c1_1], .agg #[.int .i64 x8_1, .int .i64 x9_2]] rfl (by (try simp only [List.map_toArray, List.map_cons, List.map_nil]); first | done | rfl | (simp only [List.length_drop, List.length_take]; rfl)) ?_; (with_reducible refine (spec_l12Used.calls k2 a1_0 _ _ l1_1 x8_1 x9_2 false _ ?side1 ?side2 A10.out).mono ?_); (case side1 => exact Kd.C_below HR1_1.out (by repeat (first | (with_reducible first | exact HB.out | apply zq2 | apply zq1 | apply zqd | refine zq3 ?_ GE654.out | refine zq3 ?_ GE655.out | refine zq3 ?_ GE659.out) | exact HB.out))); (case side2 => exact HC1_1.out); rintro e w38 ⟨rfl, hb⟩; refine ⟨_, rfl, ?_⟩; have n0_ := Az.mk (Kd.R_below (by (with_reducible repeat (first | apply Kd.R_alloc | apply Kd.R_drewN | apply Kd.R_drew)); exact (Kd.R_mono (Kd.R_far (p := ⟨gb659, 1, none⟩) (Kd.R_far (p := ⟨gb659, 0, none⟩) (Kd.R_mono HO_7.out (fun k_ hk => (⟨hk, hk.2⟩ : _ ∧ k_ ≠ gb659))) (fun _ hk => hk.2) (.int .i64 x8_1)) (fun _ hk => hk.2) (.int .i64 x9_2)) (fun _ h_ => h_.1))) hb); have n1_ := Az.mk (blk_below (g := gb654) (o := .cells #[.int .i64 a1_0, .slice A1_1 l1_1.length c1_1] 57 (0, 0)) (by (with_reducible repeat (first | refine zq6 ?_ _ | refine zq8 ?_ | refine zq7 ?_ _)); refine blk_far ?_ NB654_659.out _; (with_reducible repeat (first | refine zq6 ?_ _ | refine zq8 ?_ | refine zq7 ?_ _)); refine blk_far ?_ NB654_659.out _; (with_reducible repeat (first | refine zq6 ?_ _ | refine zq8 ?_ | refine zq7 ?_ _)); exact BK654.out) hb); have n2_ := Az.mk (blk_below (g := gb655) (o := .cells #[.int .i64 a2_0, .slice A2_1 l2_1.length c2_1] 57 (0, 0)) (by (with_reducible repeat (first | refine zq6 ?_ _ | refine zq8 ?_ | refine zq7 ?_ _)); refine blk_far ?_ NB655_659.out _; (with_reducible repeat (first | refine zq6 ?_ _ | refine zq8 ?_ | refine zq7 ?_ _)); refine blk_far ?_ NB655_659.out _; (with_reducible repeat (first | refine zq6 ?_ _ | refine zq8 ?_ | refine zq7 ?_ _)); exact BK655.out) hb); have n3_ := Az.mk (blk_below (g := gb659) (o := .cells #[.int .i64 x8_1, .int .i64 x9_2] 37 (0, 0)) (by (with_reducible repeat (first | refine zq6 ?_ _ | refine zq8 ?_ | refine zq7 ?_ _)); refine blk_put (cs := #[.int .i64 x8_1, .int .i64 0]) ?_ 1 _ rfl; (with_reducible repeat (first | refine zq6 ?_ _ | refine zq8 ?_ | refine zq7 ?_ _)); refine blk_put (cs := #[.int .i64 0, .int .i64 0]) ?_ 0 _ rfl; (with_reducible repeat (first | refine zq6 ?_ _ | refine zq8 ?_ | refine zq7 ?_ _)); exact BK659.out) hb); have n4_ := Az.mk (below_step (by repeat (first | (with_reducible first | exact HB.out | apply zq2 | apply zq1 | apply zqd | refine zq3 ?_ GE654.out | refine zq3 ?_ GE655.out | refine zq3 ?_ GE659.out) | exact HB.out)) hb); clear HO_7; clear BK654; clear BK655; clear BK659; clear HB; have HO_7 := n0_; have BK654 := n1_; have BK655 := n2_; have BK659 := n3_; have HB := n4_; clear n0_ n1_ n2_ n3_ n4_; (try clear hb); (try clear hb2); (try clear hk); (try clear hi); have hcz39_0 : w38.cell? ⟨gb655, 0, none⟩ = some (.int .i64 a2_0) := (zq4 BK655.out 0).trans rfl; have hcz39_1 : w38.cell? ⟨gb655, 1, none⟩ = some (.slice A2_1 l2_1.length c2_1) := (zq4 BK655.out 1).trans rfl; have hfz39_0 := zq5 BK655.out 0; have hfz39_1 := zq5 BK655.out 1; have hcz40_0 : w38.cell? ⟨gb659, 0, none⟩ = some (.int .i64 x8_1) := (zq4 BK659.out 0).trans rfl; have hcz40_1 : w38.cell? ⟨gb659, 1, none⟩ = some (.int .i64 x9_2) := (zq4 BK659.out 1).trans rfl; have hfz40_0 := zq5 BK659.out 0; have hfz40_1 := zq5 BK659.out 1) | (go_at_call 117; (with_reducible refine (spec_l12Used.calls k2 a2_0 _ _ l2_1 x8_1 x9_2 false _ ?side1 ?side2 A19.out).mono ?_); (case side1 => repeat (first | exact (Kd.C_below HR2_1.out HB.out) | (with_reducible refine Kd.C_alloc ?_ _) | (with_reducible refine Kd.C_drewN ?_ _) | (with_reducible refine Kd.C_drew ?_))); (case side2 => exact HC2_1.out); rintro e w41 ⟨rfl, hb⟩; have n0_ := Az.mk (Kd.R_below (by (with_reducible repeat (first | apply Kd.R_alloc | apply Kd.R_drewN | apply Kd.R_drew)); exact HO_7.out) hb); have n1_ := Az.mk (blk_below (g := gb654) (o := .cells #[.int .i64 a1_0, .slice A1_1 l1_1.length c1_1] 57 (0, 0)) (by (with_reducible repeat (first | refine zq6 ?_ _ | refine zq8 ?_ | refine zq7 ?_ _)); exact BK654.out) hb); have n2_ := Az.mk (blk_below (g := gb655) (o := .cells #[.int .i64 a2_0, .slice A2_1 l2_1.length c2_1] 57 (0, 0)) (by (with_reducible repeat (first | refine zq6 ?_ _ | refine zq8 ?_ | refine zq7 ?_ _)); exact BK655.out) hb); have n3_ := Az.mk (blk_below (g := gb659) (o := .cells #[.int .i64 x8_1, .int .i64 x9_2] 37 (0, 0)) (by (with_reducible repeat (first | refine zq6 ?_ _ | refine zq8 ?_ | refine zq7 ?_ _)); exact BK659.out) hb); have n4_ := Az.mk (below_step (by repeat (first | (with_reducible first | exact HB.out | apply zq2 | apply zq1 | apply zqd | refine zq3 ?_ GE654.out | refine zq3 ?_ GE655.out | refine zq3 ?_ GE659.out) | exact HB.out)) hb); clear HO_7; clear BK654; clear BK655; clear BK659; clear HB; have HO_7 := n0_; have BK654 := n1_; have BK655 := n2_; have BK659 := n3_; have HB := n4_; clear n0_ n1_ n2_ n3_ n4_; (try clear hb); (try clear hb2); (try clear hk); (try clear hi); have hcz42_0 : w41.cell? ⟨gb659, 0, none⟩ = some (.int .i64 x8_1) := (zq4 BK659.out 0).trans rfl; have hcz42_1 : w41.cell? ⟨gb659, 1, none⟩ = some (.int .i64 x9_2) := (zq4 BK659.out 1).trans rfl; have hfz42_0 := zq5 BK659.out 0; have hfz42_1 := zq5 BK659.out 1) | ((with_reducible refine gate_builtin (b := .append) (xs := #[.tmp 34, .tmp 36]) rfl ?_); at_builtin; refine Kd.R_append k37 (w0 := w) w.heap.size rfl (.tmp 34) (.tmp 36) 27 37 (.agg #[(.int .i64 0), (.int .i64 0)]) 16 rfl Try.underlying27 info37 rfl (by decide) (by omega) u7 x7_2 (⟨x8_1, x9_2⟩ : S37) [.int .i64 x8_1, .int .i64 x9_2] (fun k_ => k_ ≠ gb659) (fun _ => False) rfl rfl ?aP (fun _ hk => hk.elim) ?aF ?aO ?aB ?aS ?aL ?_; (case aP => exact k37_mkM _ _ _ (⟨x8_1, x9_2⟩ : S37)); (case aB => exact (by repeat (first | (with_reducible first | exact HB.out | apply zq2 | apply zq1 | apply zqd | refine zq3 ?_ GE654.out | refine zq3 ?_ GE655.out | refine zq3 ?_ GE659.out) | exact HB.out))); (case aF => exact (fun k_ hk => Kd.freshB (g := gb659) (o := .cells #[.int .i64 x8_1, .int .i64 x9_2] 37 (0, 0)) (by (with_reducible repeat (first | refine zq6 ?_ _ | refine zq8 ?_ | refine zq7 ?_ _)); exact BK659.out) k_ hk)); (case aO => exact (by (with_reducible repeat (first | apply Kd.R_alloc | apply Kd.R_drewN | apply Kd.R_drew)); exact Kd.R_mono HO_7.out (fun _ hk => hk.2))); (case aS => exact (below_size (by repeat (first | (with_reducible first | exact HB.out | apply zq2 | apply zq1 | apply zqd | refine zq3 ?_ GE654.out | refine zq3 ?_ GE655.out | refine zq3 ?_ GE659.out) | exact HB.out)))); (case aL => have := LMc31.out; omega); intro v663 w43 ho hb hg hat; rw [← Ny662.out] at ho; have n0_ := Az.mk (blk_grown (g := gb654) (o := .cells #[.int .i64 a1_0, .slice A1_1 l1_1.length c1_1] 57 (0, 0)) (by (with_reducible repeat (first | refine zq6 ?_ _ | refine zq8 ?_ | refine zq7 ?_ _)); exact BK654.out) hg (Kd.R_ne HO_7.out BK654.out (by decide))); have n1_ := Az.mk (blk_grown (g := gb655) (o := .cells #[.int .i64 a2_0, .slice A2_1 l2_1.length c2_1] 57 (0, 0)) (by (with_reducible repeat (first | refine zq6 ?_ _ | refine zq8 ?_ | refine zq7 ?_ _)); exact BK655.out) hg (Kd.R_ne HO_7.out BK655.out (by decide))); have n2_ := Az.mk (blk_grown (g := gb659) (o := .cells #[.int .i64 x8_1, .int .i64 x9_2] 37 (0, 0)) (by (with_reducible repeat (first | refine zq6 ?_ _ | refine zq8 ?_ | refine zq7 ?_ _)); exact BK659.out) hg (Kd.R_away HO_7.out (fun _ hk => hk.2))); have n3_ := Az.mk (hb); have n4_ := Az.mk (ho); clear BK654; clear BK655; clear BK659; clear HB; clear HO_7; have BK654 := n0_; have BK655 := n1_; have BK659 := n2_; have HB := n3_; have HO664 := n4_; clear n0_ n1_ n2_ n3_ n4_; clear ho hb hg hat))
          go_roundg k2
          case measure => have := HK1.out; have := HK2.out; omega
          case rel => exact ⟨(y662), (wrap64 (x9_2 + 1)), (by first | rfl | (simp; done) | (simp [*]; done)), H', ⟨by have := HK1.out; have := HK2.out; omega⟩, ⟨by (with_reducible repeat (first | apply Kd.R_alloc | apply Kd.R_drewN | apply Kd.R_drew)); exact Kd.R_mono HO664.out (fun _ hk => trivial)⟩, ⟨by (with_reducible repeat (first | refine zq6 ?_ _ | refine zq8 ?_ | refine zq7 ?_ _)); exact BK654.out⟩, ⟨by (with_reducible repeat (first | refine zq6 ?_ _ | refine zq8 ?_ | refine zq7 ?_ _)); exact BK655.out⟩, ⟨by repeat (first | (with_reducible first | exact HB.out | apply zq2 | apply zq1 | apply zqd | refine zq3 ?_ GE654.out | refine zq3 ?_ GE655.out | refine zq3 ?_ GE659.out) | exact HB.out)⟩⟩
         ·rw [if_neg c31] at H
          exact absurd H (by simp)
      ·rw [if_neg c9] at H
       have c9b0 : decide (x9_2 < 12) = false := decide_eq_false c9
       clear c9
       have H' := Az.mk H
       clear H
       go_wp2
       go_roundg k2
       case measure => have := HK1.out; have := HK2.out; omega
       case rel => exact ⟨(x7_2), (wrap64 (x8_1 + 1)), (by first | rfl | (simp; done) | (simp [*]; done)), H', ⟨by have := HK1.out; have := HK2.out; omega⟩, ⟨by (with_reducible repeat (first | apply Kd.R_alloc | apply Kd.R_drewN | apply Kd.R_drew)); exact HO_7.out⟩, ⟨by (with_reducible repeat (first | refine zq6 ?_ _ | refine zq8 ?_ | refine zq7 ?_ _)); exact BK654.out⟩, ⟨by (with_reducible repeat (first | refine zq6 ?_ _ | refine zq8 ?_ | refine zq7 ?_ _)); exact BK655.out⟩, ⟨by repeat (first | (with_reducible first | exact HB.out | apply zq2 | apply zq1 | apply zqd | refine zq3 ?_ GE654.out | refine zq3 ?_ GE655.out) | exact HB.out)⟩⟩
   ·rw [if_neg c8] at H
    have c8b0 : decide (x8_1 < a0) = false := decide_eq_false c8
    clear c8
    obtain rfl := Option.some.inj H
    go_wp2
    go_ret
    exact ⟨_, by first | rfl | (simp [errW_none, errW_some] <;> rfl) | (simp [*, errW_none, errW_some] <;> rfl), by (with_reducible repeat (first | apply Kd.R_alloc | apply Kd.R_drewN | apply Kd.R_drew)); exact HO_7.out, by repeat (first | (with_reducible first | exact HB.out | apply zq2 | apply zq1 | apply zqd | refine zq3 ?_ GE654.out | refine zq3 ?_ GE655.out) | exact HB.out)⟩
end Go.Proofs.Ytkoimmeghdbodaa.Print
namespace Go.Proofs.Ytkoimmeghdbodaa.Pure
open Go.RowKit Go.Lib Go.Sort Go.Proofs.Ytkoimmeghdbodaa.Print Go.Proofs.YtkoimmeghdbodaaW.PrintWords Go.Proofs.YtkoimmeghdbodaaW.PrintLast
set_option linter.unusedSimpArgs false
set_option linter.unusedVariables false
theorem used_l1 (ps : List S29) (hp : ps.length ≤ 1048576) (hF : ∀ p ∈ ps, p.f2.length ≤ 1048576) (x : S37) (i : Nat) (hi : i < ps.length) {r : Bool} (K : Ev (fun k => spec_l12Used.l0 k ps ((i + 1 : Nat) : Int) x.f0 x.f1) r) (d : Nat) :
    ∀ j : Nat, j + d = (ps.getD i z29).f2.length → Ev (fun k => spec_l12Used.l1 k ps (i : Int) (j : Int) x.f0 x.f1) ((((ps.getD i z29).f2.drop j).any fun y => decide (y = x)) || r) := by
  have e : wrap64 ((i : Int) + 1) = ((i + 1 : Nat) : Int) := by rw [wrap_ok (by omega)]; omega
  have hpi := hF _ (getD_mem (z := z29) (i := i) (l := ps) (by omega))
  induction d with
  | zero =>
    intro j hj
    refine Ev.next ?_
    simp only [spec_l12Used.l1, e, rd29n]
    clear e
    refine Ev.pos (by omega) (Ev.pos (by omega) (Ev.neg (by omega) ?_))
    rw [List.drop_of_length_le (by omega)]
    exact K
  | succ d ih =>
    intro j hj
    have e2 : wrap64 ((j : Int) + 1) = ((j + 1 : Nat) : Int) := by rw [wrap_ok (by omega)]; omega
    have hih := ih (j + 1) (by omega)
    rw [drop_getD (ps.getD i z29).f2 z37 j (by omega), List.any_cons]
    have key := eq37 ((ps.getD i z29).f2.getD j z37) x
    refine Ev.next ?_
    simp only [spec_l12Used.l1, e2, rd29n, rd37n, key]
    clear e e2 key
    refine Ev.pos (by omega) (Ev.pos (by omega) (Ev.pos (by omega) (Ev.pos (by omega) ?_)))
    by_cases c : (ps.getD i z29).f2.getD j z37 = x
    · exact Ev.pos (decide_eq_true c) (Ev.ret (by rw [decide_eq_true c]; rfl))
    · refine Ev.neg (by rw [decide_eq_true_iff]; exact c) ?_
      rw [decide_eq_false c, Bool.false_or]
      exact hih
def usedB (ps : List S29) (x : S37) : Bool := ps.any fun p => p.f2.any fun y => decide (y = x)
theorem used_l0 (ps : List S29) (hp : ps.length ≤ 1048576) (hF : ∀ p ∈ ps, p.f2.length ≤ 1048576) (x : S37) (d : Nat) :
    ∀ i : Nat, i + d = ps.length → Ev (fun k => spec_l12Used.l0 k ps (i : Int) x.f0 x.f1) (usedB (ps.drop i) x) := by
  induction d with
  | zero =>
    intro i hi
    refine Ev.next ?_
    simp only [spec_l12Used.l0]
    exact Ev.neg (by omega) (Ev.ret (by rw [List.drop_of_length_le (by omega)]; rfl))
  | succ d ih =>
    intro i hi
    have h := used_l1 ps hp hF x i (by omega) (ih (i + 1) (by omega)) _ 0 (Nat.zero_add _)
    rw [List.drop_zero] at h
    refine Ev.next ?_
    simp only [spec_l12Used.l0]
    refine Ev.pos (by omega) ?_
    unfold usedB at h ⊢
    rw [drop_getD ps z29 i (by omega), List.any_cons]
    exact h
theorem usedB_iff (ps : List S29) (x : S37) : usedB ps x = decide (x ∈ placesAll ps) := by
  rw [Bool.eq_iff_iff, decide_eq_true_iff]
  unfold usedB placesAll
  rw [List.any_eq_true, List.mem_flatMap]
  constructor
  · rintro ⟨p, hp, h⟩
    obtain ⟨y, hy, h2⟩ := List.any_eq_true.1 h
    rw [decide_eq_true_iff] at h2
    exact ⟨p, hp, by rw [← h2]; exact hy⟩
  · rintro ⟨p, hp, h⟩
    exact ⟨p, hp, List.any_eq_true.2 ⟨x, h, decide_eq_true rfl⟩⟩
theorem used_ev (tx : Int) (vs : List S65) (hl : vs.length ≤ 4) (h3 : ∀ x ∈ vs, x.f1.length = 3) (hF : FitM vs) (x : S37) : Ev (fun k => spec_l12Used.f k tx vs x.f0 x.f1) (decide (x ∈ placesAll (ptrs vs))) := by
  unfold spec_l12Used.f
  have hp := ptrs_take_len h3 vs.length (Nat.le_refl _)
  rw [List.take_length] at hp
  rw [← usedB_iff]
  exact Ev.bind (all_ev tx vs hl h3) (used_l0 (ptrs vs) (by omega) (fun p hp => by
    obtain ⟨y, hy, h⟩ := List.mem_flatMap.1 hp
    exact hF.places y hy p h) x _ 0 (Nat.zero_add _))
theorem root_shape {n tx : Int} {vs : List S65} (h : rootB n tx vs = true) : vs.length ≤ 4 ∧ ∀ x ∈ vs, x.f1.length = 3 := by
  unfold rootB at h
  simp only [Bool.and_eq_true, decide_eq_true_iff] at h
  have hg := vols_good h.2.2.2.1
  exact ⟨hg.1, hg.2.1⟩
theorem rootPl_mem {n tx : Int} {vs : List S65} (h : rootB n tx vs = true) (x : S37) : x ∈ rootPl n tx vs ↔ x ∈ placesAll (ptrs vs) := by
  unfold rootPl
  rw [if_pos h, compactPl_mem]
section
variable {n txa txb : Int} {la lb : List S65} (ea : rootB n txa la = true) (eb : rootB n txb lb = true) (hFa : FitM la) (hFb : FitM lb)
include ea eb hFa hFb
theorem free_l1 (d : Nat) (hd : d < 10) {r : List S37} (K : Ev (fun k => spec_l12Free.l0 k n (flatF (rootPl n txa la ++ rootPl n txb lb) (d + 1)) ((d + 1 : Nat) : Int) txa la txb lb) r) (q : Nat) :
    ∀ s : Nat, s + q = 12 → Ev (fun k => spec_l12Free.l1 k n (flatF (rootPl n txa la ++ rootPl n txb lb) d ++ freeP (rootPl n txa la ++ rootPl n txb lb) d s) (d : Int) (s : Int) txa la txb lb) r := by
  have e7 : wrap64 ((d : Int) + 1) = ((d + 1 : Nat) : Int) := by rw [wrap_ok (by omega)]; omega
  have sa := root_shape ea
  have sb := root_shape eb
  induction q with
  | zero =>
    intro s hs
    have hs : s = 12 := by omega
    subst hs
    refine Ev.next ?_
    simp only [spec_l12Free.l1, e7]
    clear e7
    refine Ev.neg (by omega) ?_
    rw [flatF_succ] at K
    exact K
  | succ q ih =>
    intro s hs
    have e : wrap64 ((s : Int) + 1) = ((s + 1 : Nat) : Int) := by rw [wrap_ok (by omega)]; omega
    have hih := ih (s + 1) (by omega)
    have hlen : (flatF (rootPl n txa la ++ rootPl n txb lb) d ++ freeP (rootPl n txa la ++ rootPl n txb lb) d s).length ≤ 1000 := by
      rw [List.length_append]
      have := flatF_len (rootPl n txa la ++ rootPl n txb lb) d
      have := freeP_len (rootPl n txa la ++ rootPl n txb lb) d s
      omega
    have ua := used_ev txa la sa.1 sa.2 hFa (⟨(d : Int), (s : Int)⟩ : S37)
    have ub := used_ev txb lb sb.1 sb.2 hFb (⟨(d : Int), (s : Int)⟩ : S37)
    have hm : (⟨(d : Int), (s : Int)⟩ : S37) ∈ rootPl n txa la ++ rootPl n txb lb ↔ (⟨(d : Int), (s : Int)⟩ : S37) ∈ placesAll (ptrs la) ∨ (⟨(d : Int), (s : Int)⟩ : S37) ∈ placesAll (ptrs lb) := by
      rw [List.mem_append, rootPl_mem ea, rootPl_mem eb]
    rw [freeP_succ, ← List.append_assoc] at hih
    refine Ev.next ?_
    simp only [spec_l12Free.l1, e]
    clear e e7
    refine Ev.pos (by omega) (Ev.bind ua ?_)
    by_cases c : (⟨(d : Int), (s : Int)⟩ : S37) ∈ placesAll (ptrs la)
    · refine Ev.pos (decide_eq_true c) ?_
      rw [if_pos (hm.2 (Or.inl c)), List.append_nil] at hih
      exact hih
    · refine Ev.neg (by rw [decide_eq_true_iff]; exact c) (Ev.bind ub ?_)
      by_cases c2 : (⟨(d : Int), (s : Int)⟩ : S37) ∈ placesAll (ptrs lb)
      · refine Ev.pos (decide_eq_true c2) ?_
        rw [if_pos (hm.2 (Or.inr c2)), List.append_nil] at hih
        exact hih
      · refine Ev.neg (by rw [decide_eq_true_iff]; exact c2) (Ev.pos (by omega) ?_)
        rw [if_neg (fun h => (hm.1 h).elim c c2)] at hih
        exact hih
theorem free_l0 (nn : Nat) (hn : n = (nn : Int)) (h4 : nn ≤ 4) (q : Nat) : ∀ d : Nat, d + q = nn → Ev (fun k => spec_l12Free.l0 k n (flatF (rootPl n txa la ++ rootPl n txb lb) d) (d : Int) txa la txb lb) (flatF (rootPl n txa la ++ rootPl n txb lb) nn) := by
  induction q with
  | zero =>
    intro d hd
    have hd : d = nn := by omega
    subst hd
    refine Ev.next ?_
    simp only [spec_l12Free.l0]
    exact Ev.neg (by omega) (Ev.ret rfl)
  | succ q ih =>
    intro d hd
    have h := free_l1 ea eb hFa hFb d (by omega) (ih (d + 1) (by omega)) 12 0 rfl
    have e0 : freeP (rootPl n txa la ++ rootPl n txb lb) d 0 = [] := by simp [freeP]
    rw [e0, List.append_nil] at h
    refine Ev.next ?_
    simp only [spec_l12Free.l0]
    exact Ev.pos (by omega) h
theorem free_ev : Ev (fun k => spec_l12Free.f k n txa la txb lb) (flatF (rootPl n txa la ++ rootPl n txb lb) n.toNat) := by
  have sa := rootPl_small ea
  obtain ⟨nn, hnn⟩ := Int.eq_ofNat_of_zero_le (show 0 ≤ n by omega)
  have h := free_l0 ea eb hFa hFb nn hnn (by omega) nn 0 (Nat.zero_add _)
  unfold spec_l12Free.f
  rw [show n.toNat = nn by omega]
  exact h
end
theorem spaceI_len (n txa txb : Int) (la lb : List S65) : (spaceI n txa txb la lb).length ≤ 1048576 := by
  unfold spaceI
  cases ea : rootB n txa la with
  | false => simp
  | true =>
    cases eb : rootB n txb lb with
    | false => simp
    | true =>
      have sa := rootPl_small ea
      have := flatF_len (rootPl n txa la ++ rootPl n txb lb) n.toNat
      rw [if_pos (by rfl : (true && true) = true)]
      omega
end Go.Proofs.Ytkoimmeghdbodaa.Pure
namespace Go.Proofs.Ytkoimmeghdbodaa.Print
open Go.RowKit Go.Lib Go.Maps Go.WideMaps Go.Proofs.YtkoimmeghdbodaaW.PrintWords Go.Proofs.YtkoimmeghdbodaaW.PrintLast Go.Proofs.YtkoimmeghdbodaaW.PrintMore Go.Proofs.Ytkoimmeghdbodaa.Pure
set_option linter.unusedVariables false
set_option linter.unusedSimpArgs false
theorem keepS {w w' : World} {a1 a2 a3 b1 b2 b3 : Addr} {u1 u2 u3 v1 v2 v3 : Value} (hb : Below w.heap.size w w') (h : (w.cell? a1 = some u1 ∧ w.cell? a2 = some u2 ∧ w.cell? a3 = some u3) ∧ (w.cell? b1 = some v1 ∧ w.cell? b2 = some v2 ∧ w.cell? b3 = some v3)) :
    (w'.cell? a1 = some u1 ∧ w'.cell? a2 = some u2 ∧ w'.cell? a3 = some u3) ∧ (w'.cell? b1 = some v1 ∧ w'.cell? b2 = some v2 ∧ w'.cell? b3 = some v3) := by
  have k : ∀ {a : Addr} {u : Value}, w.cell? a = some u → w'.cell? a = some u := fun h => (Below.cell hb (World.block_lt_of_cell? _ _ h)).trans h
  exact ⟨⟨k h.1.1, k h.1.2.1, k h.1.2.2⟩, k h.2.1, k h.2.2.1, k h.2.2.2⟩
def namesB (vs : List S65) : Bool := decide (∀ q, q < vs.length → nameAt vs q = true)
def ptrsB (n : Int) (ps : List S29) : Bool := decide (∀ t, t < ps.length → 0 ≤ t → ptrAt n ps t = true)
theorem namesB_no {vs : List S65} {i : Nat} (hi : i < vs.length) (h : nameAt vs i = false) : namesB vs = false := by
  unfold namesB
  rw [decide_eq_false]
  intro h2
  rw [h2 i hi] at h
  cases h
theorem ptrsB_no {n : Int} {ps : List S29} {i : Nat} (hi : i < ps.length) (h : ptrAt n ps i = false) : ptrsB n ps = false := by
  unfold ptrsB
  rw [decide_eq_false]
  intro h2
  rw [h2 i hi (Nat.zero_le _)] at h
  cases h
theorem eqStr (a b : ByteArray) : (a = b) ↔ a.toList = b.toList := by
  rw [ByteArray.toList_eq, ByteArray.toList_eq]
  constructor
  · intro h
    rw [h]
  · intro h
    exact ByteArray.ext (Array.ext' h)
set_option maxHeartbeats 16000000 in
set_option maxRecDepth 100000 in
theorem sVols_call (n tx : Int) (hn : 3 ≤ n ∧ n ≤ 4) (A0 : Option Addr) (c0 : Nat) (l0 : List S65) (w : World) (hr0 : Kd.C k65 w A0 l0.length l0) (hc0 : l0.length ≤ c0) (hF : FitM l0) (hl : l0.length ≤ 4) :
    Calls Try.prog 76 #[.int .i64 n, .agg #[.int .i64 tx, .slice A0 l0.length c0]] w fun e w' => e = .returned (.bool (namesB l0 && ptrsB n (ptrs l0))) ∧ Below w.heap.size w w' := by
  have hu57 := Try.underlying57
  have hu65 := Try.underlying65
  have hu29 := Try.underlying29
  have mixed : Try.prog.follows Departure.mixedOrders = true := by kernel_rfl
  have HB := Az.mk (Below.refl w.heap.size w)
  have HR := Az.mk hr0
  have HCC := Az.mk hc0
  have HF := Az.mk hF
  have HL := Az.mk hl
  have HN := Az.mk hn
  clear hr0 hc0 hF hl hn
  go_enter Try.func76, Try.ntmps76
  go_wp2_with (first | ((with_reducible refine zqg (N := 3) rfl ?_); refine zqb ?hg (N := 3) ?hd (cs := #[.int .i64 tx, .slice A0 l0.length c0]) (t := 57) ?hr ?_; (case hd => rfl); (case hg => rfl); (case hr => first | (go_simp; done) | (go_simp; rfl)); intro gb hg w5 hbox hb; have n0_ := Az.mk (below_step (by repeat (first | (with_reducible first | exact HB.out | apply zq2 | apply zq1 | apply zqd) | exact HB.out)) hb); have BR := Az.mk (show Blk w5 gb #[.int .i64 tx, .slice A0 l0.length c0] 57 from hbox); clear HB; have HB := n0_; clear n0_ hbox hb hg; have hcz_0 := (BR.out.cell 0).trans rfl; have hcz_1 := (BR.out.cell 1).trans rfl) | go_in)
  clear hcz_0 hcz_1
  go_loopg [5] l0.length (fun kq v5 wr => ∃ (i : Nat), v5 = .int .i64 (i : Int) ∧ Az (i + kq = l0.length) ∧ Az (∀ q, q < i → nameAt l0 q = true) ∧ Az (Blk wr gb #[.int .i64 tx, .slice A0 l0.length c0] 57) ∧ Az (Below w.heap.size w wr))
  case atStart => exact ⟨0, rfl, ⟨Nat.zero_add _⟩, ⟨fun q h => by omega⟩, BR, HB⟩
  case round =>
    obtain ⟨i, rfl, HI, HQ, BR, HB⟩ := hrel
    have hcz_0 := (BR.out.cell 0).trans rfl
    have hcz_1 := (BR.out.cell 1).trans rfl
    by_cases e1 : i < l0.length
    · have e1b : decide ((i : Int) < (l0.length : Int)) = true := decide_eq_true (by omega)
      have p1 := eq_true (show (0 : Int) ≤ (i : Int) by omega)
      have q1 := eq_true (show (i : Int) < (l0.length : Int) by omega)
      have HE1 := Az.mk e1
      obtain ⟨ad, A1, c1, eA, hx_0, hx_1, hl1, hi1⟩ := at_T65 (Kd.C_below HR.out HB.out) (i : Int) (by omega) (by omega)
      subst eA
      simp only [Int.toNat_natCast, rd_T65] at hx_0 hx_1
      obtain ⟨x, hX⟩ : ∃ x, x = l0.getD i z65 := ⟨_, rfl⟩
      rw [← hX] at hx_0 hx_1
      have HX := Az.mk hX
      obtain ⟨kn, hkn⟩ := Ev.rounds (l2Name_ev x.f0)
      have HNM := Az.mk (fun W => spec_l2Name.calls kn x.f0 (volB x.f0) W hkn)
      clear hX hl1 hi1 hkn e1
      cases hv : volB x.f0 with
      | false =>
        rw [hv] at HNM
        have HNO : Az (namesB l0 = false) := ⟨namesB_no HE1.out (by unfold nameAt; rw [← HX.out, hv]; rfl)⟩
        clear hv
        go_wp2_with (first | (go_at_call 98; refine (HNM.out _).mono ?_; rintro e w23 ⟨rfl, hd⟩; have hb := hd.below; have BR2 := Az.mk (BR.out.below hb); have HB2 := Az.mk (HB.out.trans (hb.mono HB.out.size)); clear BR HB hcz_0 hcz_1; have BR := BR2; have HB := HB2; clear BR2 HB2; have hcz_0 := (BR.out.cell 0).trans rfl; have hcz_1 := (BR.out.cell 1).trans rfl; have h0_ := (Below.cell hb (World.block_lt_of_cell? _ _ hx_0)).trans hx_0; have h1_ := (Below.cell hb (World.block_lt_of_cell? _ _ hx_1)).trans hx_1; clear hx_0 hx_1; have hx_0 := h0_; have hx_1 := h1_; clear h0_ h1_; clear hb hd) | go_in)
        go_ret
        exact ⟨by rw [HNO.out]; rfl, HB.out⟩
      | true =>
        rw [hv] at HNM
        by_cases h3 : x.f1.length = 3
        · have h3b : decide ((x.f1.length : Int) = 3) = true := decide_eq_true (by omega)
          have h3c : ((x.f1.length : Int) == 3) = true := by rw [beq_iff_eq]; omega
          have h3d : ((x.f1.length : Int) = 3) := by omega
          have HV := Az.mk hv
          have H3 := Az.mk h3
          have HWi : Az (wrap64 ((i : Int) + 1) = ((i + 1 : Nat) : Int)) := ⟨by rw [Pure.wrap_ok (by have := HL.out; have := HE1.out; omega)]; omega⟩
          obtain ⟨go, hgo⟩ : ∃ go, go = gk := ⟨_, rfl⟩
          subst hgo
          clear hv h3
          go_wp2_with (first | (go_at_call 98; refine (HNM.out _).mono ?_; rintro e w23 ⟨rfl, hd⟩; have hb := hd.below; have BR2 := Az.mk (BR.out.below hb); have HB2 := Az.mk (HB.out.trans (hb.mono HB.out.size)); clear BR HB hcz_0 hcz_1; have BR := BR2; have HB := HB2; clear BR2 HB2; have hcz_0 := (BR.out.cell 0).trans rfl; have hcz_1 := (BR.out.cell 1).trans rfl; have h0_ := (Below.cell hb (World.block_lt_of_cell? _ _ hx_0)).trans hx_0; have h1_ := (Below.cell hb (World.block_lt_of_cell? _ _ hx_1)).trans hx_1; clear hx_0 hx_1; have hx_0 := h0_; have hx_1 := h1_; clear h0_ h1_; clear hb hd) | go_in)
          clear hx_0 hx_1 h3b h3c h3d hcz_0 hcz_1
          go_loopg [6] i (fun kq v6 wr => ∃ (j : Nat), v6 = .int .i64 (j : Int) ∧ Az (j + kq = i) ∧ Az (∀ q, q < j → (l0.getD q z65).f0.toList ≠ x.f0.toList) ∧ Az (Blk wr gb #[.int .i64 tx, .slice (some ad) l0.length c0] 57) ∧ Az (Below w.heap.size w wr))
          case atStart => exact ⟨0, rfl, ⟨Nat.zero_add _⟩, ⟨fun q h => by omega⟩, BR, HB⟩
          case round =>
            obtain ⟨j, rfl, HJ, HD, BR, HB⟩ := hrel
            have hcz_0 := (BR.out.cell 0).trans rfl
            have hcz_1 := (BR.out.cell 1).trans rfl
            by_cases e2 : j < i
            · have e2b : decide ((j : Int) < (i : Int)) = true := decide_eq_true (by omega)
              have p2 := eq_true (show (0 : Int) ≤ (j : Int) by omega)
              have q2 := eq_true (show (j : Int) < (l0.length : Int) by have := HE1.out; omega)
              have HE2 := Az.mk e2
              have HWj : Az (wrap64 ((j : Int) + 1) = ((j + 1 : Nat) : Int)) := ⟨by rw [Pure.wrap_ok (by have := HL.out; have := HE1.out; omega)]; omega⟩
              obtain ⟨_, _, _, eA, hx_0, _, _, _⟩ := at_T65 (Kd.C_below HR.out HB.out) (i : Int) (by omega) (by have := HE1.out; omega)
              cases eA
              obtain ⟨_, _, _, eA, hy_0, _, _, _⟩ := at_T65 (Kd.C_below HR.out HB.out) (j : Int) (by omega) (by have := HE1.out; omega)
              cases eA
              simp only [Int.toNat_natCast, rd_T65] at hx_0 hy_0
              rw [← HX.out] at hx_0
              obtain ⟨y, hY⟩ : ∃ y, y = l0.getD j z65 := ⟨_, rfl⟩
              rw [← hY] at hy_0
              have HY := Az.mk hY
              have HDR : Az (Below wr.heap.size wr wr.drew) := ⟨(Below.refl _ _).drew⟩
              clear hY
              cases esd : (y.f0.toList == x.f0.toList) with
              | true =>
                have es := beq_iff_eq.1 esd
                have ES : y.f0 = x.f0 := (eqStr _ _).2 es
                have HNO : Az (namesB l0 = false) := ⟨namesB_no HE1.out (by
                  unfold nameAt
                  rw [← HX.out, Bool.and_eq_false_iff, Bool.and_eq_false_iff, decide_eq_false_iff_not, decide_eq_false_iff_not]
                  exact Or.inr (Or.inr fun h => h j HE2.out (by rw [← HY.out]; exact es)))⟩
                clear es ES
                go_wp2_with fail
                refine start_ (n := 13) (S := fun w' => (w'.cell? ⟨gb, 0, none⟩ = some (.int .i64 tx) ∧ w'.cell? ⟨gb, 1, none⟩ = some (.slice (some ad) l0.length c0)) ∧ w'.cell? (ad.add (i * 2)) = some (.string x.f0) ∧ w'.cell? (ad.add (j * 2)) = some (.string y.f0)) (ds := []) (bm 13 0) (by kernel_rfl) rfl rfl (⟨⟨hcz_0, hcz_1⟩, hx_0, hy_0⟩) (fun hHeld => ?_)
                refine zqp (i := 0) (N := some 40) (v := ?_) (a' := ?_) (bm 13 1) rfl rfl (by kernel_rfl) (fun _ _ _ h => h) (Or.inl ⟨by rfl, ?_⟩) ?_ ?_
                rotate_left
                · intro w'
                  go_simp
                  with_reducible rfl
                rotate_left
                · simp only [Act.put, zs1, zs2, zs3, i64_w, i32_w]
                  rfl
                refine zqp (i := 2) (N := some 42) (v := ?_) (a' := ?_) (bm 13 5) rfl rfl (by kernel_rfl) (fun _ _ _ h => h) (Or.inl ⟨by rfl, ?_⟩) ?_ ?_
                rotate_left
                · intro w'
                  go_simp
                  with_reducible rfl
                rotate_left
                · simp only [Act.put, zs1, zs2, zs3, i64_w, i32_w]
                  rfl
                refine zqp (i := 6) (N := some 46) (v := ?_) (a' := ?_) (bm 13 69) rfl rfl (by kernel_rfl) (fun _ _ _ h => h) (Or.inl ⟨by rfl, ?_⟩) ?_ ?_
                rotate_left
                · intro w'
                  go_simp
                  with_reducible rfl
                rotate_left
                · simp only [Act.put, zs1, zs2, zs3, i64_w, i32_w]
                  rfl
                refine zqp (i := 8) (N := some 48) (v := ?_) (a' := ?_) (bm 13 325) rfl rfl (by kernel_rfl) (fun _ _ _ h => h) (Or.inl ⟨by rfl, ?_⟩) ?_ ?_
                rotate_left
                · intro w'
                  go_simp
                  with_reducible rfl
                rotate_left
                · simp only [Act.put, zs1, zs2, zs3, i64_w, i32_w]
                  rfl
                refine zqt (i := 1) (N := some 41) (v := ?_) (a' := ?_) (bm 13 327) rfl rfl (by kernel_rfl) (fun _ _ _ h => h) (Or.inl ⟨by rfl, ?_⟩) hHeld ?_ ?_
                rotate_left
                · rintro w' ⟨⟨s0, s1⟩, s2, s3⟩
                  go_simp
                  with_reducible rfl
                rotate_left
                · simp only [Act.put, zs1, zs2, zs3, i64_w, i32_w]
                  rfl
                refine zqp (i := 3) (N := some 43) (v := ?_) (a' := ?_) (bm 13 335) rfl rfl (by kernel_rfl) (fun _ _ _ h => h) (Or.inl ⟨by rfl, ?_⟩) ?_ ?_
                rotate_left
                · intro w'
                  go_simp
                  with_reducible rfl
                rotate_left
                · simp only [Act.put, zs1, zs2, zs3, i64_w, i32_w]
                  rfl
                refine zqp (i := 4) (N := some 44) (v := ?_) (a' := ?_) (bm 13 351) rfl rfl (by kernel_rfl) (fun _ _ _ h => h) (Or.inl ⟨by rfl, ?_⟩) ?_ ?_
                rotate_left
                · intro w'
                  go_simp
                  with_reducible rfl
                rotate_left
                · simp only [Act.put, zs1, zs2, zs3, i64_w, i32_w]
                  rfl
                refine zqt (i := 5) (N := some 45) (v := ?_) (a' := ?_) (bm 13 383) rfl rfl (by kernel_rfl) (fun _ _ _ h => h) (Or.inl ⟨by rfl, ?_⟩) hHeld ?_ ?_
                rotate_left
                · rintro w' ⟨⟨s0, s1⟩, s2, s3⟩
                  go_simp
                  with_reducible rfl
                rotate_left
                · simp only [Act.put, zs1, zs2, zs3, i64_w, i32_w]
                  rfl
                refine zqt (i := 7) (N := some 47) (v := ?_) (a' := ?_) (bm 13 511) rfl rfl (by kernel_rfl) (fun _ _ _ h => h) (Or.inl ⟨by rfl, ?_⟩) hHeld ?_ ?_
                rotate_left
                · rintro w' ⟨⟨s0, s1⟩, s2, s3⟩
                  go_simp
                  with_reducible rfl
                rotate_left
                · simp only [Act.put, zs1, zs2, zs3, i64_w, i32_w]
                  rfl
                refine zqp (i := 9) (N := some 49) (v := ?_) (a' := ?_) (bm 13 1023) rfl rfl (by kernel_rfl) (fun _ _ _ h => h) (Or.inl ⟨by rfl, ?_⟩) ?_ ?_
                rotate_left
                · intro w'
                  go_simp
                  with_reducible rfl
                rotate_left
                · simp only [Act.put, zs1, zs2, zs3, i64_w, i32_w]
                  rfl
                refine zqp (i := 10) (N := some 50) (v := ?_) (a' := ?_) (bm 13 2047) rfl rfl (by kernel_rfl) (fun _ _ _ h => h) (Or.inl ⟨by rfl, ?_⟩) ?_ ?_
                rotate_left
                · intro w'
                  go_simp
                  with_reducible rfl
                rotate_left
                · simp only [Act.put, zs1, zs2, zs3, i64_w, i32_w]
                  rfl
                refine zqt (i := 11) (N := some 51) (v := ?_) (a' := ?_) (bm 13 4095) rfl rfl (by kernel_rfl) (fun _ _ _ h => h) (Or.inl ⟨by rfl, ?_⟩) hHeld ?_ ?_
                rotate_left
                · rintro w' ⟨⟨s0, s1⟩, s2, s3⟩
                  go_simp
                  with_reducible rfl
                rotate_left
                · simp only [Act.put, zs1, zs2, zs3, i64_w, i32_w]
                  rfl
                refine zqp (i := 12) (N := some 52) (v := ?_) (a' := ?_) (bm 13 8191) rfl rfl (by kernel_rfl) (fun _ _ _ h => h) (Or.inl ⟨by rfl, ?_⟩) ?_ ?_
                rotate_left
                · intro w'
                  go_simp
                  with_reducible rfl
                rotate_left
                · simp only [Act.put, zs1, zs2, zs3, i64_w, i32_w]
                  rfl
                refine done_ (by kernel_rfl) ?_
                go_wp2
                go_ret
                exact ⟨by rw [HNO.out]; rfl, HB.out.trans (HDR.out.mono HB.out.size)⟩
              | false =>
                have HES := Az.mk (beq_eq_false_iff_ne.1 esd)
                go_wp2_with fail
                refine start_ (n := 13) (S := fun w' => (w'.cell? ⟨gb, 0, none⟩ = some (.int .i64 tx) ∧ w'.cell? ⟨gb, 1, none⟩ = some (.slice (some ad) l0.length c0)) ∧ w'.cell? (ad.add (i * 2)) = some (.string x.f0) ∧ w'.cell? (ad.add (j * 2)) = some (.string y.f0)) (ds := []) (bm 13 0) (by kernel_rfl) rfl rfl (⟨⟨hcz_0, hcz_1⟩, hx_0, hy_0⟩) (fun hHeld => ?_)
                refine zqp (i := 0) (N := some 40) (v := ?_) (a' := ?_) (bm 13 1) rfl rfl (by kernel_rfl) (fun _ _ _ h => h) (Or.inl ⟨by rfl, ?_⟩) ?_ ?_
                rotate_left
                · intro w'
                  go_simp
                  with_reducible rfl
                rotate_left
                · simp only [Act.put, zs1, zs2, zs3, i64_w, i32_w]
                  rfl
                refine zqp (i := 2) (N := some 42) (v := ?_) (a' := ?_) (bm 13 5) rfl rfl (by kernel_rfl) (fun _ _ _ h => h) (Or.inl ⟨by rfl, ?_⟩) ?_ ?_
                rotate_left
                · intro w'
                  go_simp
                  with_reducible rfl
                rotate_left
                · simp only [Act.put, zs1, zs2, zs3, i64_w, i32_w]
                  rfl
                refine zqp (i := 6) (N := some 46) (v := ?_) (a' := ?_) (bm 13 69) rfl rfl (by kernel_rfl) (fun _ _ _ h => h) (Or.inl ⟨by rfl, ?_⟩) ?_ ?_
                rotate_left
                · intro w'
                  go_simp
                  with_reducible rfl
                rotate_left
                · simp only [Act.put, zs1, zs2, zs3, i64_w, i32_w]
                  rfl
                refine zqp (i := 8) (N := some 48) (v := ?_) (a' := ?_) (bm 13 325) rfl rfl (by kernel_rfl) (fun _ _ _ h => h) (Or.inl ⟨by rfl, ?_⟩) ?_ ?_
                rotate_left
                · intro w'
                  go_simp
                  with_reducible rfl
                rotate_left
                · simp only [Act.put, zs1, zs2, zs3, i64_w, i32_w]
                  rfl
                refine zqt (i := 1) (N := some 41) (v := ?_) (a' := ?_) (bm 13 327) rfl rfl (by kernel_rfl) (fun _ _ _ h => h) (Or.inl ⟨by rfl, ?_⟩) hHeld ?_ ?_
                rotate_left
                · rintro w' ⟨⟨s0, s1⟩, s2, s3⟩
                  go_simp
                  with_reducible rfl
                rotate_left
                · simp only [Act.put, zs1, zs2, zs3, i64_w, i32_w]
                  rfl
                refine zqp (i := 3) (N := some 43) (v := ?_) (a' := ?_) (bm 13 335) rfl rfl (by kernel_rfl) (fun _ _ _ h => h) (Or.inl ⟨by rfl, ?_⟩) ?_ ?_
                rotate_left
                · intro w'
                  go_simp
                  with_reducible rfl
                rotate_left
                · simp only [Act.put, zs1, zs2, zs3, i64_w, i32_w]
                  rfl
                refine zqp (i := 4) (N := some 44) (v := ?_) (a' := ?_) (bm 13 351) rfl rfl (by kernel_rfl) (fun _ _ _ h => h) (Or.inl ⟨by rfl, ?_⟩) ?_ ?_
                rotate_left
                · intro w'
                  go_simp
                  with_reducible rfl
                rotate_left
                · simp only [Act.put, zs1, zs2, zs3, i64_w, i32_w]
                  rfl
                refine zqt (i := 5) (N := some 45) (v := ?_) (a' := ?_) (bm 13 383) rfl rfl (by kernel_rfl) (fun _ _ _ h => h) (Or.inl ⟨by rfl, ?_⟩) hHeld ?_ ?_
                rotate_left
                · rintro w' ⟨⟨s0, s1⟩, s2, s3⟩
                  go_simp
                  with_reducible rfl
                rotate_left
                · simp only [Act.put, zs1, zs2, zs3, i64_w, i32_w]
                  rfl
                refine zqt (i := 7) (N := some 47) (v := ?_) (a' := ?_) (bm 13 511) rfl rfl (by kernel_rfl) (fun _ _ _ h => h) (Or.inl ⟨by rfl, ?_⟩) hHeld ?_ ?_
                rotate_left
                · rintro w' ⟨⟨s0, s1⟩, s2, s3⟩
                  go_simp
                  with_reducible rfl
                rotate_left
                · simp only [Act.put, zs1, zs2, zs3, i64_w, i32_w]
                  rfl
                refine zqp (i := 9) (N := some 49) (v := ?_) (a' := ?_) (bm 13 1023) rfl rfl (by kernel_rfl) (fun _ _ _ h => h) (Or.inl ⟨by rfl, ?_⟩) ?_ ?_
                rotate_left
                · intro w'
                  go_simp
                  with_reducible rfl
                rotate_left
                · simp only [Act.put, zs1, zs2, zs3, i64_w, i32_w]
                  rfl
                refine zqp (i := 10) (N := some 50) (v := ?_) (a' := ?_) (bm 13 2047) rfl rfl (by kernel_rfl) (fun _ _ _ h => h) (Or.inl ⟨by rfl, ?_⟩) ?_ ?_
                rotate_left
                · intro w'
                  go_simp
                  with_reducible rfl
                rotate_left
                · simp only [Act.put, zs1, zs2, zs3, i64_w, i32_w]
                  rfl
                refine zqt (i := 11) (N := some 51) (v := ?_) (a' := ?_) (bm 13 4095) rfl rfl (by kernel_rfl) (fun _ _ _ h => h) (Or.inl ⟨by rfl, ?_⟩) hHeld ?_ ?_
                rotate_left
                · rintro w' ⟨⟨s0, s1⟩, s2, s3⟩
                  go_simp
                  with_reducible rfl
                rotate_left
                · simp only [Act.put, zs1, zs2, zs3, i64_w, i32_w]
                  rfl
                refine zqp (i := 12) (N := some 52) (v := ?_) (a' := ?_) (bm 13 8191) rfl rfl (by kernel_rfl) (fun _ _ _ h => h) (Or.inl ⟨by rfl, ?_⟩) ?_ ?_
                rotate_left
                · intro w'
                  go_simp
                  with_reducible rfl
                rotate_left
                · simp only [Act.put, zs1, zs2, zs3, i64_w, i32_w]
                  rfl
                refine done_ (by kernel_rfl) ?_
                go_wp2
                go_roundg (i - (j + 1))
                case measure => have := HJ.out; have := HE2.out; omega
                case rel => exact ⟨j + 1, by rw [← HWj.out], ⟨by have := HE2.out; omega⟩, ⟨fun q hq => by
                    by_cases e : q = j
                    · rw [e, ← HY.out]; exact HES.out
                    · exact HD.out q (by omega)⟩, ⟨BR.out.below HDR.out⟩, ⟨HB.out.trans (HDR.out.mono HB.out.size)⟩⟩
            · have e2b : decide ((j : Int) < (i : Int)) = false := decide_eq_false (by omega)
              have hj : j = i := by have := HJ.out; omega
              have HOK : Az (nameAt l0 i = true) := ⟨by
                unfold nameAt
                rw [← HX.out, HV.out, decide_eq_true H3.out, decide_eq_true (fun q hq => HD.out q (by omega))]
                rfl⟩
              clear hj
              go_wp2
              go_roundg (l0.length - (i + 1))
              case measure => have := HI.out; have := HE1.out; omega
              case rel => exact ⟨i + 1, by rw [← HWi.out], ⟨by have := HE1.out; omega⟩, ⟨fun q hq => by
                  by_cases e : q = i
                  · rw [e]; exact HOK.out
                  · exact HQ.out q (by omega)⟩, BR, HB⟩
        · have h3b : decide ((x.f1.length : Int) = 3) = false := decide_eq_false (by omega)
          have h3c : ((x.f1.length : Int) == 3) = false := by rw [beq_eq_false_iff_ne]; omega
          have h3d : ¬ ((x.f1.length : Int) = 3) := by omega
          have HNO : Az (namesB l0 = false) := ⟨namesB_no HE1.out (by
            unfold nameAt
            rw [← HX.out, decide_eq_false h3, Bool.false_and, Bool.and_false])⟩
          clear hv h3
          go_wp2_with (first | (go_at_call 98; refine (HNM.out _).mono ?_; rintro e w23 ⟨rfl, hd⟩; have hb := hd.below; have BR2 := Az.mk (BR.out.below hb); have HB2 := Az.mk (HB.out.trans (hb.mono HB.out.size)); clear BR HB hcz_0 hcz_1; have BR := BR2; have HB := HB2; clear BR2 HB2; have hcz_0 := (BR.out.cell 0).trans rfl; have hcz_1 := (BR.out.cell 1).trans rfl; have h0_ := (Below.cell hb (World.block_lt_of_cell? _ _ hx_0)).trans hx_0; have h1_ := (Below.cell hb (World.block_lt_of_cell? _ _ hx_1)).trans hx_1; clear hx_0 hx_1; have hx_0 := h0_; have hx_1 := h1_; clear h0_ h1_; clear hb hd) | go_in)
          go_ret
          exact ⟨by rw [HNO.out]; rfl, HB.out⟩
    · have e1b : decide ((i : Int) < (l0.length : Int)) = false := decide_eq_false (by omega)
      have hi : i = l0.length := by have := HI.out; omega
      have hnm : namesB l0 = true := decide_eq_true (by rw [← hi]; exact HQ.out)
      have HNM := Az.mk hnm
      have hnn : ∀ x ∈ l0, x.f1.length = 3 := fun x hx => by
        obtain ⟨q, hq, rfl⟩ := List.getElem_of_mem hx
        have := HQ.out q (by omega)
        unfold nameAt at this
        rw [Bool.and_eq_true, Bool.and_eq_true, decide_eq_true_iff] at this
        simpa [List.getD, hq] using this.2.1
      obtain ⟨ka, hka⟩ := Ev.rounds (all_ev tx l0 HL.out hnn)
      have HPT := Az.mk (fun (W : World) (hb : Below w.heap.size w W) => spec_l2All.calls ka tx (fun k_ => k_ < w.heap.size) A0 c0 l0 (ptrs l0) W (Kd.V_mk HCC.out (Kd.F_below (Kd.C_F k65_heap HR.out) hb)) hka)
      have hpn : (ptrs l0).length ≤ 12 := by
        have := ptrs_take_len hnn l0.length (Nat.le_refl _)
        rw [List.take_length] at this
        have := HL.out
        omega
      have hpF : ∀ p ∈ ptrs l0, p.f2.length ≤ 1048576 := fun p hp => by
        obtain ⟨x, hx, h⟩ := List.mem_flatMap.1 hp
        exact HF.out.places x hx p h
      have HNMT : Az (∀ b, (namesB l0 && b) = b) := ⟨fun b => by rw [HNM.out]; rfl⟩
      obtain ⟨res, hres⟩ : ∃ r, r = (namesB l0 && ptrsB n (ptrs l0)) := ⟨_, rfl⟩
      have HRES : Az ((namesB l0 && ptrsB n (ptrs l0)) = ptrsB n (ptrs l0)) := ⟨HNMT.out _⟩
      obtain ⟨ps, hps⟩ : ∃ ps, ps = ptrs l0 := ⟨_, rfl⟩
      rw [← hps] at HPT hpn hpF HRES
      have HPLN := Az.mk hpn
      have HPF := Az.mk hpF
      have HPS := Az.mk hps
      clear hi hnm hnn hka hpn hpF hres hps HQ
      go_wp2_with (first | (go_at_call 86; refine (HPT.out _ HB.out).mono ?_; rintro e w54 ⟨v, rfl, hN, hb⟩; obtain ⟨A1, c1, rfl, hl1, hC1⟩ := Kd.N_reads hN; have HC1 := Az.mk hC1; have HB2 := Az.mk (HB.out.trans (hb.mono HB.out.size)); clear HB hcz_0 hcz_1 BR hN hl1 hC1 hb; have HBW := HB2; clear HB2) | go_in)
      go_loopg [8] ps.length (fun kq v8 wr => ∃ (i : Nat), v8 = .int .i64 (i : Int) ∧ Az (i + kq = ps.length) ∧ Az (∀ t, t < i → ptrAt n ps t = true) ∧ Az (Below w54.heap.size w54 wr))
      case atStart => exact ⟨0, rfl, ⟨Nat.zero_add _⟩, ⟨fun q h => by omega⟩, ⟨Below.refl _ _⟩⟩
      case round =>
        obtain ⟨i, rfl, HI, HQ, HB⟩ := hrel
        by_cases e1 : i < ps.length
        · have e1b : decide ((i : Int) < (ps.length : Int)) = true := decide_eq_true (by omega)
          have p1 := eq_true (show (0 : Int) ≤ (i : Int) by omega)
          have q1 := eq_true (show (i : Int) < (ps.length : Int) by omega)
          have HE1 := Az.mk e1
          have HWi : Az (wrap64 ((i : Int) + 1) = ((i + 1 : Nat) : Int)) := ⟨by rw [Pure.wrap_ok (by have := HPLN.out; omega)]; omega⟩
          obtain ⟨ad, A2, c2, eA, hx_0, hx_1, hx_2, hl2, hC2⟩ := at_T29 (Kd.C_below HC1.out HB.out) (i : Int) (by omega) (by omega)
          subst eA
          simp only [Int.toNat_natCast, rd_T29] at hx_0 hx_1 hx_2 hl2 hC2
          have hpi := HPF.out _ (getD_mem (z := z29) e1)
          obtain ⟨p, hP⟩ : ∃ p, p = ps.getD i z29 := ⟨_, rfl⟩
          rw [← hP] at hx_0 hx_1 hx_2 hl2 hC2 hpi
          have HP := Az.mk hP
          have hq := spec_l2Ptr_ev HN.out p.f0 p.f1 p.f2 (by omega)
          have ec : @decide (PtrGood n p.f0 p.f1 p.f2) (Classical.propDecidable _) = decide (PtrGood n p.f0 p.f1 p.f2) := decide_eq_decide.2 Iff.rfl
          rw [ec] at hq
          obtain ⟨kp, hkp⟩ := Ev.rounds hq
          have HL2 := Az.mk hl2
          have HC2 := Az.mk hC2
          have hBI := HB.out
          obtain ⟨wi, hwi⟩ : ∃ wi, wi = wr := ⟨_, rfl⟩
          rw [← hwi] at HC2 hBI
          have HBI : Az (∀ W, Below wr.heap.size wr W → Kd.C k37 W A2 p.f2.length p.f2) := ⟨fun W hb => Kd.C_below hC2 hb⟩
          have HPK := Az.mk (fun (W : World) (hb : Below w54.heap.size w54 W) (hC : Kd.C k37 W A2 p.f2.length p.f2) => spec_l2Ptr.calls kp n p.f0 p.f1 A2 c2 p.f2 _ W hC hl2 hkp)
          have HPI := Az.mk hpi
          clear hP hl2 hq ec hkp hBI hwi hpi
          by_cases hg : PtrGood n p.f0 p.f1 p.f2
          · rw [decide_eq_true hg] at HPK
            have HGC : Az (ptrC n p = true) := ⟨decide_eq_true ⟨HN.out, hg⟩⟩
            obtain ⟨go, hgo⟩ : ∃ go, go = gk := ⟨_, rfl⟩
            subst hgo
            clear hg
            go_wp2_with (first | (go_at_call 54; refine (HPK.out _ HB.out (HBI.out _ (Below.refl _ _))).mono ?_; rintro e w66 ⟨rfl, hb⟩; have HB2 := Az.mk (HB.out.trans (hb.mono HB.out.size)); clear HB hb; have HB := HB2; clear HB2) | go_in)
            clear hx_0 hx_1 hx_2 hC2 HBI
            go_loopg [9] i (fun kq v9 wr => ∃ (j : Nat), v9 = .int .i64 (j : Int) ∧ Az (j + kq = i) ∧ Az (∀ t, t < j → pairB p (ps.getD t z29) = true) ∧ Az (Below w54.heap.size w54 wr))
            case atStart => exact ⟨0, rfl, ⟨Nat.zero_add _⟩, ⟨fun q h => by omega⟩, HB⟩
            case round =>
              obtain ⟨j, rfl, HJ, HD, HB⟩ := hrel
              by_cases e2 : j < i
              · have e2b : decide ((j : Int) < (i : Int)) = true := decide_eq_true (by omega)
                have p2 := eq_true (show (0 : Int) ≤ (j : Int) by omega)
                have q2 := eq_true (show (j : Int) < (ps.length : Int) by have := HE1.out; omega)
                have HE2 := Az.mk e2
                have HWj : Az (wrap64 ((j : Int) + 1) = ((j + 1 : Nat) : Int)) := ⟨by rw [Pure.wrap_ok (by have := HPLN.out; have := HE1.out; omega)]; omega⟩
                obtain ⟨_, A2, c2, eA, hx_0, hx_1, hx_2, hl2, hC2⟩ := at_T29 (Kd.C_below HC1.out HB.out) (i : Int) (by omega) (by have := HE1.out; omega)
                cases eA
                obtain ⟨_, B2, d2, eA, hy_0, hy_1, hy_2, hm2, hD2⟩ := at_T29 (Kd.C_below HC1.out HB.out) (j : Int) (by omega) (by have := HE1.out; omega)
                cases eA
                simp only [Int.toNat_natCast, rd_T29] at hx_0 hx_1 hx_2 hl2 hC2 hy_0 hy_1 hy_2 hm2 hD2
                rw [← HP.out] at hx_0 hx_1 hx_2 hl2 hC2
                have hpj := HPF.out _ (getD_mem (z := z29) (i := j) (l := ps) (by have := HE1.out; omega))
                obtain ⟨q, hQ⟩ : ∃ q, q = ps.getD j z29 := ⟨_, rfl⟩
                rw [← hQ] at hy_0 hy_1 hy_2 hm2 hD2 hpj
                have HQ2 := Az.mk hQ
                obtain ⟨km, hkm⟩ := Ev.rounds (meet_ev p q HPI.out hpj)
                obtain ⟨ks, hks⟩ := Ev.rounds (specSame_ev p q HPI.out)
                have HME : Az (∀ W, Below wr.heap.size wr W → Calls Try.prog 87 #[.agg #[.int .i64 p.f0, .int .i64 p.f1, .slice A2 p.f2.length c2], .agg #[.int .i64 q.f0, .int .i64 q.f1, .slice B2 q.f2.length d2]] W fun e w' => e = .returned (.bool (meetB p.f2 q.f2)) ∧ Below W.heap.size W w') := ⟨fun W hb => spec_l2Meet.calls km p.f0 p.f1 A2 c2 p.f2 q.f0 q.f1 B2 d2 q.f2 _ W (Kd.C_below hC2 hb) hl2 (Kd.C_below hD2 hb) hm2 hkm⟩
                have HSA : Az (∀ W, Below wr.heap.size wr W → Calls Try.prog 99 #[.agg #[.int .i64 p.f0, .int .i64 p.f1, .slice A2 p.f2.length c2], .agg #[.int .i64 q.f0, .int .i64 q.f1, .slice B2 q.f2.length d2]] W fun e w' => e = .returned (.bool (sameB p q)) ∧ Below W.heap.size W w') := ⟨fun W hb => spec_l2Same.calls ks p.f0 p.f1 A2 c2 p.f2 q.f0 q.f1 B2 d2 q.f2 _ W (Kd.C_below hC2 hb) hl2 (Kd.C_below hD2 hb) hm2 hks⟩
                have HB0 := Az.mk HB.out
                obtain ⟨w0, hw0⟩ : ∃ w0, w0 = wr := ⟨_, rfl⟩
                have HBZ : Az (Below w54.heap.size w54 wr) := HB
                clear HB
                have HB := Az.mk (Below.refl wr.heap.size wr)
                clear hQ hkm hks hl2 hC2 hm2 hD2 hpj hw0 HB0
                cases hme : meetB p.f2 q.f2 with
                | false =>
                  rw [hme] at HME
                  have HPB : Az (pairB p q = true) := ⟨by unfold pairB; rw [hme]; rfl⟩
                  clear hme
                  go_wp2_with fail
                  refine start_ (n := 21) (S := fun w' => (w'.cell? (ad.add (i * 3)) = some (.int .i64 p.f0) ∧ w'.cell? ⟨(ad.add (i * 3)).block, (ad.add (i * 3)).off + 1, none⟩ = some (.int .i64 p.f1) ∧ w'.cell? ⟨(ad.add (i * 3)).block, (ad.add (i * 3)).off + 2, none⟩ = some (.slice A2 p.f2.length c2)) ∧ (w'.cell? (ad.add (j * 3)) = some (.int .i64 q.f0) ∧ w'.cell? ⟨(ad.add (j * 3)).block, (ad.add (j * 3)).off + 1, none⟩ = some (.int .i64 q.f1) ∧ w'.cell? ⟨(ad.add (j * 3)).block, (ad.add (j * 3)).off + 2, none⟩ = some (.slice B2 q.f2.length d2))) (ds := []) (bm 21 0) (by kernel_rfl) rfl rfl (⟨⟨hx_0, hx_1, hx_2⟩, hy_0, hy_1, hy_2⟩) (fun hHeld => ?_)
                  have HB2 := Az.mk (HB.out.drew)
                  clear HB
                  have HB := HB2
                  clear HB2
                  generalize wr.drew = wd at HB hHeld ⊢
                  refine zqp (i := 0) (N := some 73) (v := ?_) (a' := ?_) (bm 21 1) rfl rfl (by kernel_rfl) (fun _ _ _ h => h) (Or.inl ⟨by rfl, ?_⟩) ?_ ?_
                  rotate_left
                  · intro w'
                    go_simp
                    with_reducible rfl
                  rotate_left
                  · simp only [Act.put, zs1, zs2, zs3, i64_w, i32_w]
                    rfl
                  refine zqp (i := 1) (N := some 74) (v := ?_) (a' := ?_) (bm 21 3) rfl rfl (by kernel_rfl) (fun _ _ _ h => h) (Or.inl ⟨by rfl, ?_⟩) ?_ ?_
                  rotate_left
                  · intro w'
                    go_simp
                    with_reducible rfl
                  rotate_left
                  · simp only [Act.put, zs1, zs2, zs3, i64_w, i32_w]
                    rfl
                  refine zqp (i := 2) (N := some 75) (v := ?_) (a' := ?_) (bm 21 7) rfl rfl (by kernel_rfl) (fun _ _ _ h => h) (Or.inl ⟨by rfl, ?_⟩) ?_ ?_
                  rotate_left
                  · intro w'
                    go_simp
                    with_reducible rfl
                  rotate_left
                  · simp only [Act.put, zs1, zs2, zs3, i64_w, i32_w]
                    rfl
                  refine zqp (i := 4) (N := some 77) (v := ?_) (a' := ?_) (bm 21 23) rfl rfl (by kernel_rfl) (fun _ _ _ h => h) (Or.inl ⟨by rfl, ?_⟩) ?_ ?_
                  rotate_left
                  · intro w'
                    go_simp
                    with_reducible rfl
                  rotate_left
                  · simp only [Act.put, zs1, zs2, zs3, i64_w, i32_w]
                    rfl
                  refine zqp (i := 5) (N := some 78) (v := ?_) (a' := ?_) (bm 21 55) rfl rfl (by kernel_rfl) (fun _ _ _ h => h) (Or.inl ⟨by rfl, ?_⟩) ?_ ?_
                  rotate_left
                  · intro w'
                    go_simp
                    with_reducible rfl
                  rotate_left
                  · simp only [Act.put, zs1, zs2, zs3, i64_w, i32_w]
                    rfl
                  refine zqp (i := 6) (N := some 79) (v := ?_) (a' := ?_) (bm 21 119) rfl rfl (by kernel_rfl) (fun _ _ _ h => h) (Or.inl ⟨by rfl, ?_⟩) ?_ ?_
                  rotate_left
                  · intro w'
                    go_simp
                    with_reducible rfl
                  rotate_left
                  · simp only [Act.put, zs1, zs2, zs3, i64_w, i32_w]
                    rfl
                  refine zqt (i := 3) (N := some 76) (v := ?_) (a' := ?_) (bm 21 127) rfl rfl (by kernel_rfl) (fun _ _ _ h => h) (Or.inl ⟨by rfl, ?_⟩) hHeld ?_ ?_
                  rotate_left
                  · rintro w' ⟨⟨s0, s1, s2⟩, s3, s4, s5⟩
                    go_simp
                    with_reducible rfl
                  rotate_left
                  · simp only [Act.put, zs1, zs2, zs3, i64_w, i32_w]
                    rfl
                  refine zqt (i := 7) (N := some 80) (v := ?_) (a' := ?_) (bm 21 255) rfl rfl (by kernel_rfl) (fun _ _ _ h => h) (Or.inl ⟨by rfl, ?_⟩) hHeld ?_ ?_
                  rotate_left
                  · rintro w' ⟨⟨s0, s1, s2⟩, s3, s4, s5⟩
                    go_simp
                    with_reducible rfl
                  rotate_left
                  · simp only [Act.put, zs1, zs2, zs3, i64_w, i32_w]
                    rfl
                  refine one_ (i := 8) (N := some 81) (bm 21 511) rfl rfl (by kernel_rfl) (by decide) (fun K hK => ?_)
                  refine goes_ Try.func87 (by kernel_rfl) rfl #[.agg #[.int .i64 p.f0, .int .i64 p.f1, .slice A2 p.f2.length c2], .agg #[.int .i64 q.f0, .int .i64 q.f1, .slice B2 q.f2.length d2]] (by rfl) rfl rfl (by (try simp only [List.map_toArray, List.map_cons, List.map_nil]); first | done | rfl) ?_
                  refine (HME.out _ HB.out).mono ?_
                  rintro e w81 ⟨rfl, hb⟩
                  refine ⟨_, rfl, ?_⟩
                  have HS2 := keepS hb hHeld
                  have HB2 := Az.mk (HB.out.trans (hb.mono HB.out.size))
                  clear HB
                  have HB := HB2
                  clear HB2
                  refine hK.out _ _ HS2 (fun hHeld => ?_)
                  clear HS2
                  clear hK K
                  refine norm_ (a' := ?_) ?_ ?_
                  rotate_left
                  · show Act.put _ (some 81) _ = _
                    simp only [Act.put, zs1, zs2, zs3, i64_w, i32_w]
                    rfl
                  refine zqp (i := 9) (N := some 82) (v := ?_) (a' := ?_) (bm 21 1023) rfl rfl (by kernel_rfl) (fun _ _ _ h => h) (Or.inl ⟨by rfl, ?_⟩) ?_ ?_
                  rotate_left
                  · intro w'
                    go_simp
                    with_reducible rfl
                  rotate_left
                  · simp only [Act.put, zs1, zs2, zs3, i64_w, i32_w]
                    rfl
                  refine zqp (i := 10) (N := some 83) (v := undef) (a' := ?_) (bm 21 2047) rfl rfl (by kernel_rfl) (fun _ _ _ h => h) (Or.inr ⟨by rfl, rfl⟩) ?_ ?_
                  rotate_left
                  · simp only [Act.put, zs1, zs2, zs3, i64_w, i32_w]
                    rfl
                  refine zqp (i := 11) (N := some 84) (v := undef) (a' := ?_) (bm 21 4095) rfl rfl (by kernel_rfl) (fun _ _ _ h => h) (Or.inr ⟨by rfl, rfl⟩) ?_ ?_
                  rotate_left
                  · simp only [Act.put, zs1, zs2, zs3, i64_w, i32_w]
                    rfl
                  refine zqp (i := 12) (N := some 85) (v := undef) (a' := ?_) (bm 21 8191) rfl rfl (by kernel_rfl) (fun _ _ _ h => h) (Or.inr ⟨by rfl, rfl⟩) ?_ ?_
                  rotate_left
                  · simp only [Act.put, zs1, zs2, zs3, i64_w, i32_w]
                    rfl
                  refine zqp (i := 13) (N := some 86) (v := undef) (a' := ?_) (bm 21 16383) rfl rfl (by kernel_rfl) (fun _ _ _ h => h) (Or.inr ⟨by rfl, rfl⟩) ?_ ?_
                  rotate_left
                  · simp only [Act.put, zs1, zs2, zs3, i64_w, i32_w]
                    rfl
                  refine zqp (i := 14) (N := some 87) (v := undef) (a' := ?_) (bm 21 32767) rfl rfl (by kernel_rfl) (fun _ _ _ h => h) (Or.inr ⟨by rfl, rfl⟩) ?_ ?_
                  rotate_left
                  · simp only [Act.put, zs1, zs2, zs3, i64_w, i32_w]
                    rfl
                  refine zqp (i := 15) (N := some 88) (v := undef) (a' := ?_) (bm 21 65535) rfl rfl (by kernel_rfl) (fun _ _ _ h => h) (Or.inr ⟨by rfl, rfl⟩) ?_ ?_
                  rotate_left
                  · simp only [Act.put, zs1, zs2, zs3, i64_w, i32_w]
                    rfl
                  refine zqp (i := 16) (N := some 89) (v := undef) (a' := ?_) (bm 21 131071) rfl rfl (by kernel_rfl) (fun _ _ _ h => h) (Or.inr ⟨by rfl, rfl⟩) ?_ ?_
                  rotate_left
                  · simp only [Act.put, zs1, zs2, zs3, i64_w, i32_w]
                    rfl
                  refine zqp (i := 17) (N := some 90) (v := undef) (a' := ?_) (bm 21 262143) rfl rfl (by kernel_rfl) (fun _ _ _ h => h) (Or.inr ⟨by rfl, rfl⟩) ?_ ?_
                  rotate_left
                  · simp only [Act.put, zs1, zs2, zs3, i64_w, i32_w]
                    rfl
                  refine zqp (i := 18) (N := some 91) (v := undef) (a' := ?_) (bm 21 524287) rfl rfl (by kernel_rfl) (fun _ _ _ h => h) (Or.inr ⟨by rfl, rfl⟩) ?_ ?_
                  rotate_left
                  · simp only [Act.put, zs1, zs2, zs3, i64_w, i32_w]
                    rfl
                  refine zqp (i := 19) (N := some 92) (v := undef) (a' := ?_) (bm 21 1048575) rfl rfl (by kernel_rfl) (fun _ _ _ h => h) (Or.inr ⟨by rfl, rfl⟩) ?_ ?_
                  rotate_left
                  · simp only [Act.put, zs1, zs2, zs3, i64_w, i32_w]
                    rfl
                  refine zqp (i := 20) (N := some 93) (v := ?_) (a' := ?_) (bm 21 2097151) rfl rfl (by kernel_rfl) (fun _ _ _ h => h) (Or.inl ⟨by rfl, ?_⟩) ?_ ?_
                  rotate_left
                  · intro w'
                    go_simp
                    with_reducible rfl
                  rotate_left
                  · simp only [Act.put, zs1, zs2, zs3, i64_w, i32_w]
                    rfl
                  refine done_ (by kernel_rfl) ?_
                  have HB2 := Az.mk (HBZ.out.trans (HB.out.mono HBZ.out.size))
                  clear HB
                  have HB := HB2
                  go_wp2
                  go_roundg (i - (j + 1))
                  case measure => have := HJ.out; have := HE2.out; omega
                  case rel => exact ⟨j + 1, by rw [← HWj.out], ⟨by have := HE2.out; omega⟩, ⟨fun t ht => by
                      by_cases e : t = j
                      · rw [e, ← HQ2.out]; exact HPB.out
                      · exact HD.out t (by omega)⟩, HB⟩
                | true =>
                  rw [hme] at HME
                  cases hsa : sameB p q with
                  | true =>
                    rw [hsa] at HSA
                    have HPB : Az (pairB p q = true) := ⟨by unfold pairB; rw [hsa]; simp⟩
                    clear hme hsa
                    go_wp2_with fail
                    refine start_ (n := 21) (S := fun w' => (w'.cell? (ad.add (i * 3)) = some (.int .i64 p.f0) ∧ w'.cell? ⟨(ad.add (i * 3)).block, (ad.add (i * 3)).off + 1, none⟩ = some (.int .i64 p.f1) ∧ w'.cell? ⟨(ad.add (i * 3)).block, (ad.add (i * 3)).off + 2, none⟩ = some (.slice A2 p.f2.length c2)) ∧ (w'.cell? (ad.add (j * 3)) = some (.int .i64 q.f0) ∧ w'.cell? ⟨(ad.add (j * 3)).block, (ad.add (j * 3)).off + 1, none⟩ = some (.int .i64 q.f1) ∧ w'.cell? ⟨(ad.add (j * 3)).block, (ad.add (j * 3)).off + 2, none⟩ = some (.slice B2 q.f2.length d2))) (ds := []) (bm 21 0) (by kernel_rfl) rfl rfl (⟨⟨hx_0, hx_1, hx_2⟩, hy_0, hy_1, hy_2⟩) (fun hHeld => ?_)
                    have HB2 := Az.mk (HB.out.drew)
                    clear HB
                    have HB := HB2
                    clear HB2
                    generalize wr.drew = wd at HB hHeld ⊢
                    refine zqp (i := 0) (N := some 73) (v := ?_) (a' := ?_) (bm 21 1) rfl rfl (by kernel_rfl) (fun _ _ _ h => h) (Or.inl ⟨by rfl, ?_⟩) ?_ ?_
                    rotate_left
                    · intro w'
                      go_simp
                      with_reducible rfl
                    rotate_left
                    · simp only [Act.put, zs1, zs2, zs3, i64_w, i32_w]
                      rfl
                    refine zqp (i := 1) (N := some 74) (v := ?_) (a' := ?_) (bm 21 3) rfl rfl (by kernel_rfl) (fun _ _ _ h => h) (Or.inl ⟨by rfl, ?_⟩) ?_ ?_
                    rotate_left
                    · intro w'
                      go_simp
                      with_reducible rfl
                    rotate_left
                    · simp only [Act.put, zs1, zs2, zs3, i64_w, i32_w]
                      rfl
                    refine zqp (i := 2) (N := some 75) (v := ?_) (a' := ?_) (bm 21 7) rfl rfl (by kernel_rfl) (fun _ _ _ h => h) (Or.inl ⟨by rfl, ?_⟩) ?_ ?_
                    rotate_left
                    · intro w'
                      go_simp
                      with_reducible rfl
                    rotate_left
                    · simp only [Act.put, zs1, zs2, zs3, i64_w, i32_w]
                      rfl
                    refine zqp (i := 4) (N := some 77) (v := ?_) (a' := ?_) (bm 21 23) rfl rfl (by kernel_rfl) (fun _ _ _ h => h) (Or.inl ⟨by rfl, ?_⟩) ?_ ?_
                    rotate_left
                    · intro w'
                      go_simp
                      with_reducible rfl
                    rotate_left
                    · simp only [Act.put, zs1, zs2, zs3, i64_w, i32_w]
                      rfl
                    refine zqp (i := 5) (N := some 78) (v := ?_) (a' := ?_) (bm 21 55) rfl rfl (by kernel_rfl) (fun _ _ _ h => h) (Or.inl ⟨by rfl, ?_⟩) ?_ ?_
                    rotate_left
                    · intro w'
                      go_simp
                      with_reducible rfl
                    rotate_left
                    · simp only [Act.put, zs1, zs2, zs3, i64_w, i32_w]
                      rfl
                    refine zqp (i := 6) (N := some 79) (v := ?_) (a' := ?_) (bm 21 119) rfl rfl (by kernel_rfl) (fun _ _ _ h => h) (Or.inl ⟨by rfl, ?_⟩) ?_ ?_
                    rotate_left
                    · intro w'
                      go_simp
                      with_reducible rfl
                    rotate_left
                    · simp only [Act.put, zs1, zs2, zs3, i64_w, i32_w]
                      rfl
                    refine zqt (i := 3) (N := some 76) (v := ?_) (a' := ?_) (bm 21 127) rfl rfl (by kernel_rfl) (fun _ _ _ h => h) (Or.inl ⟨by rfl, ?_⟩) hHeld ?_ ?_
                    rotate_left
                    · rintro w' ⟨⟨s0, s1, s2⟩, s3, s4, s5⟩
                      go_simp
                      with_reducible rfl
                    rotate_left
                    · simp only [Act.put, zs1, zs2, zs3, i64_w, i32_w]
                      rfl
                    refine zqt (i := 7) (N := some 80) (v := ?_) (a' := ?_) (bm 21 255) rfl rfl (by kernel_rfl) (fun _ _ _ h => h) (Or.inl ⟨by rfl, ?_⟩) hHeld ?_ ?_
                    rotate_left
                    · rintro w' ⟨⟨s0, s1, s2⟩, s3, s4, s5⟩
                      go_simp
                      with_reducible rfl
                    rotate_left
                    · simp only [Act.put, zs1, zs2, zs3, i64_w, i32_w]
                      rfl
                    refine one_ (i := 8) (N := some 81) (bm 21 511) rfl rfl (by kernel_rfl) (by decide) (fun K hK => ?_)
                    refine goes_ Try.func87 (by kernel_rfl) rfl #[.agg #[.int .i64 p.f0, .int .i64 p.f1, .slice A2 p.f2.length c2], .agg #[.int .i64 q.f0, .int .i64 q.f1, .slice B2 q.f2.length d2]] (by rfl) rfl rfl (by (try simp only [List.map_toArray, List.map_cons, List.map_nil]); first | done | rfl) ?_
                    refine (HME.out _ HB.out).mono ?_
                    rintro e w81 ⟨rfl, hb⟩
                    refine ⟨_, rfl, ?_⟩
                    have HS2 := keepS hb hHeld
                    have HB2 := Az.mk (HB.out.trans (hb.mono HB.out.size))
                    clear HB
                    have HB := HB2
                    clear HB2
                    refine hK.out _ _ HS2 (fun hHeld => ?_)
                    clear HS2
                    clear hK K
                    refine norm_ (a' := ?_) ?_ ?_
                    rotate_left
                    · show Act.put _ (some 81) _ = _
                      simp only [Act.put, zs1, zs2, zs3, i64_w, i32_w]
                      rfl
                    refine zqp (i := 9) (N := some 82) (v := ?_) (a' := ?_) (bm 21 1023) rfl rfl (by kernel_rfl) (fun _ _ _ h => h) (Or.inl ⟨by rfl, ?_⟩) ?_ ?_
                    rotate_left
                    · intro w'
                      go_simp
                      with_reducible rfl
                    rotate_left
                    · simp only [Act.put, zs1, zs2, zs3, i64_w, i32_w]
                      rfl
                    refine zqp (i := 10) (N := some 83) (v := ?_) (a' := ?_) (bm 21 2047) rfl rfl (by kernel_rfl) (fun _ _ _ h => h) (Or.inl ⟨by rfl, ?_⟩) ?_ ?_
                    rotate_left
                    · intro w'
                      go_simp
                      with_reducible rfl
                    rotate_left
                    · simp only [Act.put, zs1, zs2, zs3, i64_w, i32_w]
                      rfl
                    refine zqp (i := 11) (N := some 84) (v := ?_) (a' := ?_) (bm 21 4095) rfl rfl (by kernel_rfl) (fun _ _ _ h => h) (Or.inl ⟨by rfl, ?_⟩) ?_ ?_
                    rotate_left
                    · intro w'
                      go_simp
                      with_reducible rfl
                    rotate_left
                    · simp only [Act.put, zs1, zs2, zs3, i64_w, i32_w]
                      rfl
                    refine zqp (i := 12) (N := some 85) (v := ?_) (a' := ?_) (bm 21 8191) rfl rfl (by kernel_rfl) (fun _ _ _ h => h) (Or.inl ⟨by rfl, ?_⟩) ?_ ?_
                    rotate_left
                    · intro w'
                      go_simp
                      with_reducible rfl
                    rotate_left
                    · simp only [Act.put, zs1, zs2, zs3, i64_w, i32_w]
                      rfl
                    refine zqp (i := 14) (N := some 87) (v := ?_) (a' := ?_) (bm 21 24575) rfl rfl (by kernel_rfl) (fun _ _ _ h => h) (Or.inl ⟨by rfl, ?_⟩) ?_ ?_
                    rotate_left
                    · intro w'
                      go_simp
                      with_reducible rfl
                    rotate_left
                    · simp only [Act.put, zs1, zs2, zs3, i64_w, i32_w]
                      rfl
                    refine zqp (i := 15) (N := some 88) (v := ?_) (a' := ?_) (bm 21 57343) rfl rfl (by kernel_rfl) (fun _ _ _ h => h) (Or.inl ⟨by rfl, ?_⟩) ?_ ?_
                    rotate_left
                    · intro w'
                      go_simp
                      with_reducible rfl
                    rotate_left
                    · simp only [Act.put, zs1, zs2, zs3, i64_w, i32_w]
                      rfl
                    refine zqp (i := 16) (N := some 89) (v := ?_) (a' := ?_) (bm 21 122879) rfl rfl (by kernel_rfl) (fun _ _ _ h => h) (Or.inl ⟨by rfl, ?_⟩) ?_ ?_
                    rotate_left
                    · intro w'
                      go_simp
                      with_reducible rfl
                    rotate_left
                    · simp only [Act.put, zs1, zs2, zs3, i64_w, i32_w]
                      rfl
                    refine zqt (i := 13) (N := some 86) (v := ?_) (a' := ?_) (bm 21 131071) rfl rfl (by kernel_rfl) (fun _ _ _ h => h) (Or.inl ⟨by rfl, ?_⟩) hHeld ?_ ?_
                    rotate_left
                    · rintro w' ⟨⟨s0, s1, s2⟩, s3, s4, s5⟩
                      go_simp
                      with_reducible rfl
                    rotate_left
                    · simp only [Act.put, zs1, zs2, zs3, i64_w, i32_w]
                      rfl
                    refine zqt (i := 17) (N := some 90) (v := ?_) (a' := ?_) (bm 21 262143) rfl rfl (by kernel_rfl) (fun _ _ _ h => h) (Or.inl ⟨by rfl, ?_⟩) hHeld ?_ ?_
                    rotate_left
                    · rintro w' ⟨⟨s0, s1, s2⟩, s3, s4, s5⟩
                      go_simp
                      with_reducible rfl
                    rotate_left
                    · simp only [Act.put, zs1, zs2, zs3, i64_w, i32_w]
                      rfl
                    refine one_ (i := 18) (N := some 91) (bm 21 524287) rfl rfl (by kernel_rfl) (by decide) (fun K hK => ?_)
                    refine goes_ Try.func99 (by kernel_rfl) rfl #[.agg #[.int .i64 p.f0, .int .i64 p.f1, .slice A2 p.f2.length c2], .agg #[.int .i64 q.f0, .int .i64 q.f1, .slice B2 q.f2.length d2]] (by rfl) rfl rfl (by (try simp only [List.map_toArray, List.map_cons, List.map_nil]); first | done | rfl) ?_
                    refine (HSA.out _ HB.out).mono ?_
                    rintro e w91 ⟨rfl, hb⟩
                    refine ⟨_, rfl, ?_⟩
                    have HS2 := keepS hb hHeld
                    have HB2 := Az.mk (HB.out.trans (hb.mono HB.out.size))
                    clear HB
                    have HB := HB2
                    clear HB2
                    refine hK.out _ _ HS2 (fun hHeld => ?_)
                    clear HS2
                    clear hK K
                    refine norm_ (a' := ?_) ?_ ?_
                    rotate_left
                    · show Act.put _ (some 91) _ = _
                      simp only [Act.put, zs1, zs2, zs3, i64_w, i32_w]
                      rfl
                    refine zqp (i := 19) (N := some 92) (v := ?_) (a' := ?_) (bm 21 1048575) rfl rfl (by kernel_rfl) (fun _ _ _ h => h) (Or.inl ⟨by rfl, ?_⟩) ?_ ?_
                    rotate_left
                    · intro w'
                      go_simp
                      with_reducible rfl
                    rotate_left
                    · simp only [Act.put, zs1, zs2, zs3, i64_w, i32_w]
                      rfl
                    refine zqp (i := 20) (N := some 93) (v := ?_) (a' := ?_) (bm 21 2097151) rfl rfl (by kernel_rfl) (fun _ _ _ h => h) (Or.inl ⟨by rfl, ?_⟩) ?_ ?_
                    rotate_left
                    · intro w'
                      go_simp
                      with_reducible rfl
                    rotate_left
                    · simp only [Act.put, zs1, zs2, zs3, i64_w, i32_w]
                      rfl
                    refine done_ (by kernel_rfl) ?_
                    have HB2 := Az.mk (HBZ.out.trans (HB.out.mono HBZ.out.size))
                    clear HB
                    have HB := HB2
                    go_wp2
                    go_roundg (i - (j + 1))
                    case measure => have := HJ.out; have := HE2.out; omega
                    case rel => exact ⟨j + 1, by rw [← HWj.out], ⟨by have := HE2.out; omega⟩, ⟨fun t ht => by
                        by_cases e : t = j
                        · rw [e, ← HQ2.out]; exact HPB.out
                        · exact HD.out t (by omega)⟩, HB⟩
                  | false =>
                    rw [hsa] at HSA
                    have HNO : Az (ptrsB n ps = false) := ⟨ptrsB_no HE1.out (by
                      unfold ptrAt
                      rw [← HP.out, Bool.and_eq_false_iff, decide_eq_false_iff_not]
                      right
                      intro h
                      have := h j HE2.out
                      rw [← HQ2.out] at this
                      unfold pairB at this
                      rw [hme, hsa] at this
                      cases this)⟩
                    clear hme hsa
                    go_wp2_with fail
                    refine start_ (n := 21) (S := fun w' => (w'.cell? (ad.add (i * 3)) = some (.int .i64 p.f0) ∧ w'.cell? ⟨(ad.add (i * 3)).block, (ad.add (i * 3)).off + 1, none⟩ = some (.int .i64 p.f1) ∧ w'.cell? ⟨(ad.add (i * 3)).block, (ad.add (i * 3)).off + 2, none⟩ = some (.slice A2 p.f2.length c2)) ∧ (w'.cell? (ad.add (j * 3)) = some (.int .i64 q.f0) ∧ w'.cell? ⟨(ad.add (j * 3)).block, (ad.add (j * 3)).off + 1, none⟩ = some (.int .i64 q.f1) ∧ w'.cell? ⟨(ad.add (j * 3)).block, (ad.add (j * 3)).off + 2, none⟩ = some (.slice B2 q.f2.length d2))) (ds := []) (bm 21 0) (by kernel_rfl) rfl rfl (⟨⟨hx_0, hx_1, hx_2⟩, hy_0, hy_1, hy_2⟩) (fun hHeld => ?_)
                    have HB2 := Az.mk (HB.out.drew)
                    clear HB
                    have HB := HB2
                    clear HB2
                    generalize wr.drew = wd at HB hHeld ⊢
                    refine zqp (i := 0) (N := some 73) (v := ?_) (a' := ?_) (bm 21 1) rfl rfl (by kernel_rfl) (fun _ _ _ h => h) (Or.inl ⟨by rfl, ?_⟩) ?_ ?_
                    rotate_left
                    · intro w'
                      go_simp
                      with_reducible rfl
                    rotate_left
                    · simp only [Act.put, zs1, zs2, zs3, i64_w, i32_w]
                      rfl
                    refine zqp (i := 1) (N := some 74) (v := ?_) (a' := ?_) (bm 21 3) rfl rfl (by kernel_rfl) (fun _ _ _ h => h) (Or.inl ⟨by rfl, ?_⟩) ?_ ?_
                    rotate_left
                    · intro w'
                      go_simp
                      with_reducible rfl
                    rotate_left
                    · simp only [Act.put, zs1, zs2, zs3, i64_w, i32_w]
                      rfl
                    refine zqp (i := 2) (N := some 75) (v := ?_) (a' := ?_) (bm 21 7) rfl rfl (by kernel_rfl) (fun _ _ _ h => h) (Or.inl ⟨by rfl, ?_⟩) ?_ ?_
                    rotate_left
                    · intro w'
                      go_simp
                      with_reducible rfl
                    rotate_left
                    · simp only [Act.put, zs1, zs2, zs3, i64_w, i32_w]
                      rfl
                    refine zqp (i := 4) (N := some 77) (v := ?_) (a' := ?_) (bm 21 23) rfl rfl (by kernel_rfl) (fun _ _ _ h => h) (Or.inl ⟨by rfl, ?_⟩) ?_ ?_
                    rotate_left
                    · intro w'
                      go_simp
                      with_reducible rfl
                    rotate_left
                    · simp only [Act.put, zs1, zs2, zs3, i64_w, i32_w]
                      rfl
                    refine zqp (i := 5) (N := some 78) (v := ?_) (a' := ?_) (bm 21 55) rfl rfl (by kernel_rfl) (fun _ _ _ h => h) (Or.inl ⟨by rfl, ?_⟩) ?_ ?_
                    rotate_left
                    · intro w'
                      go_simp
                      with_reducible rfl
                    rotate_left
                    · simp only [Act.put, zs1, zs2, zs3, i64_w, i32_w]
                      rfl
                    refine zqp (i := 6) (N := some 79) (v := ?_) (a' := ?_) (bm 21 119) rfl rfl (by kernel_rfl) (fun _ _ _ h => h) (Or.inl ⟨by rfl, ?_⟩) ?_ ?_
                    rotate_left
                    · intro w'
                      go_simp
                      with_reducible rfl
                    rotate_left
                    · simp only [Act.put, zs1, zs2, zs3, i64_w, i32_w]
                      rfl
                    refine zqt (i := 3) (N := some 76) (v := ?_) (a' := ?_) (bm 21 127) rfl rfl (by kernel_rfl) (fun _ _ _ h => h) (Or.inl ⟨by rfl, ?_⟩) hHeld ?_ ?_
                    rotate_left
                    · rintro w' ⟨⟨s0, s1, s2⟩, s3, s4, s5⟩
                      go_simp
                      with_reducible rfl
                    rotate_left
                    · simp only [Act.put, zs1, zs2, zs3, i64_w, i32_w]
                      rfl
                    refine zqt (i := 7) (N := some 80) (v := ?_) (a' := ?_) (bm 21 255) rfl rfl (by kernel_rfl) (fun _ _ _ h => h) (Or.inl ⟨by rfl, ?_⟩) hHeld ?_ ?_
                    rotate_left
                    · rintro w' ⟨⟨s0, s1, s2⟩, s3, s4, s5⟩
                      go_simp
                      with_reducible rfl
                    rotate_left
                    · simp only [Act.put, zs1, zs2, zs3, i64_w, i32_w]
                      rfl
                    refine one_ (i := 8) (N := some 81) (bm 21 511) rfl rfl (by kernel_rfl) (by decide) (fun K hK => ?_)
                    refine goes_ Try.func87 (by kernel_rfl) rfl #[.agg #[.int .i64 p.f0, .int .i64 p.f1, .slice A2 p.f2.length c2], .agg #[.int .i64 q.f0, .int .i64 q.f1, .slice B2 q.f2.length d2]] (by rfl) rfl rfl (by (try simp only [List.map_toArray, List.map_cons, List.map_nil]); first | done | rfl) ?_
                    refine (HME.out _ HB.out).mono ?_
                    rintro e w81 ⟨rfl, hb⟩
                    refine ⟨_, rfl, ?_⟩
                    have HS2 := keepS hb hHeld
                    have HB2 := Az.mk (HB.out.trans (hb.mono HB.out.size))
                    clear HB
                    have HB := HB2
                    clear HB2
                    refine hK.out _ _ HS2 (fun hHeld => ?_)
                    clear HS2
                    clear hK K
                    refine norm_ (a' := ?_) ?_ ?_
                    rotate_left
                    · show Act.put _ (some 81) _ = _
                      simp only [Act.put, zs1, zs2, zs3, i64_w, i32_w]
                      rfl
                    refine zqp (i := 9) (N := some 82) (v := ?_) (a' := ?_) (bm 21 1023) rfl rfl (by kernel_rfl) (fun _ _ _ h => h) (Or.inl ⟨by rfl, ?_⟩) ?_ ?_
                    rotate_left
                    · intro w'
                      go_simp
                      with_reducible rfl
                    rotate_left
                    · simp only [Act.put, zs1, zs2, zs3, i64_w, i32_w]
                      rfl
                    refine zqp (i := 10) (N := some 83) (v := ?_) (a' := ?_) (bm 21 2047) rfl rfl (by kernel_rfl) (fun _ _ _ h => h) (Or.inl ⟨by rfl, ?_⟩) ?_ ?_
                    rotate_left
                    · intro w'
                      go_simp
                      with_reducible rfl
                    rotate_left
                    · simp only [Act.put, zs1, zs2, zs3, i64_w, i32_w]
                      rfl
                    refine zqp (i := 11) (N := some 84) (v := ?_) (a' := ?_) (bm 21 4095) rfl rfl (by kernel_rfl) (fun _ _ _ h => h) (Or.inl ⟨by rfl, ?_⟩) ?_ ?_
                    rotate_left
                    · intro w'
                      go_simp
                      with_reducible rfl
                    rotate_left
                    · simp only [Act.put, zs1, zs2, zs3, i64_w, i32_w]
                      rfl
                    refine zqp (i := 12) (N := some 85) (v := ?_) (a' := ?_) (bm 21 8191) rfl rfl (by kernel_rfl) (fun _ _ _ h => h) (Or.inl ⟨by rfl, ?_⟩) ?_ ?_
                    rotate_left
                    · intro w'
                      go_simp
                      with_reducible rfl
                    rotate_left
                    · simp only [Act.put, zs1, zs2, zs3, i64_w, i32_w]
                      rfl
                    refine zqp (i := 14) (N := some 87) (v := ?_) (a' := ?_) (bm 21 24575) rfl rfl (by kernel_rfl) (fun _ _ _ h => h) (Or.inl ⟨by rfl, ?_⟩) ?_ ?_
                    rotate_left
                    · intro w'
                      go_simp
                      with_reducible rfl
                    rotate_left
                    · simp only [Act.put, zs1, zs2, zs3, i64_w, i32_w]
                      rfl
                    refine zqp (i := 15) (N := some 88) (v := ?_) (a' := ?_) (bm 21 57343) rfl rfl (by kernel_rfl) (fun _ _ _ h => h) (Or.inl ⟨by rfl, ?_⟩) ?_ ?_
                    rotate_left
                    · intro w'
                      go_simp
                      with_reducible rfl
                    rotate_left
                    · simp only [Act.put, zs1, zs2, zs3, i64_w, i32_w]
                      rfl
                    refine zqp (i := 16) (N := some 89) (v := ?_) (a' := ?_) (bm 21 122879) rfl rfl (by kernel_rfl) (fun _ _ _ h => h) (Or.inl ⟨by rfl, ?_⟩) ?_ ?_
                    rotate_left
                    · intro w'
                      go_simp
                      with_reducible rfl
                    rotate_left
                    · simp only [Act.put, zs1, zs2, zs3, i64_w, i32_w]
                      rfl
                    refine zqt (i := 13) (N := some 86) (v := ?_) (a' := ?_) (bm 21 131071) rfl rfl (by kernel_rfl) (fun _ _ _ h => h) (Or.inl ⟨by rfl, ?_⟩) hHeld ?_ ?_
                    rotate_left
                    · rintro w' ⟨⟨s0, s1, s2⟩, s3, s4, s5⟩
                      go_simp
                      with_reducible rfl
                    rotate_left
                    · simp only [Act.put, zs1, zs2, zs3, i64_w, i32_w]
                      rfl
                    refine zqt (i := 17) (N := some 90) (v := ?_) (a' := ?_) (bm 21 262143) rfl rfl (by kernel_rfl) (fun _ _ _ h => h) (Or.inl ⟨by rfl, ?_⟩) hHeld ?_ ?_
                    rotate_left
                    · rintro w' ⟨⟨s0, s1, s2⟩, s3, s4, s5⟩
                      go_simp
                      with_reducible rfl
                    rotate_left
                    · simp only [Act.put, zs1, zs2, zs3, i64_w, i32_w]
                      rfl
                    refine one_ (i := 18) (N := some 91) (bm 21 524287) rfl rfl (by kernel_rfl) (by decide) (fun K hK => ?_)
                    refine goes_ Try.func99 (by kernel_rfl) rfl #[.agg #[.int .i64 p.f0, .int .i64 p.f1, .slice A2 p.f2.length c2], .agg #[.int .i64 q.f0, .int .i64 q.f1, .slice B2 q.f2.length d2]] (by rfl) rfl rfl (by (try simp only [List.map_toArray, List.map_cons, List.map_nil]); first | done | rfl) ?_
                    refine (HSA.out _ HB.out).mono ?_
                    rintro e w91 ⟨rfl, hb⟩
                    refine ⟨_, rfl, ?_⟩
                    have HS2 := keepS hb hHeld
                    have HB2 := Az.mk (HB.out.trans (hb.mono HB.out.size))
                    clear HB
                    have HB := HB2
                    clear HB2
                    refine hK.out _ _ HS2 (fun hHeld => ?_)
                    clear HS2
                    clear hK K
                    refine norm_ (a' := ?_) ?_ ?_
                    rotate_left
                    · show Act.put _ (some 91) _ = _
                      simp only [Act.put, zs1, zs2, zs3, i64_w, i32_w]
                      rfl
                    refine zqp (i := 19) (N := some 92) (v := ?_) (a' := ?_) (bm 21 1048575) rfl rfl (by kernel_rfl) (fun _ _ _ h => h) (Or.inl ⟨by rfl, ?_⟩) ?_ ?_
                    rotate_left
                    · intro w'
                      go_simp
                      with_reducible rfl
                    rotate_left
                    · simp only [Act.put, zs1, zs2, zs3, i64_w, i32_w]
                      rfl
                    refine zqp (i := 20) (N := some 93) (v := ?_) (a' := ?_) (bm 21 2097151) rfl rfl (by kernel_rfl) (fun _ _ _ h => h) (Or.inl ⟨by rfl, ?_⟩) ?_ ?_
                    rotate_left
                    · intro w'
                      go_simp
                      with_reducible rfl
                    rotate_left
                    · simp only [Act.put, zs1, zs2, zs3, i64_w, i32_w]
                      rfl
                    refine done_ (by kernel_rfl) ?_
                    have HB2 := Az.mk (HBZ.out.trans (HB.out.mono HBZ.out.size))
                    clear HB
                    have HB := HB2
                    go_wp2
                    go_ret
                    exact ⟨by rw [← HPS.out, HRES.out, HNO.out]; rfl, HBW.out.trans (HB.out.mono HBW.out.size)⟩
              · have e2b : decide ((j : Int) < (i : Int)) = false := decide_eq_false (by omega)
                have hj : j = i := by have := HJ.out; omega
                have HOK : Az (ptrAt n ps i = true) := ⟨by
                  unfold ptrAt
                  rw [← HP.out, HGC.out, Bool.true_and, decide_eq_true_iff]
                  exact fun q hq => HD.out q (by omega)⟩
                clear hj
                go_wp2
                go_roundg (ps.length - (i + 1))
                case measure => have := HI.out; have := HE1.out; omega
                case rel => exact ⟨i + 1, by rw [← HWi.out], ⟨by have := HE1.out; omega⟩, ⟨fun t ht => by
                    by_cases e : t = i
                    · rw [e]; exact HOK.out
                    · exact HQ.out t (by omega)⟩, HB⟩
          · rw [decide_eq_false hg] at HPK
            have HNO : Az (ptrsB n ps = false) := ⟨ptrsB_no HE1.out (by
              unfold ptrAt ptrC
              rw [← HP.out, decide_eq_false (fun h => hg h.2), Bool.false_and])⟩
            clear hg
            go_wp2_with (first | (go_at_call 54; refine (HPK.out _ HB.out (HBI.out _ (Below.refl _ _))).mono ?_; rintro e w66 ⟨rfl, hb⟩; have HB2 := Az.mk (HB.out.trans (hb.mono HB.out.size)); clear HB hb; have HB := HB2; clear HB2) | go_in)
            go_ret
            exact ⟨by rw [← HPS.out, HRES.out, HNO.out]; rfl, HBW.out.trans (HB.out.mono HBW.out.size)⟩
        · have e1b : decide ((i : Int) < (ps.length : Int)) = false := decide_eq_false (by omega)
          have hi : i = ps.length := by have := HI.out; omega
          have HOK : Az (ptrsB n ps = true) := ⟨decide_eq_true fun t ht _ => HQ.out t (by omega)⟩
          clear hi
          go_wp2
          go_ret
          exact ⟨by rw [← HPS.out, HRES.out, HOK.out]; rfl, HBW.out.trans (HB.out.mono HBW.out.size)⟩
end Go.Proofs.Ytkoimmeghdbodaa.Print
namespace Go.Proofs.Ytkoimmeghdbodaa.Print
open Go.RowKit Go.Lib Go.Maps Go.WideMaps Go.Proofs.YtkoimmeghdbodaaW.PrintWords Go.Proofs.YtkoimmeghdbodaaW.PrintLast Go.Proofs.YtkoimmeghdbodaaW.PrintMore Go.Proofs.Ytkoimmeghdbodaa.Pure
set_option linter.unusedVariables false
set_option linter.unusedSimpArgs false
set_option maxHeartbeats 8000000 in
set_option maxRecDepth 100000 in
theorem sRoot_call (n tx : Int) (A0 : Option Addr) (c0 : Nat) (l0 : List S65) (w : World) (hr0 : Kd.C k65 w A0 l0.length l0) (hc0 : l0.length ≤ c0) (hF : FitM l0) :
    Calls Try.prog 36 #[.int .i64 n, .agg #[.int .i64 tx, .slice A0 l0.length c0]] w fun e w' => e = .returned (.bool (rootB n tx l0)) ∧ Below w.heap.size w w' := by
  have hu57 := Try.underlying57
  have HB := Az.mk (Below.refl w.heap.size w)
  rw [rootB_eq]
  have H53 := Az.mk (fun W => spec_l2Disks.calls n (decide (3 ≤ n ∧ n ≤ 4)) W (by unfold spec_l2Disks.f; rw [l6In_eq]; rfl))
  have H75 := Az.mk (fun W => spec_l6In.calls tx 0 100000 (decide (0 ≤ tx ∧ tx ≤ 100000)) W (l6In_eq _ _ _))
  have hsp : specB n tx l0 = (decide (3 ≤ n ∧ n ≤ 4) && (decide (0 ≤ tx ∧ tx ≤ 100000) && (decide (l0.length ≤ 4) && (namesB l0 && ptrsB n (ptrs l0))))) := rfl
  generalize specB n tx l0 = res at hsp ⊢
  by_cases c1 : 3 ≤ n ∧ n ≤ 4
  · rw [decide_eq_true c1] at H53 hsp
    by_cases c2 : 0 ≤ tx ∧ tx ≤ 100000
    · rw [decide_eq_true c2] at H75 hsp
      by_cases c3 : l0.length ≤ 4
      · rw [decide_eq_true c3] at hsp
        have H76 := Az.mk (fun (W : World) (hb : Below w.heap.size w W) => sVols_call n tx c1 A0 c0 l0 W (Kd.C_below hr0 hb) hc0 hF c3)
        have d3 : decide ((l0.length : Int) ≤ 4) = true := decide_eq_true (by omega)
        have HE : Az (res = (namesB l0 && ptrsB n (ptrs l0))) := ⟨by rw [hsp]; rfl⟩
        clear hr0 hc0 hF c1 c2 hsp
        go_enter Try.func36, Try.ntmps36
        go_wp2_with (first | ((with_reducible refine zqg (N := 3) rfl ?_); refine zqb ?hg (N := 3) ?hd (cs := #[.int .i64 tx, .slice A0 l0.length c0]) (t := 57) ?hr ?_; (case hd => rfl); (case hg => rfl); (case hr => first | (go_simp; done) | (go_simp; rfl)); intro gb hg w5 hbox hb; have n0_ := Az.mk (below_step (by repeat (first | (with_reducible first | exact HB.out | apply zq2 | apply zq1 | apply zqd) | exact HB.out)) hb); have BR := Az.mk (show Blk w5 gb #[.int .i64 tx, .slice A0 l0.length c0] 57 from hbox); clear HB; have HB := n0_; clear n0_ hbox hb hg; have hcz_0 := (BR.out.cell 0).trans rfl; have hcz_1 := (BR.out.cell 1).trans rfl) | (go_at_call 53; refine (H53.out _).mono ?_; rintro e w6 ⟨rfl, hd⟩; have hb := hd.below; have BR2 := Az.mk (BR.out.below hb); have HB2 := Az.mk (HB.out.trans (hb.mono HB.out.size)); clear BR HB hcz_0 hcz_1; have BR := BR2; have HB := HB2; clear BR2 HB2; have hcz_0 := (BR.out.cell 0).trans rfl; have hcz_1 := (BR.out.cell 1).trans rfl; clear hb hd) | (go_at_call 75; refine (H75.out _).mono ?_; rintro e w10 ⟨rfl, hd⟩; have hb := hd.below; have BR2 := Az.mk (BR.out.below hb); have HB2 := Az.mk (HB.out.trans (hb.mono HB.out.size)); clear BR HB hcz_0 hcz_1; have BR := BR2; have HB := HB2; clear BR2 HB2; have hcz_0 := (BR.out.cell 0).trans rfl; have hcz_1 := (BR.out.cell 1).trans rfl; clear hb hd) | (go_at_call 76; refine (H76.out _ HB.out).mono ?_; rintro e w21 ⟨rfl, hb⟩; have BR2 := Az.mk (BR.out.below hb); have HB2 := Az.mk (HB.out.trans (hb.mono HB.out.size)); clear BR HB hcz_0 hcz_1; have BR := BR2; have HB := HB2; clear BR2 HB2; have hcz_0 := (BR.out.cell 0).trans rfl; have hcz_1 := (BR.out.cell 1).trans rfl; clear hb) | go_in)
        go_ret
        exact ⟨by rw [HE.out]; rfl, HB.out⟩
      · rw [decide_eq_false c3] at hsp
        have d3 : decide ((l0.length : Int) ≤ 4) = false := decide_eq_false (by omega)
        have HE : Az (res = false) := ⟨by rw [hsp]; rfl⟩
        clear hr0 hc0 hF c1 c2 hsp
        go_enter Try.func36, Try.ntmps36
        go_wp2_with (first | ((with_reducible refine zqg (N := 3) rfl ?_); refine zqb ?hg (N := 3) ?hd (cs := #[.int .i64 tx, .slice A0 l0.length c0]) (t := 57) ?hr ?_; (case hd => rfl); (case hg => rfl); (case hr => first | (go_simp; done) | (go_simp; rfl)); intro gb hg w5 hbox hb; have n0_ := Az.mk (below_step (by repeat (first | (with_reducible first | exact HB.out | apply zq2 | apply zq1 | apply zqd) | exact HB.out)) hb); have BR := Az.mk (show Blk w5 gb #[.int .i64 tx, .slice A0 l0.length c0] 57 from hbox); clear HB; have HB := n0_; clear n0_ hbox hb hg; have hcz_0 := (BR.out.cell 0).trans rfl; have hcz_1 := (BR.out.cell 1).trans rfl) | (go_at_call 53; refine (H53.out _).mono ?_; rintro e w6 ⟨rfl, hd⟩; have hb := hd.below; have BR2 := Az.mk (BR.out.below hb); have HB2 := Az.mk (HB.out.trans (hb.mono HB.out.size)); clear BR HB hcz_0 hcz_1; have BR := BR2; have HB := HB2; clear BR2 HB2; have hcz_0 := (BR.out.cell 0).trans rfl; have hcz_1 := (BR.out.cell 1).trans rfl; clear hb hd) | (go_at_call 75; refine (H75.out _).mono ?_; rintro e w10 ⟨rfl, hd⟩; have hb := hd.below; have BR2 := Az.mk (BR.out.below hb); have HB2 := Az.mk (HB.out.trans (hb.mono HB.out.size)); clear BR HB hcz_0 hcz_1; have BR := BR2; have HB := HB2; clear BR2 HB2; have hcz_0 := (BR.out.cell 0).trans rfl; have hcz_1 := (BR.out.cell 1).trans rfl; clear hb hd) | go_in)
        go_ret
        exact ⟨by rw [HE.out]; rfl, HB.out⟩
    · rw [decide_eq_false c2] at H75 hsp
      have HE : Az (res = false) := ⟨by rw [hsp]; rfl⟩
      clear hr0 hc0 hF c1 c2 hsp
      go_enter Try.func36, Try.ntmps36
      go_wp2_with (first | ((with_reducible refine zqg (N := 3) rfl ?_); refine zqb ?hg (N := 3) ?hd (cs := #[.int .i64 tx, .slice A0 l0.length c0]) (t := 57) ?hr ?_; (case hd => rfl); (case hg => rfl); (case hr => first | (go_simp; done) | (go_simp; rfl)); intro gb hg w5 hbox hb; have n0_ := Az.mk (below_step (by repeat (first | (with_reducible first | exact HB.out | apply zq2 | apply zq1 | apply zqd) | exact HB.out)) hb); have BR := Az.mk (show Blk w5 gb #[.int .i64 tx, .slice A0 l0.length c0] 57 from hbox); clear HB; have HB := n0_; clear n0_ hbox hb hg; have hcz_0 := (BR.out.cell 0).trans rfl; have hcz_1 := (BR.out.cell 1).trans rfl) | (go_at_call 53; refine (H53.out _).mono ?_; rintro e w6 ⟨rfl, hd⟩; have hb := hd.below; have BR2 := Az.mk (BR.out.below hb); have HB2 := Az.mk (HB.out.trans (hb.mono HB.out.size)); clear BR HB hcz_0 hcz_1; have BR := BR2; have HB := HB2; clear BR2 HB2; have hcz_0 := (BR.out.cell 0).trans rfl; have hcz_1 := (BR.out.cell 1).trans rfl; clear hb hd) | (go_at_call 75; refine (H75.out _).mono ?_; rintro e w10 ⟨rfl, hd⟩; have hb := hd.below; have BR2 := Az.mk (BR.out.below hb); have HB2 := Az.mk (HB.out.trans (hb.mono HB.out.size)); clear BR HB hcz_0 hcz_1; have BR := BR2; have HB := HB2; clear BR2 HB2; have hcz_0 := (BR.out.cell 0).trans rfl; have hcz_1 := (BR.out.cell 1).trans rfl; clear hb hd) | go_in)
      go_ret
      exact ⟨by rw [HE.out]; rfl, HB.out⟩
  · rw [decide_eq_false c1] at H53 hsp
    have HE : Az (res = false) := ⟨by rw [hsp]; rfl⟩
    clear hr0 hc0 hF c1 hsp
    go_enter Try.func36, Try.ntmps36
    go_wp2_with (first | ((with_reducible refine zqg (N := 3) rfl ?_); refine zqb ?hg (N := 3) ?hd (cs := #[.int .i64 tx, .slice A0 l0.length c0]) (t := 57) ?hr ?_; (case hd => rfl); (case hg => rfl); (case hr => first | (go_simp; done) | (go_simp; rfl)); intro gb hg w5 hbox hb; have n0_ := Az.mk (below_step (by repeat (first | (with_reducible first | exact HB.out | apply zq2 | apply zq1 | apply zqd) | exact HB.out)) hb); have BR := Az.mk (show Blk w5 gb #[.int .i64 tx, .slice A0 l0.length c0] 57 from hbox); clear HB; have HB := n0_; clear n0_ hbox hb hg; have hcz_0 := (BR.out.cell 0).trans rfl; have hcz_1 := (BR.out.cell 1).trans rfl) | (go_at_call 53; refine (H53.out _).mono ?_; rintro e w6 ⟨rfl, hd⟩; have hb := hd.below; have BR2 := Az.mk (BR.out.below hb); have HB2 := Az.mk (HB.out.trans (hb.mono HB.out.size)); clear BR HB hcz_0 hcz_1; have BR := BR2; have HB := HB2; clear BR2 HB2; have hcz_0 := (BR.out.cell 0).trans rfl; have hcz_1 := (BR.out.cell 1).trans rfl; clear hb hd) | go_in)
    go_ret
    exact ⟨by rw [HE.out]; rfl, HB.out⟩
set_option maxHeartbeats 16000000 in
set_option maxRecDepth 100000 in
theorem sFree_call (n txa txb : Int) (Aa Ab : Option Addr) (ca cb : Nat) (la lb : List S65) (w : World)
    (hra : Kd.C k65 w Aa la.length la) (hca : la.length ≤ ca) (hFa : FitM la) (hrb : Kd.C k65 w Ab lb.length lb) (hcb : lb.length ≤ cb) (hFb : FitM lb) :
    Calls Try.prog 49 #[.int .i64 n, .agg #[.int .i64 txa, .slice Aa la.length ca], .agg #[.int .i64 txb, .slice Ab lb.length cb]] w fun e w' => ∃ v, e = .returned v ∧ Kd.R k37 37 w' w.heap.size (fun _ => True) v (spaceI n txa txb la lb) ∧ Below w.heap.size w w' := by
  have hu37 := Try.underlying37
  have hu57 := Try.underlying57
  have HROa := Az.mk (fun (W : World) (hb : Below w.heap.size w W) => sRoot_call n txa Aa ca la W (Kd.C_below hra hb) hca hFa)
  have HROb := Az.mk (fun (W : World) (hb : Below w.heap.size w W) => sRoot_call n txb Ab cb lb W (Kd.C_below hrb hb) hcb hFb)
  have b1 : Blk (w.alloc (.cells #[.int .i64 txa, .slice Aa la.length ca] 57)) w.heap.size #[.int .i64 txa, .slice Aa la.length ca] 57 := Blk.made _ _ _
  have b2 := Blk.made (w.alloc (.cells #[.int .i64 txa, .slice Aa la.length ca] 57)) #[.int .i64 txb, .slice Ab lb.length cb] 57
  rw [World.size_alloc] at b2
  have b1 := b1.alloc (.cells #[.int .i64 txb, .slice Ab lb.length cb] 57)
  have hB0 : Below w.heap.size w ((w.alloc (.cells #[.int .i64 txa, .slice Aa la.length ca] 57)).alloc (.cells #[.int .i64 txb, .slice Ab lb.length cb] 57)) := by
    have h1 : Below w.heap.size w (w.alloc (.cells #[.int .i64 txa, .slice Aa la.length ca] 57)) := (Below.refl w.heap.size w).alloc (Nat.le_refl _) _
    exact h1.alloc (by simp) _
  have BA := Az.mk b1
  have BB := Az.mk b2
  have HB := Az.mk hB0
  have hca_0 := (BA.out.cell 0).trans rfl
  have hca_1 := (BA.out.cell 1).trans rfl
  have hcb_0 := (BB.out.cell 0).trans rfl
  have hcb_1 := (BB.out.cell 1).trans rfl
  have tk0 : True := trivial
  clear b1 b2 hB0
  have hsp : spaceI n txa txb la lb = if (rootB n txa la && rootB n txb lb) = true then flatF (rootPl n txa la ++ rootPl n txb lb) n.toNat else [] := rfl
  generalize spaceI n txa txb la lb = res at hsp ⊢
  cases ea : rootB n txa la with
  | false =>
    rw [ea] at HROa hsp
    have HE : Az (res = []) := ⟨by rw [hsp]; rfl⟩
    clear hra hrb hca hcb hsp ea
    go_enter Try.func49, Try.ntmps49
    go_wp2_with (first | (go_at_call 36; have _tk := tk0; refine (HROa.out _ HB.out).mono ?_; rintro e w12 ⟨rfl, hb⟩; have BA2 := Az.mk (BA.out.below hb); have BB2 := Az.mk (BB.out.below hb); have HB2 := Az.mk (HB.out.trans (hb.mono HB.out.size)); clear BA BB HB hca_0 hca_1 hcb_0 hcb_1; have BA := BA2; have BB := BB2; have HB := HB2; clear BA2 BB2 HB2; have hca_0 := (BA.out.cell 0).trans rfl; have hca_1 := (BA.out.cell 1).trans rfl; have hcb_0 := (BB.out.cell 0).trans rfl; have hcb_1 := (BB.out.cell 1).trans rfl; clear hb; clear tk0 _tk; have tk1 : True := trivial) | ((with_reducible refine zqg (N := 17) rfl ?_); refine Kd.R_lit k37 _ 37 ?hg (N := 17) ?hd (xs := ([] : List S37)) (inner := []) (ok := fun _ => True) (okp := fun _ => True) ?hr ?hp (fun _ hk => hk) trivial (Below.refl _ _) (Nat.le_refl _) (by simp) ?_; (case hd => rfl); (case hg => rfl); (case hr => first | (go_simp; done) | (go_simp; rfl)); (case hp => exact (Reps.none _ _)); intro v17 w26 ho27 hb hg_ hnew_; have R17 := Az.mk ho27; have HB2 := Az.mk (HB.out.trans (hb.mono HB.out.size)); have HBZ := Az.mk HB.out.size; clear HB ho27 hb hg_ hnew_; have HB := HB2; clear HB2) | go_in)
    go_ret
    exact ⟨v17, rfl, by rw [HE.out]; exact Kd.R_lower R17.out HBZ.out, HB.out⟩
  | true =>
    rw [ea] at HROa hsp
    cases eb : rootB n txb lb with
    | false =>
      rw [eb] at HROb hsp
      have HE : Az (res = []) := ⟨by rw [hsp]; rfl⟩
      clear hra hrb hca hcb hsp ea eb
      go_enter Try.func49, Try.ntmps49
      go_wp2_with (first | (go_at_call 36; have _tk := tk0; refine (HROa.out _ HB.out).mono ?_; rintro e w12 ⟨rfl, hb⟩; have BA2 := Az.mk (BA.out.below hb); have BB2 := Az.mk (BB.out.below hb); have HB2 := Az.mk (HB.out.trans (hb.mono HB.out.size)); clear BA BB HB hca_0 hca_1 hcb_0 hcb_1; have BA := BA2; have BB := BB2; have HB := HB2; clear BA2 BB2 HB2; have hca_0 := (BA.out.cell 0).trans rfl; have hca_1 := (BA.out.cell 1).trans rfl; have hcb_0 := (BB.out.cell 0).trans rfl; have hcb_1 := (BB.out.cell 1).trans rfl; clear hb; clear tk0 _tk; have tk1 : True := trivial) | (go_at_call 36; have _tk := tk1; refine (HROb.out _ HB.out).mono ?_; rintro e w17 ⟨rfl, hb⟩; have BA2 := Az.mk (BA.out.below hb); have BB2 := Az.mk (BB.out.below hb); have HB2 := Az.mk (HB.out.trans (hb.mono HB.out.size)); clear BA BB HB hca_0 hca_1 hcb_0 hcb_1; have BA := BA2; have BB := BB2; have HB := HB2; clear BA2 BB2 HB2; have hca_0 := (BA.out.cell 0).trans rfl; have hca_1 := (BA.out.cell 1).trans rfl; have hcb_0 := (BB.out.cell 0).trans rfl; have hcb_1 := (BB.out.cell 1).trans rfl; clear hb; clear tk1 _tk; have tk2 : True := trivial) | ((with_reducible refine zqg (N := 17) rfl ?_); refine Kd.R_lit k37 _ 37 ?hg (N := 17) ?hd (xs := ([] : List S37)) (inner := []) (ok := fun _ => True) (okp := fun _ => True) ?hr ?hp (fun _ hk => hk) trivial (Below.refl _ _) (Nat.le_refl _) (by simp) ?_; (case hd => rfl); (case hg => rfl); (case hr => first | (go_simp; done) | (go_simp; rfl)); (case hp => exact (Reps.none _ _)); intro v17 w26 ho27 hb hg_ hnew_; have R17 := Az.mk ho27; have HB2 := Az.mk (HB.out.trans (hb.mono HB.out.size)); have HBZ := Az.mk HB.out.size; clear HB ho27 hb hg_ hnew_; have HB := HB2; clear HB2) | go_in)
      go_ret
      exact ⟨v17, rfl, by rw [HE.out]; exact Kd.R_lower R17.out HBZ.out, HB.out⟩
    | true =>
      rw [eb] at HROb hsp
      obtain ⟨kf, hkf⟩ := Ev.rounds (free_ev ea eb hFa hFb)
      have HFR := Az.mk (fun (W : World) (hb : Below w.heap.size w W) => spec_l12Free.calls kf n txa Aa ca la txb Ab cb lb _ W (Kd.C_below hra hb) hca (Kd.C_below hrb hb) hcb hkf)
      have HE : Az (res = flatF (rootPl n txa la ++ rootPl n txb lb) n.toNat) := ⟨by rw [hsp]; rfl⟩
      clear hra hrb hca hcb hsp ea eb hkf
      go_enter Try.func49, Try.ntmps49
      go_wp2_with (first | (go_at_call 36; have _tk := tk0; refine (HROa.out _ HB.out).mono ?_; rintro e w12 ⟨rfl, hb⟩; have BA2 := Az.mk (BA.out.below hb); have BB2 := Az.mk (BB.out.below hb); have HB2 := Az.mk (HB.out.trans (hb.mono HB.out.size)); clear BA BB HB hca_0 hca_1 hcb_0 hcb_1; have BA := BA2; have BB := BB2; have HB := HB2; clear BA2 BB2 HB2; have hca_0 := (BA.out.cell 0).trans rfl; have hca_1 := (BA.out.cell 1).trans rfl; have hcb_0 := (BB.out.cell 0).trans rfl; have hcb_1 := (BB.out.cell 1).trans rfl; clear hb; clear tk0 _tk; have tk1 : True := trivial) | (go_at_call 36; have _tk := tk1; refine (HROb.out _ HB.out).mono ?_; rintro e w17 ⟨rfl, hb⟩; have BA2 := Az.mk (BA.out.below hb); have BB2 := Az.mk (BB.out.below hb); have HB2 := Az.mk (HB.out.trans (hb.mono HB.out.size)); clear BA BB HB hca_0 hca_1 hcb_0 hcb_1; have BA := BA2; have BB := BB2; have HB := HB2; clear BA2 BB2 HB2; have hca_0 := (BA.out.cell 0).trans rfl; have hca_1 := (BA.out.cell 1).trans rfl; have hcb_0 := (BB.out.cell 0).trans rfl; have hcb_1 := (BB.out.cell 1).trans rfl; clear hb; clear tk1 _tk; have tk2 : True := trivial) | (go_at_call 91; refine (HFR.out _ HB.out).mono ?_; rintro e w21 ⟨v, rfl, hR, hb⟩; have R21 := Az.mk hR; have HBZ := Az.mk HB.out.size; have HB2 := Az.mk (HB.out.trans (hb.mono HB.out.size)); clear HB hR hb; have HB := HB2; clear HB2) | go_in)
      go_ret
      exact ⟨v, rfl, by rw [HE.out]; exact Kd.R_lower R21.out HBZ.out, HB.out⟩
end Go.Proofs.Ytkoimmeghdbodaa.Print
namespace Go.Proofs.Ytkoimmeghdbodaa.Hd
open Go.RowKit Go.Proofs.Ytkoimmeghdbodaa.Print Go.Proofs.YtkoimmeghdbodaaW.PrintWords Go.Proofs.YtkoimmeghdbodaaW.PrintLast Go.Proofs.YtkoimmeghdbodaaW.PrintMore Go.Proofs.Ytkoimmeghdbodaa.Pure
set_option linter.unusedVariables false
set_option linter.unusedSimpArgs false
theorem specSp_call (n txa txb : Int) {Da Db : List S65} (hFa : FitM Da) (hFb : FitM Db) {w : World} {Ma Mb : AC} (ha : RdR w Ma Da) (hb : RdR w Mb Db) {B : Nat} (hB : B ≤ w.heap.size) :
    Calls Try.prog 49 #[.int .i64 n, .agg (cR Ma (txa, Da)), .agg (cR Mb (txb, Db))] w fun e w' => ∃ M', e = .returned (pV M' (spaceI n txa txb Da Db)) ∧ OwP w' B w.heap.size w'.heap.size M' (spaceI n txa txb Da Db) ∧ Below w.heap.size w w' := by
  refine (sFree_call n txa txb Ma.1 Mb.1 Ma.2 Mb.2 Da Db w ha.2 ha.1 hFa hb.2 hb.1 hFb).mono ?_
  rintro e w' ⟨v, rfl, hR, hb⟩
  obtain ⟨M', rfl, hO⟩ := owP_of hB hR
  exact ⟨M', rfl, hO, hb⟩
theorem implSp_call (n txa txb : Int) {Da Db : List S65} (hFa : FitM Da) (hFb : FitM Db) {w : World} {Ma Mb : AC} (ha : RdR w Ma Da) (hb : RdR w Mb Db) {B : Nat} (hB : B ≤ w.heap.size) :
    Calls Try.prog 48 #[.int .i64 n, .agg (cR Ma (txa, Da)), .agg (cR Mb (txb, Db))] w fun e w' => ∃ M', e = .returned (pV M' (spaceI n txa txb Da Db)) ∧ OwP w' B w.heap.size w'.heap.size M' (spaceI n txa txb Da Db) ∧ Below w.heap.size w w' := by
  refine (spaceFree_call n txa txb Ma.1 Mb.1 Ma.2 Mb.2 Da Db w ha.2 ha.1 hFa.places hb.2 hb.1 hFb.places).mono ?_
  rintro e w' ⟨v, rfl, hR, hb⟩
  obtain ⟨M', rfl, hO⟩ := owP_of hB hR
  exact ⟨M', rfl, hO, hb⟩
end Go.Proofs.Ytkoimmeghdbodaa.Hd
