/- Proved, with what follows on it: the row of the law FnDiskRing. Conditions: the row's alone. Texts of this session and words that the kit's print laid for this seat, merged and cut by shrink.py, a program of this session. -/
import Derived.Test.YtkgpnloghmbmlaaZFnDiskRingE
namespace Go.Proofs.Ytkgpnloghmbmlaa.Hq
open Go.RowKit Go.Proofs.Ytkgpnloghmbmlaa.Print Go.Proofs.YtkgpnloghmbmlaaW.PrintWords Go.Proofs.YtkgpnloghmbmlaaW.PrintLast Go.Proofs.YtkgpnloghmbmlaaW.PrintMore Go.Proofs.Ytkgpnloghmbmlaa.Pure Go.Proofs.Ytkgpnloghmbmlaa.Hd
set_option linter.unusedVariables false
set_option linter.unusedSimpArgs false
def lit4 (r : Nat) : Int := ([0, 0, 2, 1] : List Int).getD r 0
theorem lit4_get {r : Nat} (h : (r : Int) < 4) : (#[.int .i64 0, .int .i64 0, .int .i64 2, .int .i64 1] : Array Value)[r]? = some (.int .i64 (lit4 r)) := by
 have : r = 0 ∨ r = 1 ∨ r = 2 ∨ r = 3 := by omega
 rcases this with rfl | rfl | rfl | rfl <;> rfl
theorem lit4_bd (r : Nat) : 0 ≤ lit4 r ∧ lit4 r ≤ 2 := by
 match r with
 | 0 => decide
 | 1 => decide
 | 2 => decide
 | 3 => decide
 | r + 4 => simp [lit4]
def lit3 (r : Nat) : Int := ([-1, 3, 1] : List Int).getD r 0
theorem lit3_get {r : Nat} (h : (r : Int) < 3) : (#[.int .i64 (-1), .int .i64 3, .int .i64 1] : Array Value)[r]? = some (.int .i64 (lit3 r)) := by
 have : r = 0 ∨ r = 1 ∨ r = 2 := by omega
 rcases this with rfl | rfl | rfl <;> rfl
theorem sizeQ3 : (Try.prog.info? 3).map (·.size) = some 1 := by kernel_rfl
theorem sizeQ24 : (Try.prog.info? 24).map (·.size) = some 1 := by kernel_rfl
theorem sizeQ26 : (Try.prog.info? 26).map (·.size) = some 1 := by kernel_rfl
theorem fits_set1 {D : Dd} {i : Nat} {x : ByteArray} (h : FitsD D) : FitsD { D with l1 := D.l1.set i x } := ⟨by rw [List.length_set]; exact h.h1, h.h2, h.h3, h.h4⟩
theorem fits_set3 {D : Dd} {i : Nat} {x : Bool} (h : FitsD D) : FitsD { D with l3 := D.l3.set i x } := ⟨h.h1, h.h2, by rw [List.length_set]; exact h.h3, h.h4⟩
theorem fits_l4 {D : Dd} {q : List S54} (h : FitsD D) (hl : q.length ≤ 1001) : FitsD { D with l4 := q } := ⟨h.h1, h.h2, h.h3, by
 show q.length ≤ _
 omega⟩
theorem fits_drop {D : Dd} (h : FitsD D) : FitsD { D with l2 := D.l2.drop 1 } := ⟨h.h1, by
 have := h.h2
 show (D.l2.drop 1).length ≤ _
 rw [List.length_drop]
 omega, h.h3, h.h4⟩
theorem ret_as {w0 w w' : World} {b : List Int} {g m : Nat} {x y : Array Value} (e : y = x) (h : DrawsDisk w0 b g m w (.returned (.agg y)) w') : DrawsDisk w0 b g m w (.returned (.agg x)) w' := e ▸ h
theorem spoil_in {D : Dd} (h : GoodD D) {a b c : Nat} (ha : (a : Int) < 12) (hb : (b : Int) < 3) (hc : (c : Int) < 255) : SpoilIn D a b (wrap64 (1 + (c : Int))) := by
 have hs := h.sh
 unfold Shaped at hs
 have hso := slot_good h (a := a) (by omega)
 have e : wrap64 (1 + (c : Int)) = 1 + (c : Int) := wrap_ok (by omega)
 rw [e]
 clear e
 exact ⟨by omega, by omega, by omega, by omega, by rcases hso with h | h <;> omega, by rcases hso with h | h <;> omega, by omega⟩
theorem l3Spoil_callq {w : World} {lo : Nat} {S : Nat → Prop} {M : Mm} {D : Dd} {a b : Nat} {c : Int} (hS : ∀ k, S k → lo ≤ k ∧ k < w.heap.size) (h : OwS w lo S M D) (hs : SpoilIn D a b c) : Calls Try.prog 87 #[.agg (cD M D), .int .i64 (a : Int), .int .i64 (b : Int), .int .i64 c] w (Touch lo S (spoilD D a b c) w) := by
 have up : ∀ {w' : World}, Below lo w w' → ∀ k, S k → (S k ∨ w.heap.size ≤ k) ∧ k < w'.heap.size := fun hb k hk => ⟨.inl hk, Nat.lt_of_lt_of_le (hS k hk).2 hb.size⟩
 by_cases hz : (D.l1.getD a ByteArray.empty).size = 0 ∨ D.l3.getD a false = true
 ·have e : spoilD D a b c = D := if_pos hz
  rw [e]
  refine (qspoil_same h hS hs.a1 hs.a3 hs.l1 hs.l3 ?_).mono fun e w' hh => ⟨M, hh.1, OwS.up (w' := w') hh.2.1 (up hh.2.2.1), hh.2.2⟩
  by_cases h6 : (D.l1.getD a ByteArray.empty).size = 0
  ·exact .inl (empty_of h6)
  ·exact .inr ⟨nonempty_of h6, hz.resolve_left h6⟩
 ·have e : spoilD D a b c = { D with l1 := D.l1.set a (turned (D.l1.getD a ByteArray.empty) b c), l3 := D.l3.set a true } := if_neg hz
  have h7 : D.l3.getD a false = false := by
   cases hh : D.l3.getD a false with
   | false => rfl
   | true => exact absurd (.inr hh) hz
  rw [e]
  refine (qspoil_main h hS hs.a1 hs.a3 hs.l1 hs.l3 (hs.b.resolve_left fun hh => hz (.inl hh)) hs.s hs.c h7).mono fun e w' hh => ?_
  exact ⟨M, by rw [cD_set]; exact hh.1, OwS.up (w' := w') hh.2.1 (up hh.2.2.1), hh.2.2⟩
theorem size9' : (Try.prog.info? 9).map (·.size) = some 1 := by kernel_rfl
theorem elem24 : Try.prog.underlying 24 = some (.slice (Try.prog.elem 24)) := by
 have h := Try.underlying24
 have : Try.prog.elem 24 = 9 := by simp [Program.elem, h]
 rw [this]
 exact h
theorem drop_ev {ops : Array Oper} {Q : Exit → Act → World → Prop} {rest : List Oper} {o : Oper} {a : Act} {w : World} {x : Operand} {g2 c : Nat} {l : List ByteArray} (hgd : o.guard = none) (ho : o.op = .slice 24 x (some (.const (.int .i64 1))) none none) (hx : a.eval x = .slice (some ⟨g2, 0, none⟩) l.length c) (h2 : l.length = 2) (hc : 2 ≤ c)
  (k : ∀ q : List ByteArray, Az (q = l.drop 1) → wpList Try.prog ops Q rest (a.put o.dst (.slice (some ⟨g2, 1, none⟩) q.length (c - 1))) w) : wpList Try.prog ops Q (o :: rest) a w := by
 refine Kd.event_run (v := .slice (some ⟨g2, 1, none⟩) (l.drop 1).length (c - 1)) hgd ?_ (k _ ⟨rfl⟩)
 cases hq : Try.prog.info? 9 with
 | none => have := size9'; rw [hq] at this; simp at this
 | some i =>
  have hs : i.size = 1 := by have := size9'; rw [hq] at this; simpa using this
  have h := cut_from (P := Try.prog) 24 9 .i64 (i := i) Try.underlying24 hq 1 hs (some ⟨g2, 0, none⟩) l.length c 1 (by omega) (by omega) w
  have hz : (⟨g2, 0, none⟩ : Addr).add (Int.toNat 1 * 1) = ⟨g2, 1, none⟩ := add0 g2 1
  have hne : ¬ c = Int.toNat 1 := by show ¬ c = 1; omega
  rw [if_neg hne, Option.map_some, hz] at h
  unfold execOp
  simp only [ho, hx, Option.map_some, Option.map_none]
  rw [show a.eval (Operand.const (.int .i64 1)) = .int .i64 1 from rfl, Sem.run_bind, run_sliceAt_slice (h := elem24), h, List.length_drop]
  rfl
theorem OwS.cap2 {w : World} {b : Nat} {S : Nat → Prop} {M : Mm} {D : Dd} (h : OwS w b S M D) (h2 : D.l2.length = 2) : 2 ≤ M.c2 := h2 ▸ h.rd.h2
set_option maxHeartbeats 8000000 in
set_option maxRecDepth 100000 in
theorem l71Disk_calls {w0 w : World} {b : List Int} {g m : Nat} {cs : Array Value} (hB : Below w0.heap.size w0 w) (hbox : w.heap[g]? = some (.cells cs 104 (0, 0))) (hge : w0.heap.size ≤ g) (hr : Rdr w0 b (m + 3000) cs) : Calls Try.prog 75 #[.pointer (some ⟨g, 0, none⟩)] w (DrawsDisk w0 b g m w) := by
 have hs28 := sizeE28
 have HB := Az.mk hB
 have HR := Az.mk hr
 have HWG := Az.mk (blk_lt hbox)
 have H := Az.mk (Hq.start_box w hge hbox)
 have tk0 : True := trivial
 clear hB hbox hge hr
 go_enter Try.func75, Try.ntmps75
 go_wp2_with (first | ((with_reducible refine zqg (N := 2) rfl ?_); refine H.out.bx rfl (#[.int .i64 0, .slice none 0 0, .slice none 0 0, .slice none 0 0, .slice none 0 0]) 28 ?hr ?_; (case hr => first | (go_simp; done) | (go_simp; rfl)); intro g2 w2 H1; clear H; have H := H1; clear H1; (try simp only [Act.put, List.setIfInBounds_toArray, List.set_cons_zero, List.set_cons_succ])) | ((with_reducible refine zqg (N := 5) rfl ?_); refine H.out.lit rfl (#[.int .i64 0, .int .i64 0, .int .i64 2, .int .i64 1]) 3 4 ?hr ?_; (case hr => first | (go_simp; done) | (go_simp; rfl)); intro g5 w5 H1; clear H; have H := H1; clear H1; (try simp only [Act.put, List.setIfInBounds_toArray, List.set_cons_zero, List.set_cons_succ])) | (go_at_call 48; have _tk := tk0; refine (pick_callq (m := m + 2999) HB.out H.out 2 rfl (HR.out.less (by omega)) 4 (by omega)).mono ?_; rintro e w7 ⟨r7, c7, rfl, hr7, hrd, h1⟩; have HR1 := Az.mk hrd; have H1 := Az.mk h1; have hz7 := eq_true (Int.natCast_nonneg r7); clear hrd h1; clear H HR; have H := H1; have HR := HR1; clear H1 HR1; clear tk0 _tk; have tk1 : True := trivial) | ((with_reducible refine zqg (N := 9) rfl ?_); refine H.out.ld_cell 0 rfl r7 (v := .int .i64 (lit4 r7)) (lit4_get hr7) rfl rfl rfl Try.underlying3 rfl ?_; (try simp only [Act.put, List.setIfInBounds_toArray, List.set_cons_zero, List.set_cons_succ])) | (go_at_call 19; have _tk := tk1; refine (specNew_callz (lit4_bd r7)).mono ?_; rintro e w10 ⟨M10, rfl, ho, hb⟩; have H1 := Az.mk (H.out.made hb); have O := Az.mk (OwS.of_own ho H.out.ge); clear ho hb; clear H; have H := H1; clear H1; clear tk1 _tk; have tk2 : True := trivial) | ((with_reducible refine zqg (N := 3) rfl ?_); refine H.out.bx rfl (#[.int .i64 0, .slice none 0 0, .slice none 0 0, .slice none 0 0, .slice none 0 0]) 28 ?hr ?_; (case hr => first | (go_simp; done) | (go_simp; rfl)); intro g3 w3 H1; clear H; have H := H1; clear H1; (try simp only [Act.put, List.setIfInBounds_toArray, List.set_cons_zero, List.set_cons_succ])) | ((with_reducible refine gate_store (t := 28) (p := 3) rfl ?_); refine H.out.st_row 0 rfl rfl (x := .tmp 3) (y := .tmp 10) rfl rfl rfl (cD M10 (newD (lit4 r7))) rfl hs28 rfl (cD_one _ _) ?_; intro ws1 H1; clear H; have H := H1; clear H1) | (go_at_call 48; have _tk := tk2; refine (pick_callq (m := m + 2998) HB.out H.out 4 rfl (HR.out.less (by omega)) 12 (by omega)).mono ?_; rintro e w12 ⟨r12, c12, rfl, hr12, hrd, h1⟩; have HR1 := Az.mk hrd; have H1 := Az.mk h1; have hz12 := eq_true (Int.natCast_nonneg r12); clear hrd h1; clear H HR; have H := H1; have HR := HR1; clear H1 HR1; clear tk2 _tk; have tk3 : True := trivial))
 go_loopg [4] 13 (fun kq v4 w' => ∃ (n : Nat) (M : Mm) (D : Dd) (S : Nat → Prop) (wo : World) (c : Array Value), v4 = .int .i64 (n : Int) ∧ Az (n + 1 ≤ kq ∧ kq ≤ 13) ∧ Az (GoodD D) ∧ Az (Rdr w0 b (m + 1500 + 100 * n) c) ∧ Az (OwS wo w0.heap.size S M D) ∧ Az (Hq w0.heap.size w w' [.box g3 (cD M D) 28, .set S wo, .box g2 (#[.int .i64 0, .slice none 0 0, .slice none 0 0, .slice none 0 0, .slice none 0 0]) 28, .box g c 104, .set (fun k => k ≠ g ∧ w0.heap.size ≤ k ∧ k < w.heap.size) w]))
 case atStart => exact ⟨r12, M10, newD (lit4 r7), _, _, _, rfl, ⟨by omega⟩, ⟨good_new (lit4_bd r7)⟩, ⟨HR.out.less (by omega)⟩, O, ⟨H.out.sel [0, 1, 3, 4, 5] _ (by decide) rfl⟩⟩
 case round =>
  clear H HR O
  obtain ⟨n, M, D, S, wo, c, rfl, HN, HG, HR, O, H⟩ := hrel
  cases gk with
  | zero => exact absurd HN.out.1 (by omega)
  | succ k1 =>
   have tk0 : True := trivial
   by_cases hn : 0 < (n : Int)
   ·have c14 : decide (0 < (n : Int)) = true := decide_eq_true hn
    go_wp2
    refine start_ (n := 5) (S := fun w' => Hq w0.heap.size w w' [.box g3 (cD M D) 28]) (ds := [4]) #[false, false, false, false, false] (by kernel_rfl) rfl rfl (H.out.drew.sel [0] _ (by decide) rfl) (fun hHeld => ?_)
    have H1 := Az.mk H.out.drew
    clear H; have H := H1; clear H1
    generalize World.drew wr = wd5 at hHeld H ⊢
    refine zqt (i := 0) (N := some 17) (v := .agg (cD M D)) (a' := ?_) #[true, false, false, false, false] rfl rfl (by kernel_rfl) (fun _ _ _ h => h) (Or.inl ⟨by rfl, fun w' s0 => s0.run_row 0 rfl rfl rfl Try.underlying28 rfl hs28⟩) hHeld ?_ ?_
    rotate_left
    ·simp only [Act.put, List.setIfInBounds_toArray, List.set_cons_zero, List.set_cons_succ, i64_w, i32_w]
     rfl
    refine zqp (i := 1) (N := some 18) (v := ?_) (a' := ?_) #[true, true, false, false, false] rfl rfl (by kernel_rfl) (fun _ _ _ h => h) (Or.inl ⟨by rfl, ?_⟩) ?_ ?_
    rotate_left
    ·intro w'
     go_simp
     with_reducible rfl
    rotate_left
    ·simp only [Act.put, List.setIfInBounds_toArray, List.set_cons_zero, List.set_cons_succ, i64_w, i32_w]
     rfl
    refine one_ (i := 2) (N := some 19) #[true, true, true, false, false] rfl rfl (by kernel_rfl) (by decide) (fun K hK => ?_)
    refine goes_ Try.func81 (by kernel_rfl) rfl #[.pointer (some ⟨g, 0, none⟩)] (by rfl) rfl rfl (by (try simp only [List.map_toArray, List.map_cons, List.map_nil]); first | done | rfl) ?_
    refine (put_callq (m := m + 1500 + 100 * (n - 1) + 70) HB.out H.out 3 rfl (HR.out.less (by omega))).mono ?_
    rintro e w19 ⟨x19, c19, rfl, hx, hrd, h1⟩
    refine ⟨_, rfl, ?_⟩
    have HR1 := Az.mk hrd
    have H1 := Az.mk h1
    have HX19 := Az.mk hx
    clear hrd h1 hx
    clear H HR; have H := H1; have HR := HR1; clear H1 HR1
    refine hK.out _ _ (H.out.sel [0] _ (by decide) rfl) (fun hHeld => ?_)
    clear hK K
    refine norm_ (a' := ?_) ?_ ?_
    rotate_left
    ·show Act.put _ (some 19) _ = _
     simp only [Act.put, List.setIfInBounds_toArray, List.set_cons_zero, List.set_cons_succ, i64_w, i32_w]
     rfl
    refine one_ (i := 3) (N := some 20) #[true, true, true, true, false] rfl rfl (by kernel_rfl) (by decide) (fun K hK => ?_)
    refine goes_ Try.func85 (by kernel_rfl) rfl #[.agg (cD M D), .agg (cP x19)] (by rfl) rfl rfl (by (try simp only [List.map_toArray, List.map_cons, List.map_nil]); first | done | rfl) ?_
    refine (l3Write_callz (HB.out.trans H.out.bel) (H.out.set_in 1 rfl) (H.out.ows 1 rfl O.out) HG.out x19).mono ?_
    rintro e w20 ⟨M20, rfl, ho, hb, hk⟩
    refine ⟨_, rfl, ?_⟩
    have H1 := Az.mk (H.out.wrote 1 rfl hb hk)
    have O1 := Az.mk ho
    have HG1 := Az.mk (good_laid HG.out HX19.out)
    clear ho hb hk
    clear H O HG; have H := H1; have O := O1; have HG := HG1; clear H1 O1 HG1
    refine hK.out _ _ (H.out.sel [0] _ (by decide) rfl) (fun hHeld => ?_)
    clear hK K
    refine norm_ (a' := ?_) ?_ ?_
    rotate_left
    ·show Act.put _ (some 20) _ = _
     simp only [Act.put, List.setIfInBounds_toArray, List.set_cons_zero, List.set_cons_succ, i64_w, i32_w]
     rfl
    refine last_ (i := 4) (N := none) #[true, true, true, true, true] rfl rfl (by kernel_rfl) (by decide) (fun K hK => ?_)
    refine H.out.last_row 0 rfl (by rfl) (x := .tmp 3) (y := .tmp 20) rfl rfl rfl (cD M20 (laidD D x19)) rfl hs28 rfl (cD_one _ _) ?_
    intro ws5 H1
    clear H; have H := H1; clear H1
    refine hK.out _ _ ?_
    clear hK K
    refine norm_ (a' := ?_) ?_ ?_
    rotate_left
    ·rfl
    refine done_ (by kernel_rfl) ?_
    go_upto_if 23 with (first | (go_at_call 48; have _tk := tk0; refine (pick_callq (m := m + 1500 + 100 * (n - 1) + 69) HB.out H.out 3 rfl (HR.out.less (by omega)) 3 (by omega)).mono ?_; rintro e w22 ⟨r22, c22, rfl, hr22, hrd, h1⟩; have HR1 := Az.mk hrd; have H1 := Az.mk h1; have hz22 := eq_true (Int.natCast_nonneg r22); clear hrd h1; clear H HR; have H := H1; have HR := HR1; clear H1 HR1; clear tk0 _tk; have tk1 : True := trivial))
    (try simp only [Act.put, List.setIfInBounds_toArray, List.set_cons_zero, List.set_cons_succ])
    by_cases z22 : (r22 : Int) = 0
    ·skip
     have z22a : ((r22 : Int) == 0) = true := beq_iff_eq.mpr z22
     have z22b : decide ((r22 : Int) = 0) = true := decide_eq_true z22
     clear z22
     go_upto_if 28 with (first | ((with_reducible refine zqg (N := 24) rfl ?_); refine H.out.ld_row 0 rfl rfl rfl rfl Try.underlying28 rfl hs28 ?_; (try simp only [Act.put, List.setIfInBounds_toArray, List.set_cons_zero, List.set_cons_succ])) | (go_at_call 79; have _tk := tk1; refine (l3Flush_callq (HB.out.trans H.out.bel) (H.out.ows 1 rfl O.out) HG.out).mono ?_; rintro e w25 ⟨M25, rfl, ho, hb, hk⟩; have H1 := Az.mk (H.out.wrote 1 rfl hb hk); have O1 := Az.mk ho; have HG1 := Az.mk (good_come HG.out); clear ho hb hk; clear H O HG; have H := H1; have O := O1; have HG := HG1; clear H1 O1 HG1; clear tk1 _tk; have tk2 : True := trivial) | ((with_reducible refine gate_store (t := 28) (p := 3) rfl ?_); refine H.out.st_row 0 rfl rfl (x := .tmp 3) (y := .tmp 25) rfl rfl rfl (cD M25 (comeD (laidD D x19))) rfl hs28 rfl (cD_one _ _) ?_; intro ws7 H1; clear H; have H := H1; clear H1) | (go_at_call 48; have _tk := tk2; refine (pick_callq (m := m + 1500 + 100 * (n - 1) + 68) HB.out H.out 3 rfl (HR.out.less (by omega)) 5 (by omega)).mono ?_; rintro e w27 ⟨r27, c27, rfl, hr27, hrd, h1⟩; have HR1 := Az.mk hrd; have H1 := Az.mk h1; have hz27 := eq_true (Int.natCast_nonneg r27); clear hrd h1; clear H HR; have H := H1; have HR := HR1; clear H1 HR1; clear tk2 _tk; have tk3 : True := trivial))
     (try simp only [Act.put, List.setIfInBounds_toArray, List.set_cons_zero, List.set_cons_succ])
     by_cases z27 : (r27 : Int) = 0
     ·skip
      have z27a : ((r27 : Int) == 0) = true := beq_iff_eq.mpr z27
      have z27b : decide ((r27 : Int) = 0) = true := decide_eq_true z27
      clear z27
      go_wp2
      refine start_ (n := 10) (S := fun w' => Hq w0.heap.size w w' [.box g3 (cD M25 (comeD (laidD D x19))) 28]) (ds := [9]) #[false, false, false, false, false, false, false, false, false, false] (by kernel_rfl) rfl rfl (H.out.drew.sel [0] _ (by decide) rfl) (fun hHeld => ?_)
      have H1 := Az.mk H.out.drew
      clear H; have H := H1; clear H1
      generalize World.drew w27 = wd9 at hHeld H ⊢
      refine zqt (i := 0) (N := some 29) (v := .agg (cD M25 (comeD (laidD D x19)))) (a' := ?_) #[true, false, false, false, false, false, false, false, false, false] rfl rfl (by kernel_rfl) (fun _ _ _ h => h) (Or.inl ⟨by rfl, fun w' s0 => s0.run_row 0 rfl rfl rfl Try.underlying28 rfl hs28⟩) hHeld ?_ ?_
      rotate_left
      ·simp only [Act.put, List.setIfInBounds_toArray, List.set_cons_zero, List.set_cons_succ, i64_w, i32_w]
       rfl
      refine zqp (i := 1) (N := some 30) (v := ?_) (a' := ?_) #[true, true, false, false, false, false, false, false, false, false] rfl rfl (by kernel_rfl) (fun _ _ _ h => h) (Or.inl ⟨by rfl, ?_⟩) ?_ ?_
      rotate_left
      ·intro w'
       go_simp
       with_reducible rfl
      rotate_left
      ·simp only [Act.put, List.setIfInBounds_toArray, List.set_cons_zero, List.set_cons_succ, i64_w, i32_w]
       rfl
      refine zqp (i := 3) (N := some 32) (v := ?_) (a' := ?_) #[true, true, false, true, false, false, false, false, false, false] rfl rfl (by kernel_rfl) (fun _ _ _ h => h) (Or.inl ⟨by rfl, ?_⟩) ?_ ?_
      rotate_left
      ·intro w'
       go_simp
       with_reducible rfl
      rotate_left
      ·simp only [Act.put, List.setIfInBounds_toArray, List.set_cons_zero, List.set_cons_succ, i64_w, i32_w]
       rfl
      refine zqp (i := 5) (N := some 34) (v := ?_) (a' := ?_) #[true, true, false, true, false, true, false, false, false, false] rfl rfl (by kernel_rfl) (fun _ _ _ h => h) (Or.inl ⟨by rfl, ?_⟩) ?_ ?_
      rotate_left
      ·intro w'
       go_simp
       with_reducible rfl
      rotate_left
      ·simp only [Act.put, List.setIfInBounds_toArray, List.set_cons_zero, List.set_cons_succ, i64_w, i32_w]
       rfl
      refine one_ (i := 2) (N := some 31) #[true, true, true, true, false, true, false, false, false, false] rfl rfl (by kernel_rfl) (by decide) (fun K hK => ?_)
      refine goes_ Try.func48 (by kernel_rfl) rfl #[.pointer (some ⟨g, 0, none⟩), .int .i64 12] (by rfl) rfl rfl (by (try simp only [List.map_toArray, List.map_cons, List.map_nil]); first | done | rfl) ?_
      refine (pick_callq (m := m + 1500 + 100 * (n - 1) + 67) HB.out H.out 3 rfl (HR.out.less (by omega)) 12 (by omega)).mono ?_
      rintro e w31 ⟨r31, c31, rfl, hr31, hrd, h1⟩
      refine ⟨_, rfl, ?_⟩
      have HR1 := Az.mk hrd
      have H1 := Az.mk h1
      have hz31 := eq_true (Int.natCast_nonneg r31)
      clear hrd h1
      clear H HR; have H := H1; have HR := HR1; clear H1 HR1
      refine hK.out _ _ (H.out.sel [0] _ (by decide) rfl) (fun hHeld => ?_)
      clear hK K
      refine norm_ (a' := ?_) ?_ ?_
      rotate_left
      ·show Act.put _ (some 31) _ = _
       simp only [Act.put, List.setIfInBounds_toArray, List.set_cons_zero, List.set_cons_succ, i64_w, i32_w]
       rfl
      refine one_ (i := 4) (N := some 33) #[true, true, true, true, true, true, false, false, false, false] rfl rfl (by kernel_rfl) (by decide) (fun K hK => ?_)
      refine goes_ Try.func48 (by kernel_rfl) rfl #[.pointer (some ⟨g, 0, none⟩), .int .i64 3] (by rfl) rfl rfl (by (try simp only [List.map_toArray, List.map_cons, List.map_nil]); first | done | rfl) ?_
      refine (pick_callq (m := m + 1500 + 100 * (n - 1) + 66) HB.out H.out 3 rfl (HR.out.less (by omega)) 3 (by omega)).mono ?_
      rintro e w33 ⟨r33, c33, rfl, hr33, hrd, h1⟩
      refine ⟨_, rfl, ?_⟩
      have HR1 := Az.mk hrd
      have H1 := Az.mk h1
      have hz33 := eq_true (Int.natCast_nonneg r33)
      clear hrd h1
      clear H HR; have H := H1; have HR := HR1; clear H1 HR1
      refine hK.out _ _ (H.out.sel [0] _ (by decide) rfl) (fun hHeld => ?_)
      clear hK K
      refine norm_ (a' := ?_) ?_ ?_
      rotate_left
      ·show Act.put _ (some 33) _ = _
       simp only [Act.put, List.setIfInBounds_toArray, List.set_cons_zero, List.set_cons_succ, i64_w, i32_w]
       rfl
      refine one_ (i := 6) (N := some 35) #[true, true, true, true, true, true, true, false, false, false] rfl rfl (by kernel_rfl) (by decide) (fun K hK => ?_)
      refine goes_ Try.func48 (by kernel_rfl) rfl #[.pointer (some ⟨g, 0, none⟩), .int .i64 255] (by rfl) rfl rfl (by (try simp only [List.map_toArray, List.map_cons, List.map_nil]); first | done | rfl) ?_
      refine (pick_callq (m := m + 1500 + 100 * (n - 1) + 65) HB.out H.out 3 rfl (HR.out.less (by omega)) 255 (by omega)).mono ?_
      rintro e w35 ⟨r35, c35, rfl, hr35, hrd, h1⟩
      refine ⟨_, rfl, ?_⟩
      have HR1 := Az.mk hrd
      have H1 := Az.mk h1
      have hz35 := eq_true (Int.natCast_nonneg r35)
      clear hrd h1
      clear H HR; have H := H1; have HR := HR1; clear H1 HR1
      refine hK.out _ _ (H.out.sel [0] _ (by decide) rfl) (fun hHeld => ?_)
      clear hK K
      refine norm_ (a' := ?_) ?_ ?_
      rotate_left
      ·show Act.put _ (some 35) _ = _
       simp only [Act.put, List.setIfInBounds_toArray, List.set_cons_zero, List.set_cons_succ, i64_w, i32_w]
       rfl
      refine zqp (i := 7) (N := some 36) (v := ?_) (a' := ?_) #[true, true, true, true, true, true, true, true, false, false] rfl rfl (by kernel_rfl) (fun _ _ _ h => h) (Or.inl ⟨by rfl, ?_⟩) ?_ ?_
      rotate_left
      ·intro w'
       go_simp
       with_reducible rfl
      rotate_left
      ·simp only [Act.put, List.setIfInBounds_toArray, List.set_cons_zero, List.set_cons_succ, i64_w, i32_w]
       rfl
      refine one_ (i := 8) (N := some 37) #[true, true, true, true, true, true, true, true, true, false] rfl rfl (by kernel_rfl) (by decide) (fun K hK => ?_)
      refine goes_ Try.func87 (by kernel_rfl) rfl #[.agg (cD M25 (comeD (laidD D x19))), .int .i64 (r31 : Int), .int .i64 (r33 : Int), .int .i64 (wrap64 (1 + (r35 : Int)))] (by rfl) rfl rfl (by (try simp only [List.map_toArray, List.map_cons, List.map_nil]); first | done | rfl) ?_
      refine (l3Spoil_callq (H.out.set_in 1 rfl) (H.out.ows 1 rfl O.out) (spoil_in HG.out hr31 hr33 hr35)).mono ?_
      rintro e w37 ⟨M37, rfl, ho, hb, hk⟩
      refine ⟨_, rfl, ?_⟩
      have H1 := Az.mk (H.out.wrote 1 rfl hb hk)
      have O1 := Az.mk ho
      have HG1 := Az.mk (good_spoil (a := r31) (b := r33) (c := wrap64 (1 + (r35 : Int))) HG.out (by omega))
      clear ho hb hk
      clear H O HG; have H := H1; have O := O1; have HG := HG1; clear H1 O1 HG1
      refine hK.out _ _ (H.out.sel [0] _ (by decide) rfl) (fun hHeld => ?_)
      clear hK K
      refine norm_ (a' := ?_) ?_ ?_
      rotate_left
      ·show Act.put _ (some 37) _ = _
       simp only [Act.put, List.setIfInBounds_toArray, List.set_cons_zero, List.set_cons_succ, i64_w, i32_w]
       rfl
      refine last_ (i := 9) (N := none) #[true, true, true, true, true, true, true, true, true, true] rfl rfl (by kernel_rfl) (by decide) (fun K hK => ?_)
      refine H.out.last_row 0 rfl (by rfl) (x := .tmp 3) (y := .tmp 37) rfl rfl rfl (cD M37 (spoilD (comeD (laidD D x19)) r31 r33 (wrap64 (1 + (r35 : Int))))) rfl hs28 rfl (cD_one _ _) ?_
      intro ws9 H1
      clear H; have H := H1; clear H1
      refine hK.out _ _ ?_
      clear hK K
      refine norm_ (a' := ?_) ?_ ?_
      rotate_left
      ·rfl
      refine done_ (by kernel_rfl) ?_
      go_wp2
      go_roundg k1
      case measure => omega
      case rel => exact ⟨n - 1, M37, (spoilD (comeD (laidD D x19)) r31 r33 (wrap64 (1 + (r35 : Int)))), _, _, _, by have := HN.out; rw [wrap_ok (by omega)]; congr 1; omega, ⟨by have := HN.out; omega⟩, HG, ⟨HR.out.less (by omega)⟩, O, ⟨H.out.sel [0, 1, 2, 3, 4] _ (by decide) rfl⟩⟩
     ·skip
      have z27a : ((r27 : Int) == 0) = false := beq_eq_false_iff_ne.mpr z27
      have z27b : decide ((r27 : Int) = 0) = false := decide_eq_false z27
      clear z27
      go_wp2
      go_roundg k1
      case measure => omega
      case rel => exact ⟨n - 1, M25, (comeD (laidD D x19)), _, _, _, by have := HN.out; rw [wrap_ok (by omega)]; congr 1; omega, ⟨by have := HN.out; omega⟩, HG, ⟨HR.out.less (by omega)⟩, O, ⟨H.out.sel [0, 1, 2, 3, 4] _ (by decide) rfl⟩⟩
    ·skip
     have z22a : ((r22 : Int) == 0) = false := beq_eq_false_iff_ne.mpr z22
     have z22b : decide ((r22 : Int) = 0) = false := decide_eq_false z22
     clear z22
     go_upto_if 28 with (first | (go_at_call 48; have _tk := tk1; refine (pick_callq (m := m + 1500 + 100 * (n - 1) + 68) HB.out H.out 3 rfl (HR.out.less (by omega)) 5 (by omega)).mono ?_; rintro e w27 ⟨r27, c27, rfl, hr27, hrd, h1⟩; have HR1 := Az.mk hrd; have H1 := Az.mk h1; have hz27 := eq_true (Int.natCast_nonneg r27); clear hrd h1; clear H HR; have H := H1; have HR := HR1; clear H1 HR1; clear tk1 _tk; have tk2 : True := trivial))
     (try simp only [Act.put, List.setIfInBounds_toArray, List.set_cons_zero, List.set_cons_succ])
     by_cases z27 : (r27 : Int) = 0
     ·skip
      have z27a : ((r27 : Int) == 0) = true := beq_iff_eq.mpr z27
      have z27b : decide ((r27 : Int) = 0) = true := decide_eq_true z27
      clear z27
      go_wp2
      refine start_ (n := 10) (S := fun w' => Hq w0.heap.size w w' [.box g3 (cD M20 (laidD D x19)) 28]) (ds := [9]) #[false, false, false, false, false, false, false, false, false, false] (by kernel_rfl) rfl rfl (H.out.drew.sel [0] _ (by decide) rfl) (fun hHeld => ?_)
      have H1 := Az.mk H.out.drew
      clear H; have H := H1; clear H1
      generalize World.drew w27 = wd9 at hHeld H ⊢
      refine zqt (i := 0) (N := some 29) (v := .agg (cD M20 (laidD D x19))) (a' := ?_) #[true, false, false, false, false, false, false, false, false, false] rfl rfl (by kernel_rfl) (fun _ _ _ h => h) (Or.inl ⟨by rfl, fun w' s0 => s0.run_row 0 rfl rfl rfl Try.underlying28 rfl hs28⟩) hHeld ?_ ?_
      rotate_left
      ·simp only [Act.put, List.setIfInBounds_toArray, List.set_cons_zero, List.set_cons_succ, i64_w, i32_w]
       rfl
      refine zqp (i := 1) (N := some 30) (v := ?_) (a' := ?_) #[true, true, false, false, false, false, false, false, false, false] rfl rfl (by kernel_rfl) (fun _ _ _ h => h) (Or.inl ⟨by rfl, ?_⟩) ?_ ?_
      rotate_left
      ·intro w'
       go_simp
       with_reducible rfl
      rotate_left
      ·simp only [Act.put, List.setIfInBounds_toArray, List.set_cons_zero, List.set_cons_succ, i64_w, i32_w]
       rfl
      refine zqp (i := 3) (N := some 32) (v := ?_) (a' := ?_) #[true, true, false, true, false, false, false, false, false, false] rfl rfl (by kernel_rfl) (fun _ _ _ h => h) (Or.inl ⟨by rfl, ?_⟩) ?_ ?_
      rotate_left
      ·intro w'
       go_simp
       with_reducible rfl
      rotate_left
      ·simp only [Act.put, List.setIfInBounds_toArray, List.set_cons_zero, List.set_cons_succ, i64_w, i32_w]
       rfl
      refine zqp (i := 5) (N := some 34) (v := ?_) (a' := ?_) #[true, true, false, true, false, true, false, false, false, false] rfl rfl (by kernel_rfl) (fun _ _ _ h => h) (Or.inl ⟨by rfl, ?_⟩) ?_ ?_
      rotate_left
      ·intro w'
       go_simp
       with_reducible rfl
      rotate_left
      ·simp only [Act.put, List.setIfInBounds_toArray, List.set_cons_zero, List.set_cons_succ, i64_w, i32_w]
       rfl
      refine one_ (i := 2) (N := some 31) #[true, true, true, true, false, true, false, false, false, false] rfl rfl (by kernel_rfl) (by decide) (fun K hK => ?_)
      refine goes_ Try.func48 (by kernel_rfl) rfl #[.pointer (some ⟨g, 0, none⟩), .int .i64 12] (by rfl) rfl rfl (by (try simp only [List.map_toArray, List.map_cons, List.map_nil]); first | done | rfl) ?_
      refine (pick_callq (m := m + 1500 + 100 * (n - 1) + 67) HB.out H.out 3 rfl (HR.out.less (by omega)) 12 (by omega)).mono ?_
      rintro e w31 ⟨r31, c31, rfl, hr31, hrd, h1⟩
      refine ⟨_, rfl, ?_⟩
      have HR1 := Az.mk hrd
      have H1 := Az.mk h1
      have hz31 := eq_true (Int.natCast_nonneg r31)
      clear hrd h1
      clear H HR; have H := H1; have HR := HR1; clear H1 HR1
      refine hK.out _ _ (H.out.sel [0] _ (by decide) rfl) (fun hHeld => ?_)
      clear hK K
      refine norm_ (a' := ?_) ?_ ?_
      rotate_left
      ·show Act.put _ (some 31) _ = _
       simp only [Act.put, List.setIfInBounds_toArray, List.set_cons_zero, List.set_cons_succ, i64_w, i32_w]
       rfl
      refine one_ (i := 4) (N := some 33) #[true, true, true, true, true, true, false, false, false, false] rfl rfl (by kernel_rfl) (by decide) (fun K hK => ?_)
      refine goes_ Try.func48 (by kernel_rfl) rfl #[.pointer (some ⟨g, 0, none⟩), .int .i64 3] (by rfl) rfl rfl (by (try simp only [List.map_toArray, List.map_cons, List.map_nil]); first | done | rfl) ?_
      refine (pick_callq (m := m + 1500 + 100 * (n - 1) + 66) HB.out H.out 3 rfl (HR.out.less (by omega)) 3 (by omega)).mono ?_
      rintro e w33 ⟨r33, c33, rfl, hr33, hrd, h1⟩
      refine ⟨_, rfl, ?_⟩
      have HR1 := Az.mk hrd
      have H1 := Az.mk h1
      have hz33 := eq_true (Int.natCast_nonneg r33)
      clear hrd h1
      clear H HR; have H := H1; have HR := HR1; clear H1 HR1
      refine hK.out _ _ (H.out.sel [0] _ (by decide) rfl) (fun hHeld => ?_)
      clear hK K
      refine norm_ (a' := ?_) ?_ ?_
      rotate_left
      ·show Act.put _ (some 33) _ = _
       simp only [Act.put, List.setIfInBounds_toArray, List.set_cons_zero, List.set_cons_succ, i64_w, i32_w]
       rfl
      refine one_ (i := 6) (N := some 35) #[true, true, true, true, true, true, true, false, false, false] rfl rfl (by kernel_rfl) (by decide) (fun K hK => ?_)
      refine goes_ Try.func48 (by kernel_rfl) rfl #[.pointer (some ⟨g, 0, none⟩), .int .i64 255] (by rfl) rfl rfl (by (try simp only [List.map_toArray, List.map_cons, List.map_nil]); first | done | rfl) ?_
      refine (pick_callq (m := m + 1500 + 100 * (n - 1) + 65) HB.out H.out 3 rfl (HR.out.less (by omega)) 255 (by omega)).mono ?_
      rintro e w35 ⟨r35, c35, rfl, hr35, hrd, h1⟩
      refine ⟨_, rfl, ?_⟩
      have HR1 := Az.mk hrd
      have H1 := Az.mk h1
      have hz35 := eq_true (Int.natCast_nonneg r35)
      clear hrd h1
      clear H HR; have H := H1; have HR := HR1; clear H1 HR1
      refine hK.out _ _ (H.out.sel [0] _ (by decide) rfl) (fun hHeld => ?_)
      clear hK K
      refine norm_ (a' := ?_) ?_ ?_
      rotate_left
      ·show Act.put _ (some 35) _ = _
       simp only [Act.put, List.setIfInBounds_toArray, List.set_cons_zero, List.set_cons_succ, i64_w, i32_w]
       rfl
      refine zqp (i := 7) (N := some 36) (v := ?_) (a' := ?_) #[true, true, true, true, true, true, true, true, false, false] rfl rfl (by kernel_rfl) (fun _ _ _ h => h) (Or.inl ⟨by rfl, ?_⟩) ?_ ?_
      rotate_left
      ·intro w'
       go_simp
       with_reducible rfl
      rotate_left
      ·simp only [Act.put, List.setIfInBounds_toArray, List.set_cons_zero, List.set_cons_succ, i64_w, i32_w]
       rfl
      refine one_ (i := 8) (N := some 37) #[true, true, true, true, true, true, true, true, true, false] rfl rfl (by kernel_rfl) (by decide) (fun K hK => ?_)
      refine goes_ Try.func87 (by kernel_rfl) rfl #[.agg (cD M20 (laidD D x19)), .int .i64 (r31 : Int), .int .i64 (r33 : Int), .int .i64 (wrap64 (1 + (r35 : Int)))] (by rfl) rfl rfl (by (try simp only [List.map_toArray, List.map_cons, List.map_nil]); first | done | rfl) ?_
      refine (l3Spoil_callq (H.out.set_in 1 rfl) (H.out.ows 1 rfl O.out) (spoil_in HG.out hr31 hr33 hr35)).mono ?_
      rintro e w37 ⟨M37, rfl, ho, hb, hk⟩
      refine ⟨_, rfl, ?_⟩
      have H1 := Az.mk (H.out.wrote 1 rfl hb hk)
      have O1 := Az.mk ho
      have HG1 := Az.mk (good_spoil (a := r31) (b := r33) (c := wrap64 (1 + (r35 : Int))) HG.out (by omega))
      clear ho hb hk
      clear H O HG; have H := H1; have O := O1; have HG := HG1; clear H1 O1 HG1
      refine hK.out _ _ (H.out.sel [0] _ (by decide) rfl) (fun hHeld => ?_)
      clear hK K
      refine norm_ (a' := ?_) ?_ ?_
      rotate_left
      ·show Act.put _ (some 37) _ = _
       simp only [Act.put, List.setIfInBounds_toArray, List.set_cons_zero, List.set_cons_succ, i64_w, i32_w]
       rfl
      refine last_ (i := 9) (N := none) #[true, true, true, true, true, true, true, true, true, true] rfl rfl (by kernel_rfl) (by decide) (fun K hK => ?_)
      refine H.out.last_row 0 rfl (by rfl) (x := .tmp 3) (y := .tmp 37) rfl rfl rfl (cD M37 (spoilD (laidD D x19) r31 r33 (wrap64 (1 + (r35 : Int))))) rfl hs28 rfl (cD_one _ _) ?_
      intro ws9 H1
      clear H; have H := H1; clear H1
      refine hK.out _ _ ?_
      clear hK K
      refine norm_ (a' := ?_) ?_ ?_
      rotate_left
      ·rfl
      refine done_ (by kernel_rfl) ?_
      go_wp2
      go_roundg k1
      case measure => omega
      case rel => exact ⟨n - 1, M37, (spoilD (laidD D x19) r31 r33 (wrap64 (1 + (r35 : Int)))), _, _, _, by have := HN.out; rw [wrap_ok (by omega)]; congr 1; omega, ⟨by have := HN.out; omega⟩, HG, ⟨HR.out.less (by omega)⟩, O, ⟨H.out.sel [0, 1, 2, 3, 4] _ (by decide) rfl⟩⟩
     ·skip
      have z27a : ((r27 : Int) == 0) = false := beq_eq_false_iff_ne.mpr z27
      have z27b : decide ((r27 : Int) = 0) = false := decide_eq_false z27
      clear z27
      go_wp2
      go_roundg k1
      case measure => omega
      case rel => exact ⟨n - 1, M20, (laidD D x19), _, _, _, by have := HN.out; rw [wrap_ok (by omega)]; congr 1; omega, ⟨by have := HN.out; omega⟩, HG, ⟨HR.out.less (by omega)⟩, O, ⟨H.out.sel [0, 1, 2, 3, 4] _ (by decide) rfl⟩⟩
   ·have c14 : decide (0 < (n : Int)) = false := decide_eq_false hn
    obtain ⟨A1, c1, A2, c2, A3, c3, A4, c4⟩ := M
    have hsh := HG.out.sh
    unfold Shaped at hsh
    obtain ⟨g1, e1, _, q1, _⟩ := own_addr O.out.o1 (by omega)
    obtain ⟨p2, e2, _, q2, _⟩ := own_addr O.out.o2 (by omega)
    obtain ⟨p3, e3, _, q3, _⟩ := own_addr O.out.o3 (by omega)
    have S1 := Az.mk q1.1
    have S3 := Az.mk q3
    simp only at e1 e2 e3
    subst e1 e2 e3
    clear q1 q2 q3 hsh
    go_upto_if 40 with (first | (go_at_call 48; have _tk := tk0; refine (pick_callq (m := m + 1399) HB.out H.out 3 rfl (HR.out.less (by omega)) 30 (by omega)).mono ?_; rintro e w39 ⟨r39, c39, rfl, hr39, hrd, h1⟩; have HR1 := Az.mk hrd; have H1 := Az.mk h1; have hz39 := eq_true (Int.natCast_nonneg r39); clear hrd h1; clear H HR; have H := H1; have HR := HR1; clear H1 HR1; clear tk0 _tk; have tk1 : True := trivial))
    (try simp only [Act.put, List.setIfInBounds_toArray, List.set_cons_zero, List.set_cons_succ])
    by_cases y0 : (r39 : Int) = 0
    ·skip
     have y0a : ((r39 : Int) == 0) = true := beq_iff_eq.mpr y0
     have y0b : decide ((r39 : Int) = 0) = true := decide_eq_true y0
     clear y0
     go_wp2_with (first | ((with_reducible refine zqg (N := 42) rfl ?_); refine H.out.lit rfl (#[.int .i64 (-1), .int .i64 3, .int .i64 1]) 3 3 ?hr ?_; (case hr => first | (go_simp; done) | (go_simp; rfl)); intro g42 w42 H1; clear H; have H := H1; clear H1; (try simp only [Act.put, List.setIfInBounds_toArray, List.set_cons_zero, List.set_cons_succ])) | (go_at_call 48; have _tk := tk1; refine (pick_callq (m := m + 1398) HB.out H.out 4 rfl (HR.out.less (by omega)) 3 (by omega)).mono ?_; rintro e w44 ⟨r44, c44, rfl, hr44, hrd, h1⟩; have HR1 := Az.mk hrd; have H1 := Az.mk h1; have hz44 := eq_true (Int.natCast_nonneg r44); clear hrd h1; clear H HR; have H := H1; have HR := HR1; clear H1 HR1; clear tk1 _tk; have tk2 : True := trivial) | ((with_reducible refine zqg (N := 46) rfl ?_); refine H.out.ld_cell 0 rfl r44 (v := .int .i64 (lit3 r44)) (lit3_get hr44) rfl rfl rfl Try.underlying3 rfl ?_; (try simp only [Act.put, List.setIfInBounds_toArray, List.set_cons_zero, List.set_cons_succ])) | ((with_reducible refine gate_store (t := 3) (p := 47) rfl ?_); refine H.out.stb 1 rfl 0 (.int .i64 (lit3 r44)) rfl rfl sizeQ3 rfl rfl rfl rfl rfl ?_; intro ws12 H1; clear H; have H := H1; clear H1) | ((with_reducible refine zqg (N := 92) rfl ?_); refine H.out.ld_row 1 rfl rfl rfl rfl Try.underlying28 rfl hs28 ?_; (try simp only [Act.put, List.setIfInBounds_toArray, List.set_cons_zero, List.set_cons_succ])) | ((with_reducible refine gate_store (t := 28) (p := 2) rfl ?_); refine H.out.st_row 3 rfl rfl (x := .tmp 2) (y := .tmp 92) rfl rfl rfl (cD ⟨some ⟨g1, 0, none⟩, c1, some ⟨p2, 0, none⟩, c2, some ⟨p3, 0, none⟩, c3, A4, c4⟩ { D with st := lit3 r44 }) rfl hs28 rfl (cD_one _ _) ?_; intro ws24 H1; clear H; have H := H1; clear H1))
     exact bodyPost_ret (results_cell_row rfl _ _ g2 28 _ (0, 0) _ rfl (H.out.box 3 rfl) Try.underlying28 rfl (by kernel_rfl)) rfl ((draws_of HWG.out H.out 4 5 2 rfl rfl rfl (by decide) (by decide) (HR.out.less (m' := m) (by omega)) (OwS.lies (show OwS _ _ _ ⟨some ⟨g1, 0, none⟩, c1, some ⟨p2, 0, none⟩, c2, some ⟨p3, 0, none⟩, c3, A4, c4⟩ { D with st := lit3 r44 } from ⟨O.out.o1, O.out.o2, O.out.o3, O.out.o4⟩)) ((fits_good HG.out : FitsD D))))
    ·skip
     have y0a : ((r39 : Int) == 0) = false := beq_eq_false_iff_ne.mpr y0
     have y0b : decide ((r39 : Int) = 0) = false := decide_eq_false y0
     clear y0
     by_cases y1 : (r39 : Int) = 1
     ·skip
      have y1a : ((r39 : Int) == 1) = true := beq_iff_eq.mpr y1
      have y1b : decide ((r39 : Int) = 1) = true := decide_eq_true y1
      clear y1
      go_wp2
      refine start_ (n := 6) (S := fun w' => Hq w0.heap.size w w' [.box g3 (cD ⟨some ⟨g1, 0, none⟩, c1, some ⟨p2, 0, none⟩, c2, some ⟨p3, 0, none⟩, c3, A4, c4⟩ D) 28]) (ds := [5]) #[false, false, false, false, false, false] (by kernel_rfl) rfl rfl (H.out.drew.sel [0] _ (by decide) rfl) (fun hHeld => ?_)
      have H1 := Az.mk H.out.drew
      clear H; have H := H1; clear H1
      generalize World.drew w39 = wd14 at hHeld H ⊢
      refine zqp (i := 0) (N := some 50) (v := ?_) (a' := ?_) #[true, false, false, false, false, false] rfl rfl (by kernel_rfl) (fun _ _ _ h => h) (Or.inl ⟨by rfl, ?_⟩) ?_ ?_
      rotate_left
      ·intro w'
       go_simp
       with_reducible rfl
      rotate_left
      ·simp only [Act.put, List.setIfInBounds_toArray, List.set_cons_zero, List.set_cons_succ, i64_w, i32_w]
       rfl
      refine zqt (i := 1) (N := some 51) (v := .slice (some ⟨g1, 0, none⟩) D.l1.length c1) (a' := ?_) #[true, true, false, false, false, false] rfl rfl (by kernel_rfl) (fun _ _ _ h => h) (Or.inl ⟨by rfl, fun w' s0 => s0.run_cell 0 rfl 1 rfl rfl rfl Try.underlying24 rfl⟩) hHeld ?_ ?_
      rotate_left
      ·simp only [Act.put, List.setIfInBounds_toArray, List.set_cons_zero, List.set_cons_succ, i64_w, i32_w]
       rfl
      refine zqp (i := 2) (N := some 52) (v := ?_) (a' := ?_) #[true, true, true, false, false, false] rfl rfl (by kernel_rfl) (fun _ _ _ h => h) (Or.inl ⟨by rfl, ?_⟩) ?_ ?_
      rotate_left
      ·intro w'
       go_simp
       with_reducible rfl
      rotate_left
      ·simp only [Act.put, List.setIfInBounds_toArray, List.set_cons_zero, List.set_cons_succ, i64_w, i32_w]
       rfl
      refine one_ (i := 3) (N := some 53) #[true, true, true, true, false, false] rfl rfl (by kernel_rfl) (by decide) (fun K hK => ?_)
      refine goes_ Try.func48 (by kernel_rfl) rfl #[.pointer (some ⟨g, 0, none⟩), .int .i64 12] (by rfl) rfl rfl (by (try simp only [List.map_toArray, List.map_cons, List.map_nil]); first | done | rfl) ?_
      refine (pick_callq (m := m + 1398) HB.out H.out 3 rfl (HR.out.less (by omega)) 12 (by omega)).mono ?_
      rintro e w53 ⟨r53, c53, rfl, hr53, hrd, h1⟩
      refine ⟨_, rfl, ?_⟩
      have HR1 := Az.mk hrd
      have H1 := Az.mk h1
      have hz53 := eq_true (Int.natCast_nonneg r53)
      clear hrd h1
      clear H HR; have H := H1; have HR := HR1; clear H1 HR1
      refine hK.out _ _ (H.out.sel [0] _ (by decide) rfl) (fun hHeld => ?_)
      clear hK K
      refine norm_ (a' := ?_) ?_ ?_
      rotate_left
      ·show Act.put _ (some 53) _ = _
       simp only [Act.put, List.setIfInBounds_toArray, List.set_cons_zero, List.set_cons_succ, i64_w, i32_w]
       rfl
      have hl53 : (r53 : Int) < (D.l1.length : Int) := by have := HG.out.sh; unfold Shaped at this; omega
      refine zqp (i := 4) (N := some 54) (v := ?_) (a' := ?_) #[true, true, true, true, true, false] rfl rfl (by kernel_rfl) (fun _ _ _ h => h) (Or.inl ⟨by rfl, ?_⟩) ?_ ?_
      rotate_left
      ·intro w'
       go_simp
       with_reducible rfl
      rotate_left
      ·simp only [Act.put, List.setIfInBounds_toArray, List.set_cons_zero, List.set_cons_succ, i64_w, i32_w]
       rfl
      have HC := Az.mk (ows_cell1 (H.out.ows 1 rfl O.out) (i := r53) (by omega))
      refine last_ (i := 5) (N := none) #[true, true, true, true, true, true] rfl rfl (by kernel_rfl) (by decide) (fun K hK => ?_)
      refine last_st (by rfl) rfl (run_sc (v := .string ⟨#[97, 98]⟩) sizeS9 HC.out.1 HC.out.2 rfl rfl rfl rfl) ?_
      have H1 := Az.mk (H.out.set_cell (j := r53) 1 rfl S1.out (.string ⟨#[97, 98]⟩))
      have O1 := Az.mk ((H.out.ows 1 rfl O.out).put1 r53 ⟨#[97, 98]⟩)
      clear H O; have H := H1; have O := O1; clear H1 O1
      refine hK.out _ _ ?_
      clear hK K
      refine norm_ (a' := ?_) ?_ ?_
      rotate_left
      ·rfl
      refine done_ (by kernel_rfl) ?_
      go_wp2_with (first | ((with_reducible refine zqg (N := 92) rfl ?_); refine H.out.ld_row 0 rfl rfl rfl rfl Try.underlying28 rfl hs28 ?_; (try simp only [Act.put, List.setIfInBounds_toArray, List.set_cons_zero, List.set_cons_succ])) | ((with_reducible refine gate_store (t := 28) (p := 2) rfl ?_); refine H.out.st_row 2 rfl rfl (x := .tmp 2) (y := .tmp 92) rfl rfl rfl (cD ⟨some ⟨g1, 0, none⟩, c1, some ⟨p2, 0, none⟩, c2, some ⟨p3, 0, none⟩, c3, A4, c4⟩ D) rfl hs28 rfl (cD_one _ _) ?_; intro ws24 H1; clear H; have H := H1; clear H1))
      exact bodyPost_ret (results_cell_row rfl _ _ g2 28 _ (0, 0) _ rfl (H.out.box 2 rfl) Try.underlying28 rfl (by kernel_rfl)) rfl (ret_as (by simp only [cD, List.length_set]) (draws_of HWG.out H.out 3 4 1 rfl rfl rfl (by decide) (by decide) (HR.out.less (m' := m) (by omega)) (OwS.lies O.out) (fits_set1 (fits_good HG.out))))
     ·skip
      have y1a : ((r39 : Int) == 1) = false := beq_eq_false_iff_ne.mpr y1
      have y1b : decide ((r39 : Int) = 1) = false := decide_eq_false y1
      clear y1
      by_cases y2 : (r39 : Int) = 2
      ·skip
       have y2a : ((r39 : Int) == 2) = true := beq_iff_eq.mpr y2
       have y2b : decide ((r39 : Int) = 2) = true := decide_eq_true y2
       clear y2
       go_wp2
       refine start_ (n := 6) (S := fun w' => Hq w0.heap.size w w' [.box g3 (cD ⟨some ⟨g1, 0, none⟩, c1, some ⟨p2, 0, none⟩, c2, some ⟨p3, 0, none⟩, c3, A4, c4⟩ D) 28]) (ds := [5]) #[false, false, false, false, false, false] (by kernel_rfl) rfl rfl (H.out.drew.sel [0] _ (by decide) rfl) (fun hHeld => ?_)
       have H1 := Az.mk H.out.drew
       clear H; have H := H1; clear H1
       generalize World.drew w39 = wd16 at hHeld H ⊢
       refine zqp (i := 0) (N := some 57) (v := ?_) (a' := ?_) #[true, false, false, false, false, false] rfl rfl (by kernel_rfl) (fun _ _ _ h => h) (Or.inl ⟨by rfl, ?_⟩) ?_ ?_
       rotate_left
       ·intro w'
        go_simp
        with_reducible rfl
       rotate_left
       ·simp only [Act.put, List.setIfInBounds_toArray, List.set_cons_zero, List.set_cons_succ, i64_w, i32_w]
        rfl
       refine zqt (i := 1) (N := some 58) (v := .slice (some ⟨p3, 0, none⟩) D.l3.length c3) (a' := ?_) #[true, true, false, false, false, false] rfl rfl (by kernel_rfl) (fun _ _ _ h => h) (Or.inl ⟨by rfl, fun w' s0 => s0.run_cell 0 rfl 3 rfl rfl rfl Try.underlying25 rfl⟩) hHeld ?_ ?_
       rotate_left
       ·simp only [Act.put, List.setIfInBounds_toArray, List.set_cons_zero, List.set_cons_succ, i64_w, i32_w]
        rfl
       refine zqp (i := 2) (N := some 59) (v := ?_) (a' := ?_) #[true, true, true, false, false, false] rfl rfl (by kernel_rfl) (fun _ _ _ h => h) (Or.inl ⟨by rfl, ?_⟩) ?_ ?_
       rotate_left
       ·intro w'
        go_simp
        with_reducible rfl
       rotate_left
       ·simp only [Act.put, List.setIfInBounds_toArray, List.set_cons_zero, List.set_cons_succ, i64_w, i32_w]
        rfl
       refine one_ (i := 3) (N := some 60) #[true, true, true, true, false, false] rfl rfl (by kernel_rfl) (by decide) (fun K hK => ?_)
       refine goes_ Try.func48 (by kernel_rfl) rfl #[.pointer (some ⟨g, 0, none⟩), .int .i64 12] (by rfl) rfl rfl (by (try simp only [List.map_toArray, List.map_cons, List.map_nil]); first | done | rfl) ?_
       refine (pick_callq (m := m + 1398) HB.out H.out 3 rfl (HR.out.less (by omega)) 12 (by omega)).mono ?_
       rintro e w60 ⟨r60, c60, rfl, hr60, hrd, h1⟩
       refine ⟨_, rfl, ?_⟩
       have HR1 := Az.mk hrd
       have H1 := Az.mk h1
       have hz60 := eq_true (Int.natCast_nonneg r60)
       clear hrd h1
       clear H HR; have H := H1; have HR := HR1; clear H1 HR1
       refine hK.out _ _ (H.out.sel [0] _ (by decide) rfl) (fun hHeld => ?_)
       clear hK K
       refine norm_ (a' := ?_) ?_ ?_
       rotate_left
       ·show Act.put _ (some 60) _ = _
        simp only [Act.put, List.setIfInBounds_toArray, List.set_cons_zero, List.set_cons_succ, i64_w, i32_w]
        rfl
       have hl60 : (r60 : Int) < (D.l3.length : Int) := by have := HG.out.sh; unfold Shaped at this; omega
       refine zqp (i := 4) (N := some 61) (v := ?_) (a' := ?_) #[true, true, true, true, true, false] rfl rfl (by kernel_rfl) (fun _ _ _ h => h) (Or.inl ⟨by rfl, ?_⟩) ?_ ?_
       rotate_left
       ·intro w'
        go_simp
        with_reducible rfl
       rotate_left
       ·simp only [Act.put, List.setIfInBounds_toArray, List.set_cons_zero, List.set_cons_succ, i64_w, i32_w]
        rfl
       have HC := Az.mk (ows_cell3 (H.out.ows 1 rfl O.out) (i := r60) (by omega))
       refine last_ (i := 5) (N := none) #[true, true, true, true, true, true] rfl rfl (by kernel_rfl) (by decide) (fun K hK => ?_)
       refine last_st (by rfl) rfl (run_sc (v := .bool true) sizeS4 HC.out.1 HC.out.2 rfl rfl rfl rfl) ?_
       have H1 := Az.mk (H.out.set_cell (j := r60) 1 rfl S3.out (.bool true))
       have O1 := Az.mk ((H.out.ows 1 rfl O.out).put3 r60 true)
       clear H O; have H := H1; have O := O1; clear H1 O1
       refine hK.out _ _ ?_
       clear hK K
       refine norm_ (a' := ?_) ?_ ?_
       rotate_left
       ·rfl
       refine done_ (by kernel_rfl) ?_
       go_wp2_with (first | ((with_reducible refine zqg (N := 92) rfl ?_); refine H.out.ld_row 0 rfl rfl rfl rfl Try.underlying28 rfl hs28 ?_; (try simp only [Act.put, List.setIfInBounds_toArray, List.set_cons_zero, List.set_cons_succ])) | ((with_reducible refine gate_store (t := 28) (p := 2) rfl ?_); refine H.out.st_row 2 rfl rfl (x := .tmp 2) (y := .tmp 92) rfl rfl rfl (cD ⟨some ⟨g1, 0, none⟩, c1, some ⟨p2, 0, none⟩, c2, some ⟨p3, 0, none⟩, c3, A4, c4⟩ D) rfl hs28 rfl (cD_one _ _) ?_; intro ws24 H1; clear H; have H := H1; clear H1))
       exact bodyPost_ret (results_cell_row rfl _ _ g2 28 _ (0, 0) _ rfl (H.out.box 2 rfl) Try.underlying28 rfl (by kernel_rfl)) rfl (ret_as (by simp only [cD, List.length_set]) (draws_of HWG.out H.out 3 4 1 rfl rfl rfl (by decide) (by decide) (HR.out.less (m' := m) (by omega)) (OwS.lies O.out) (fits_set3 (fits_good HG.out))))
      ·skip
       have y2a : ((r39 : Int) == 2) = false := beq_eq_false_iff_ne.mpr y2
       have y2b : decide ((r39 : Int) = 2) = false := decide_eq_false y2
       clear y2
       by_cases y3 : (r39 : Int) = 3
       ·skip
        have y3a : ((r39 : Int) == 3) = true := beq_iff_eq.mpr y3
        have y3b : decide ((r39 : Int) = 3) = true := decide_eq_true y3
        clear y3
        go_wp2_with (first | ((with_reducible refine zqg (N := 65) rfl ?_); refine H.out.ld_cell 0 rfl 4 (v := .slice A4 D.l4.length c4) rfl rfl rfl rfl Try.underlying26 rfl ?_; (try simp only [Act.put, List.setIfInBounds_toArray, List.set_cons_zero, List.set_cons_succ])) | ((with_reducible refine gate_builtin (b := .append) (xs := #[.tmp 65, .tmp 67]) rfl ?_); at_builtin; refine H.out.app 1 rfl O.out (by have := HG.out.sh; unfold Shaped at this; omega) ⟨false, 12, ⟨#[97, 98, 99]⟩⟩ rfl (.tmp 65) (.tmp 67) rfl rfl (by first | (go_simp; done) | (go_simp; rfl)) ?_; intro A68 c68 w68 q68 HQ68 H1 O1; clear H O; have H := H1; have O := O1; clear H1 O1; (try simp only [Act.put, List.setIfInBounds_toArray, List.set_cons_zero, List.set_cons_succ])) | ((with_reducible refine gate_store (t := 26) (p := 69) rfl ?_); refine H.out.stb 0 rfl 4 (.slice A68 q68.length c68) rfl rfl sizeQ26 rfl rfl rfl rfl rfl ?_; intro ws18 H1; clear H; have H := H1; clear H1) | ((with_reducible refine zqg (N := 92) rfl ?_); refine H.out.ld_row 0 rfl rfl rfl rfl Try.underlying28 rfl hs28 ?_; (try simp only [Act.put, List.setIfInBounds_toArray, List.set_cons_zero, List.set_cons_succ])) | ((with_reducible refine gate_store (t := 28) (p := 2) rfl ?_); refine H.out.st_row 2 rfl rfl (x := .tmp 2) (y := .tmp 92) rfl rfl rfl (cD ⟨some ⟨g1, 0, none⟩, c1, some ⟨p2, 0, none⟩, c2, some ⟨p3, 0, none⟩, c3, A68, c68⟩ { D with l4 := q68 }) rfl hs28 rfl (cD_one _ _) ?_; intro ws24 H1; clear H; have H := H1; clear H1))
        exact bodyPost_ret (results_cell_row rfl _ _ g2 28 _ (0, 0) _ rfl (H.out.box 2 rfl) Try.underlying28 rfl (by kernel_rfl)) rfl ((draws_of HWG.out H.out 3 4 1 rfl rfl rfl (by decide) (by decide) (HR.out.less (m' := m) (by omega)) (OwS.lies O.out) (fits_l4 (fits_good HG.out) (by have := HG.out.sh; unfold Shaped at this; rw [HQ68.out, List.length_append, List.length_singleton]; omega))))
       ·skip
        have y3a : ((r39 : Int) == 3) = false := beq_eq_false_iff_ne.mpr y3
        have y3b : decide ((r39 : Int) = 3) = false := decide_eq_false y3
        clear y3
        by_cases y4 : (r39 : Int) = 4
        ·skip
         have y4a : ((r39 : Int) == 4) = true := beq_iff_eq.mpr y4
         have y4b : decide ((r39 : Int) = 4) = true := decide_eq_true y4
         clear y4
         have h4 := Az.mk (show D.l4.length ≤ 40 from HG.out.sh.2.2.2.2)
         go_wp2
         simp only [y0a]
         go_loopg [] (42 - D.l4.length) (fun kq w' => ∃ (A4' : Option Addr) (c4' : Nat) (q : List S54) (S : Nat → Prop) (wo : World) (c : Array Value), Az (q.length + kq = 42 ∧ q.length ≤ 41) ∧ Az (Rdr w0 b (m + 31 * kq) c) ∧ Az (OwS wo w0.heap.size S ⟨some ⟨g1, 0, none⟩, c1, some ⟨p2, 0, none⟩, c2, some ⟨p3, 0, none⟩, c3, A4', c4'⟩ { D with l4 := q }) ∧ Az (Hq w0.heap.size w w' [.box g3 (cD ⟨some ⟨g1, 0, none⟩, c1, some ⟨p2, 0, none⟩, c2, some ⟨p3, 0, none⟩, c3, A4', c4'⟩ { D with l4 := q }) 28, .set S wo, .box g2 (#[.int .i64 0, .slice none 0 0, .slice none 0 0, .slice none 0 0, .slice none 0 0]) 28, .box g c 104, .set (fun k => k ≠ g ∧ w0.heap.size ≤ k ∧ k < w.heap.size) w]))
         case atStart => exact ⟨A4, c4, D.l4, _, _, _, ⟨by have := h4.out; omega⟩, ⟨HR.out.less (by omega)⟩, O, ⟨H.out.sel [0, 1, 2, 3, 4] _ (by decide) rfl⟩⟩
         case round =>
          clear H HR O
          obtain ⟨A4', c4', q, S, wo, c, HN, HR, O, H⟩ := hrel
          cases gk with
          | zero => exact absurd HN.out.1 (by have := HN.out.2; omega)
          | succ k2 =>
           have tk0 : True := trivial
           go_wp2
           refine start_ (n := 7) (S := fun w' => Hq w0.heap.size w w' [.box g3 (cD ⟨some ⟨g1, 0, none⟩, c1, some ⟨p2, 0, none⟩, c2, some ⟨p3, 0, none⟩, c3, A4', c4'⟩ { D with l4 := q }) 28]) (ds := []) #[false, false, false, false, false, false, false] (by kernel_rfl) rfl rfl (H.out.drew.sel [0] _ (by decide) rfl) (fun hHeld => ?_)
           have H1 := Az.mk H.out.drew
           clear H; have H := H1; clear H1
           generalize World.drew wr = wd20 at hHeld H ⊢
           refine zqp (i := 0) (N := some 72) (v := ?_) (a' := ?_) #[true, false, false, false, false, false, false] rfl rfl (by kernel_rfl) (fun _ _ _ h => h) (Or.inl ⟨by rfl, ?_⟩) ?_ ?_
           rotate_left
           ·intro w'
            go_simp
            with_reducible rfl
           rotate_left
           ·simp only [Act.put, List.setIfInBounds_toArray, List.set_cons_zero, List.set_cons_succ, i64_w, i32_w]
            rfl
           refine zqt (i := 1) (N := some 73) (v := .slice A4' q.length c4') (a' := ?_) #[true, true, false, false, false, false, false] rfl rfl (by kernel_rfl) (fun _ _ _ h => h) (Or.inl ⟨by rfl, fun w' s0 => s0.run_cell 0 rfl 4 rfl rfl rfl Try.underlying26 rfl⟩) hHeld ?_ ?_
           rotate_left
           ·simp only [Act.put, List.setIfInBounds_toArray, List.set_cons_zero, List.set_cons_succ, i64_w, i32_w]
            rfl
           refine zqp (i := 2) (N := some 74) (v := ?_) (a' := ?_) #[true, true, true, false, false, false, false] rfl rfl (by kernel_rfl) (fun _ _ _ h => h) (Or.inl ⟨by rfl, ?_⟩) ?_ ?_
           rotate_left
           ·intro w'
            go_simp
            with_reducible rfl
           rotate_left
           ·simp only [Act.put, List.setIfInBounds_toArray, List.set_cons_zero, List.set_cons_succ, i64_w, i32_w]
            rfl
           refine zqp (i := 3) (N := some 75) (v := ?_) (a' := ?_) #[true, true, true, true, false, false, false] rfl rfl (by kernel_rfl) (fun _ _ _ h => h) (Or.inl ⟨by rfl, ?_⟩) ?_ ?_
           rotate_left
           ·intro w'
            go_simp
            with_reducible rfl
           rotate_left
           ·simp only [Act.put, List.setIfInBounds_toArray, List.set_cons_zero, List.set_cons_succ, i64_w, i32_w]
            rfl
           refine one_ (i := 4) (N := some 76) #[true, true, true, true, true, false, false] rfl rfl (by kernel_rfl) (by decide) (fun K hK => ?_)
           refine goes_ Try.func48 (by kernel_rfl) rfl #[.pointer (some ⟨g, 0, none⟩), .int .i64 2] (by rfl) rfl rfl (by (try simp only [List.map_toArray, List.map_cons, List.map_nil]); first | done | rfl) ?_
           refine (pick_callq (m := m + 31 * k2 + 30) HB.out H.out 3 rfl (HR.out.less (by omega)) 2 (by omega)).mono ?_
           rintro e w76 ⟨r76, c76, rfl, hr76, hrd, h1⟩
           refine ⟨_, rfl, ?_⟩
           have HR1 := Az.mk hrd
           have H1 := Az.mk h1
           have hz76 := eq_true (Int.natCast_nonneg r76)
           clear hrd h1
           clear H HR; have H := H1; have HR := HR1; clear H1 HR1
           refine hK.out _ _ (H.out.sel [0] _ (by decide) rfl) (fun hHeld => ?_)
           clear hK K
           refine norm_ (a' := ?_) ?_ ?_
           rotate_left
           ·show Act.put _ (some 76) _ = _
            simp only [Act.put, List.setIfInBounds_toArray, List.set_cons_zero, List.set_cons_succ, i64_w, i32_w]
            rfl
           refine zqp (i := 5) (N := some 77) (v := ?_) (a' := ?_) #[true, true, true, true, true, true, false] rfl rfl (by kernel_rfl) (fun _ _ _ h => h) (Or.inl ⟨by rfl, ?_⟩) ?_ ?_
           rotate_left
           ·intro w'
            go_simp
            with_reducible rfl
           rotate_left
           ·simp only [Act.put, List.setIfInBounds_toArray, List.set_cons_zero, List.set_cons_succ, i64_w, i32_w]
            rfl
           refine zqp (i := 6) (N := some 78) (v := ?_) (a' := ?_) #[true, true, true, true, true, true, true] rfl rfl (by kernel_rfl) (fun _ _ _ h => h) (Or.inl ⟨by rfl, ?_⟩) ?_ ?_
           rotate_left
           ·intro w'
            go_simp
            with_reducible rfl
           rotate_left
           ·simp only [Act.put, List.setIfInBounds_toArray, List.set_cons_zero, List.set_cons_succ, i64_w, i32_w]
            rfl
           refine done_ (by kernel_rfl) ?_
           have ew : wrap64 (40 + (r76 : Int)) = 40 + (r76 : Int) := wrap_ok (by omega)
           rw [ew]
           clear ew
           by_cases hl : (q.length : Int) < 40 + (r76 : Int)
           ·have hq : q.length ≤ 40 := by omega
            have HQ := Az.mk hq
            have hla : decide ((q.length : Int) < 40 + (r76 : Int)) = true := decide_eq_true hl
            clear hl hq
            simp only [hla]
            go_wp2
            refine start_ (n := 8) (S := fun w' => Hq w0.heap.size w w' [.box g3 (cD ⟨some ⟨g1, 0, none⟩, c1, some ⟨p2, 0, none⟩, c2, some ⟨p3, 0, none⟩, c3, A4', c4'⟩ { D with l4 := q }) 28]) (ds := [7]) #[false, false, false, false, false, false, false, false] (by kernel_rfl) rfl rfl (H.out.drew.sel [0] _ (by decide) rfl) (fun hHeld => ?_)
            have H1 := Az.mk H.out.drew
            clear H; have H := H1; clear H1
            generalize World.drew w76 = wd21 at hHeld H ⊢
            refine zqp (i := 0) (N := some 79) (v := ?_) (a' := ?_) #[true, false, false, false, false, false, false, false] rfl rfl (by kernel_rfl) (fun _ _ _ h => h) (Or.inl ⟨by rfl, ?_⟩) ?_ ?_
            rotate_left
            ·intro w'
             go_simp
             with_reducible rfl
            rotate_left
            ·simp only [Act.put, List.setIfInBounds_toArray, List.set_cons_zero, List.set_cons_succ, i64_w, i32_w]
             rfl
            refine zqt (i := 1) (N := some 80) (v := .slice A4' q.length c4') (a' := ?_) #[true, true, false, false, false, false, false, false] rfl rfl (by kernel_rfl) (fun _ _ _ h => h) (Or.inl ⟨by rfl, fun w' s0 => s0.run_cell 0 rfl 4 rfl rfl rfl Try.underlying26 rfl⟩) hHeld ?_ ?_
            rotate_left
            ·simp only [Act.put, List.setIfInBounds_toArray, List.set_cons_zero, List.set_cons_succ, i64_w, i32_w]
             rfl
            refine zqp (i := 2) (N := some 81) (v := ?_) (a' := ?_) #[true, true, true, false, false, false, false, false] rfl rfl (by kernel_rfl) (fun _ _ _ h => h) (Or.inl ⟨by rfl, ?_⟩) ?_ ?_
            rotate_left
            ·intro w'
             go_simp
             with_reducible rfl
            rotate_left
            ·simp only [Act.put, List.setIfInBounds_toArray, List.set_cons_zero, List.set_cons_succ, i64_w, i32_w]
             rfl
            refine one_ (i := 3) (N := some 82) #[true, true, true, true, false, false, false, false] rfl rfl (by kernel_rfl) (by decide) (fun K hK => ?_)
            refine goes_ Try.func81 (by kernel_rfl) rfl #[.pointer (some ⟨g, 0, none⟩)] (by rfl) rfl rfl (by (try simp only [List.map_toArray, List.map_cons, List.map_nil]); first | done | rfl) ?_
            refine (put_callq (m := m + 31 * k2 + 0) HB.out H.out 3 rfl (HR.out.less (by omega))).mono ?_
            rintro e w82 ⟨x82, c82, rfl, hx, hrd, h1⟩
            refine ⟨_, rfl, ?_⟩
            have HR1 := Az.mk hrd
            have H1 := Az.mk h1
            have HX82 := Az.mk hx
            clear hrd h1 hx
            clear H HR; have H := H1; have HR := HR1; clear H1 HR1
            refine hK.out _ _ (H.out.sel [0] _ (by decide) rfl) (fun hHeld => ?_)
            clear hK K
            refine norm_ (a' := ?_) ?_ ?_
            rotate_left
            ·show Act.put _ (some 82) _ = _
             simp only [Act.put, List.setIfInBounds_toArray, List.set_cons_zero, List.set_cons_succ, i64_w, i32_w]
             rfl
            refine one_ (i := 4) (N := some 83) #[true, true, true, true, true, false, false, false] rfl rfl (by kernel_rfl) (by decide) (fun K hK => ?_)
            refine event_step (v := .slice (some ⟨w82.heap.size, 0, none⟩) 1 1) (w1 := w82.alloc (.cells #[.bool x82.f0, .int .i64 x82.f1, .string x82.f2] 54)) (by rfl) (by first | (go_simp; done) | (go_simp; rfl)) ?_
            refine hK.out _ _ ((H.out.step (zq2 (Below.refl _ _) _)).sel [0] _ (by decide) rfl) (fun hHeld => ?_)
            clear hK K
            refine norm_ (a' := ?_) ?_ ?_
            rotate_left
            ·show Act.put _ (some 83) _ = _
             simp only [Act.put, List.setIfInBounds_toArray, List.set_cons_zero, List.set_cons_succ, i64_w, i32_w]
             rfl
            refine one_ (i := 5) (N := some 84) #[true, true, true, true, true, true, false, false] rfl rfl (by kernel_rfl) (by decide) (fun K hK => ?_)
            refine H.out.app_ 1 rfl O.out (by have := HQ.out; show q.length ≤ _; omega) x82 (by rfl) (.tmp 80) (.tmp 83) rfl rfl rfl ?_
            intro A84 c84 w84 q84 HQ84 H1 O1
            clear H O; have H := H1; have O := O1; clear H1 O1
            refine hK.out _ _ (H.out.sel [0] _ (by decide) rfl) (fun hHeld => ?_)
            clear hK K
            refine norm_ (a' := ?_) ?_ ?_
            rotate_left
            ·show Act.put _ (some 84) _ = _
             simp only [Act.put, List.setIfInBounds_toArray, List.set_cons_zero, List.set_cons_succ, i64_w, i32_w]
             rfl
            refine zqp (i := 6) (N := some 85) (v := ?_) (a' := ?_) #[true, true, true, true, true, true, true, false] rfl rfl (by kernel_rfl) (fun _ _ _ h => h) (Or.inl ⟨by rfl, ?_⟩) ?_ ?_
            rotate_left
            ·intro w'
             go_simp
             with_reducible rfl
            rotate_left
            ·simp only [Act.put, List.setIfInBounds_toArray, List.set_cons_zero, List.set_cons_succ, i64_w, i32_w]
             rfl
            refine last_ (i := 7) (N := none) #[true, true, true, true, true, true, true, true] rfl rfl (by kernel_rfl) (by decide) (fun K hK => ?_)
            refine H.out.last_cell 0 rfl 4 (.slice A84 q84.length c84) rfl (by rfl) sizeQ26 rfl rfl rfl rfl rfl ?_
            intro ws21 H1
            clear H; have H := H1; clear H1
            refine hK.out _ _ ?_
            clear hK K
            refine norm_ (a' := ?_) ?_ ?_
            rotate_left
            ·rfl
            refine done_ (by kernel_rfl) ?_
            go_wp2
            go_roundg k2
            case measure => omega
            case rel => exact ⟨A84, c84, q84, _, _, _, ⟨by have h1 := HN.out; have h2 := HQ.out; rw [HQ84.out, List.length_append, List.length_singleton]; show q.length + 1 + k2 = 42 ∧ q.length + 1 ≤ 41; omega⟩, ⟨HR.out.less (by omega)⟩, O, ⟨H.out.sel [0, 1, 2, 3, 4] _ (by decide) rfl⟩⟩
           ·have hla : decide ((q.length : Int) < 40 + (r76 : Int)) = false := decide_eq_false hl
            clear hl
            simp only [hla]
            go_upto_region 24 with fail
            go_wp2_with (first | ((with_reducible refine zqg (N := 92) rfl ?_); refine H.out.ld_row 0 rfl rfl rfl rfl Try.underlying28 rfl hs28 ?_; (try simp only [Act.put, List.setIfInBounds_toArray, List.set_cons_zero, List.set_cons_succ])) | ((with_reducible refine gate_store (t := 28) (p := 2) rfl ?_); refine H.out.st_row 2 rfl rfl (x := .tmp 2) (y := .tmp 92) rfl rfl rfl (cD ⟨some ⟨g1, 0, none⟩, c1, some ⟨p2, 0, none⟩, c2, some ⟨p3, 0, none⟩, c3, A4', c4'⟩ { D with l4 := q }) rfl hs28 rfl (cD_one _ _) ?_; intro ws24 H1; clear H; have H := H1; clear H1))
            exact bodyPost_ret (results_cell_row rfl _ _ g2 28 _ (0, 0) _ rfl (H.out.box 2 rfl) Try.underlying28 rfl (by kernel_rfl)) rfl ((draws_of HWG.out H.out 3 4 1 rfl rfl rfl (by decide) (by decide) (HR.out.less (m' := m) (by omega)) (OwS.lies O.out) (fits_l4 (fits_good HG.out) (by have := HN.out; omega))))
        ·skip
         have y4a : ((r39 : Int) == 4) = false := beq_eq_false_iff_ne.mpr y4
         have y4b : decide ((r39 : Int) = 4) = false := decide_eq_false y4
         clear y4
         by_cases y5 : (r39 : Int) = 5
         ·skip
          have y5a : ((r39 : Int) == 5) = true := beq_iff_eq.mpr y5
          have y5b : decide ((r39 : Int) = 5) = true := decide_eq_true y5
          clear y5
          have h2 := Az.mk HG.out.sh.2.2.1
          have hc2 := Az.mk (OwS.cap2 O.out h2.out)
          go_wp2_with (first | ((with_reducible refine zqg (N := 89) rfl ?_); refine H.out.ld_cell 0 rfl 2 (v := .slice (some ⟨p2, 0, none⟩) D.l2.length c2) rfl rfl rfl rfl Try.underlying24 rfl ?_; (try simp only [Act.put, List.setIfInBounds_toArray, List.set_cons_zero, List.set_cons_succ])) | ((with_reducible refine zqg (N := 90) rfl ?_); refine drop_ev (c := c2) (l := D.l2) rfl rfl rfl h2.out hc2.out ?_; intro q90 HQ90; (try simp only [Act.put, List.setIfInBounds_toArray, List.set_cons_zero, List.set_cons_succ])) | ((with_reducible refine gate_store (t := 24) (p := 91) rfl ?_); refine H.out.stb 0 rfl 2 (.slice (some ⟨p2, 1, none⟩) q90.length (c2 - 1)) rfl rfl sizeQ24 rfl rfl rfl rfl rfl ?_; intro ws23 H1; clear H; have H := H1; clear H1) | ((with_reducible refine zqg (N := 92) rfl ?_); refine H.out.ld_row 0 rfl rfl rfl rfl Try.underlying28 rfl hs28 ?_; (try simp only [Act.put, List.setIfInBounds_toArray, List.set_cons_zero, List.set_cons_succ])) | ((with_reducible refine gate_store (t := 28) (p := 2) rfl ?_); refine H.out.st_row 2 rfl rfl (x := .tmp 2) (y := .tmp 92) rfl rfl rfl (cD ⟨some ⟨g1, 0, none⟩, c1, some ⟨p2, 1, none⟩, c2 - 1, some ⟨p3, 0, none⟩, c3, A4, c4⟩ { D with l2 := q90 }) rfl hs28 rfl (cD_one _ _) ?_; intro ws24 H1; clear H; have H := H1; clear H1))
          exact bodyPost_ret (results_cell_row rfl _ _ g2 28 _ (0, 0) _ rfl (H.out.box 2 rfl) Try.underlying28 rfl (by kernel_rfl)) rfl ((draws_of HWG.out H.out 3 4 1 rfl rfl rfl (by decide) (by decide) (HR.out.less (m' := m) (by omega)) ((by rw [HQ90.out]; exact OwS.lies_drop O.out h2.out)) ((by rw [HQ90.out]; exact fits_drop (fits_good HG.out)))))
         ·skip
          have y5a : ((r39 : Int) == 5) = false := beq_eq_false_iff_ne.mpr y5
          have y5b : decide ((r39 : Int) = 5) = false := decide_eq_false y5
          clear y5
          go_wp2_with (first | ((with_reducible refine zqg (N := 92) rfl ?_); refine H.out.ld_row 0 rfl rfl rfl rfl Try.underlying28 rfl hs28 ?_; (try simp only [Act.put, List.setIfInBounds_toArray, List.set_cons_zero, List.set_cons_succ])) | ((with_reducible refine gate_store (t := 28) (p := 2) rfl ?_); refine H.out.st_row 2 rfl rfl (x := .tmp 2) (y := .tmp 92) rfl rfl rfl (cD ⟨some ⟨g1, 0, none⟩, c1, some ⟨p2, 0, none⟩, c2, some ⟨p3, 0, none⟩, c3, A4, c4⟩ D) rfl hs28 rfl (cD_one _ _) ?_; intro ws24 H1; clear H; have H := H1; clear H1))
          exact bodyPost_ret (results_cell_row rfl _ _ g2 28 _ (0, 0) _ rfl (H.out.box 2 rfl) Try.underlying28 rfl (by kernel_rfl)) rfl ((draws_of HWG.out H.out 3 4 1 rfl rfl rfl (by decide) (by decide) (HR.out.less (m' := m) (by omega)) (OwS.lies O.out) (fits_good HG.out)))
end Go.Proofs.Ytkgpnloghmbmlaa.Hq
namespace Go.Proofs.Ytkgpnloghmbmlaa.Hq
open Go.RowKit Go.Proofs.Ytkgpnloghmbmlaa.Print Go.Proofs.YtkgpnloghmbmlaaW.PrintWords Go.Proofs.YtkgpnloghmbmlaaW.PrintLast Go.Proofs.YtkgpnloghmbmlaaW.PrintMore Go.Proofs.Ytkgpnloghmbmlaa.Pure Go.Proofs.Ytkgpnloghmbmlaa.Hd
set_option linter.unusedVariables false
set_option linter.unusedSimpArgs false
def Boxes : List Part → Prop
 | [] => True
 | .box _ _ t :: L => t ≠ 104 ∧ Boxes L
 | .set _ _ :: _ => False
theorem Boxes.all : ∀ {L : List Part}, Boxes L → ∀ p ∈ L, ∃ g' cs' t', p = .box g' cs' t' ∧ t' ≠ 104
 | .box g cs t :: L, h, p, hp => by
  rcases List.mem_cons.1 hp with rfl | hp
  ·exact ⟨g, cs, t, rfl, h.1⟩
  ·exact Boxes.all h.2 p hp
theorem Hq.opened {base : Nat} {ws w w' : World} {L : List Part} (H : Hq base ws w L) (hb : Below w.heap.size w w') {g : Nat} {cs : Array Value} (hg : base ≤ g) (hbox : w'.heap[g]? = some (.cells cs 104 (0, 0))) (ht : ∀ p ∈ L, ∃ g' cs' t', p = .box g' cs' t' ∧ t' ≠ 104) : Hq base ws w' (.box g cs 104 :: L) := by
 have H' := H.step hb
 refine ⟨H'.bel, H'.ge, fun q hq => ?_, List.pairwise_cons.2 ⟨fun q hq k h1 h2 => ?_, H'.dis⟩⟩
 ·rcases List.mem_cons.1 hq with rfl | hq
  ·exact ⟨fun k hk => by
    obtain rfl : k = g := hk
    exact ⟨hg, blk_lt hbox⟩, hbox⟩
  ·exact H'.all q hq
 ·obtain ⟨g', cs', t', rfl, hne⟩ := ht q hq
  have h3 := (H'.all _ hq).2
  obtain rfl : k = g := h1
  obtain rfl : k = g' := h2
  have h4 : w'.heap[k]? = some (.cells cs' t' (0, 0)) := h3
  rw [hbox] at h4
  injection h4 with h4
  injection h4 with _ h4
  exact hne h4.symm
theorem Hq.drawn {base : Nat} {ws w w' : World} {L : List Part} (H : Hq base ws w L) (i : Nat) {g : Nat} {cs cs' : Array Value} (e : L[i]? = some (.box g cs 104)) (hbox : w'.heap[g]? = some (.cells cs' 104 (0, 0))) (hb : Below base w w') (hk : ∀ k, k < w.heap.size → k ≠ g → w'.heap[k]? = w.heap[k]?) : Hq base ws w' (.set (fun k => w.heap.size ≤ k ∧ k < w'.heap.size) w' :: L.set i (.box g cs' 104)) := by
 have H1 := H.put_box i e hbox hb hk
 refine ⟨H1.bel, H1.ge, fun q hq => ?_, List.pairwise_cons.2 ⟨fun q hq k h1 h2 => ?_, H1.dis⟩⟩
 ·rcases List.mem_cons.1 hq with rfl | hq
  ·exact ⟨fun k hk => ⟨Nat.le_trans H.ge hk.1, hk.2⟩, fun _ _ => rfl⟩
  ·exact H1.all q hq
 ·have h3 : k < w.heap.size := by
   rcases List.mem_or_eq_of_mem_set hq with hq | rfl
   ·exact ((H.all q hq).1 k h2).2
   ·obtain rfl : k = g := h2
    exact blk_lt (H.box i e)
  have := h1.1
  omega
section
variable {w0 w : World} {L : List Part}
theorem open_callq (H : Hq w0.heap.size w0 w L) {A : Option Addr} {c : Nat} {l : List Int} (hC : Kd.C (Kd.int .u8) w0 A l.length l) (hc : l.length ≤ c) (hw : ∀ x ∈ l, (Lit.int .u8 x).wf = true) (ht : Boxes L) :
  Calls Try.prog 47 #[.slice A l.length c] w fun e w' => ∃ (g : Nat) (cs : Array Value) (b : List Int), e = .returned (.pointer (some ⟨g, 0, none⟩)) ∧ Rdr w0 b 400000 cs ∧ Hq w0.heap.size w0 w' (.box g cs 104 :: L) := by
 obtain ⟨b, hb, hcode⟩ := open_ev l hw
 refine (spec_l6Open.calls A c l b 0 w0 w H.bel hC hc hb).mono fun e w' hh => ?_
 obtain ⟨g, he, ⟨A', c', h1, h2, h3⟩, _, hb2⟩ := hh
 exact ⟨g, _, b, he, ⟨⟨A', c', 0, rfl, h3, by omega, by omega⟩, hcode⟩, H.opened hb2 h2 h1 ht.all⟩
theorem disk_callq {b : List Int} {g m : Nat} {cs : Array Value} (H : Hq w0.heap.size w0 w L) (i : Nat) (e : L[i]? = some (.box g cs 104)) (hr : Rdr w0 b (m + 3000) cs) :
  Calls Try.prog 75 #[.pointer (some ⟨g, 0, none⟩)] w fun e w' => ∃ (M : Mm) (D : Dd) (cs' : Array Value), e = .returned (.agg (cD M D)) ∧ FitsD D ∧ LiesS w' (fun k => w.heap.size ≤ k ∧ k < w'.heap.size) M D ∧ Rdr w0 b m cs' ∧ Hq w0.heap.size w0 w' (.set (fun k => w.heap.size ≤ k ∧ k < w'.heap.size) w' :: L.set i (.box g cs' 104)) := by
 refine (l71Disk_calls H.bel (H.box i e) (H.box_ge i e) hr).mono fun e' w' hh => ?_
 obtain ⟨M, D, cs', he, hf, hl, hr', hbox, hb, hk⟩ := hh
 exact ⟨M, D, cs', he, hf, fun w'' h => hl w'' fun k h1 h2 => h k ⟨h1, h2⟩, hr', H.drawn i e hbox hb hk⟩
end
def lit2 (r : Nat) : Int := ([-1, 12] : List Int).getD r 0
theorem lit2_get {r : Nat} (h : (r : Int) < 2) : (#[.int .i64 (-1), .int .i64 12] : Array Value)[r]? = some (.int .i64 (lit2 r)) := by
 have : r = 0 ∨ r = 1 := by omega
 rcases this with rfl | rfl <;> rfl
theorem cP_one (p : S54) : (cP p).all (·.oneCell') = true := by simp [cP, Value.oneCell']
theorem sizeQ9 : (Try.prog.info? 9).map (·.size) = some 1 := by kernel_rfl
def GivesP (w : World) (e : Ending) (w' : World) : Prop := ∃ (M : Mm) (D : Dd) (p : S54), e = .returned (.tuple #[.agg (cD M D), .agg (cP p)]) ∧ FitsD D ∧ p.f2.size ≤ 1000 ∧ Rd w' M D ∧ Below w.heap.size w w'
theorem put_size {p : S54} (h : putB p = true) : p.f2.size ≤ 700 := by
 unfold putB at h
 split at h
 ·exact (of_decide_eq_true h).2.2
 ·have := (of_decide_eq_true h).2.2
  omega
set_option maxHeartbeats 8000000 in
set_option maxRecDepth 100000 in
theorem drawPut_call (w : World) {A : Option Addr} {c : Nat} {l : List Int} (hC : Kd.C (Kd.int .u8) w A l.length l) (hc : l.length ≤ c) (hw : ∀ x ∈ l, (Lit.int .u8 x).wf = true) : Calls Try.prog 37 #[.slice A l.length c] w (GivesP w) := by
 have hs28 := sizeE28
 have hs54 := sizeE54
 have HC := Az.mk hC
 have HB := Az.mk (Below.refl w.heap.size w)
 have H := Az.mk (Hq.start w)
 have tk0 : True := trivial
 clear hC
 go_enter Try.func37, Try.ntmps37
 go_upto_if 15 with (first | ((with_reducible refine zqg (N := 2) rfl ?_); refine H.out.bx rfl (#[.int .i64 0, .slice none 0 0, .slice none 0 0, .slice none 0 0, .slice none 0 0]) 28 ?hr ?_; (case hr => first | (go_simp; done) | (go_simp; rfl)); intro g2 w2 H1; clear H; have H := H1; clear H1; (try simp only [Act.put, List.setIfInBounds_toArray, List.set_cons_zero, List.set_cons_succ])) | ((with_reducible refine zqg (N := 3) rfl ?_); refine H.out.bx rfl (#[.bool false, .int .i64 0, .string ⟨#[]⟩]) 54 ?hr ?_; (case hr => first | (go_simp; done) | (go_simp; rfl)); intro g3 w3 H1; clear H; have H := H1; clear H1; (try simp only [Act.put, List.setIfInBounds_toArray, List.set_cons_zero, List.set_cons_succ])) | (go_at_call 47; refine (open_callq H.out HC.out hc hw (by simp [Boxes])).mono ?_; rintro e w8 ⟨g, cg, b, rfl, hrd, h1⟩; have HR := Az.mk hrd; have H1 := Az.mk h1; clear hrd h1; clear H; have H := H1; clear H1) | (go_at_call 75; refine (disk_callq (m := 0 + 397000) H.out 0 rfl (HR.out.less (by omega))).mono ?_; rintro e w10 ⟨M10, D10, c10, rfl, hf, hl, hrd, h1⟩; have HF := Az.mk hf; have HL := Az.mk hl; have HR1 := Az.mk hrd; have H1 := Az.mk h1; clear hf hl hrd h1; clear H HR; have H := H1; have HR := HR1; clear H1 HR1) | ((with_reducible refine zqg (N := 5) rfl ?_); refine H.out.bx rfl (#[.int .i64 0, .slice none 0 0, .slice none 0 0, .slice none 0 0, .slice none 0 0]) 28 ?hr ?_; (case hr => first | (go_simp; done) | (go_simp; rfl)); intro g5 w5 H1; clear H; have H := H1; clear H1; (try simp only [Act.put, List.setIfInBounds_toArray, List.set_cons_zero, List.set_cons_succ])) | ((with_reducible refine gate_store (t := 28) (p := 5) rfl ?_); refine H.out.st_row 0 rfl rfl (x := .tmp 5) (y := .tmp 10) rfl rfl rfl (cD M10 D10) rfl hs28 rfl (cD_one _ _) ?_; intro ws1 H1; clear H; have H := H1; clear H1) | (go_at_call 81; have _tk := tk0; refine (put_callq (m := 0 + 396970) HB.out H.out 2 rfl (HR.out.less (by omega))).mono ?_; rintro e w12 ⟨x12, c12, rfl, hx, hrd, h1⟩; have HR1 := Az.mk hrd; have H1 := Az.mk h1; have HX12 := Az.mk hx; clear hrd h1 hx; clear H HR; have H := H1; have HR := HR1; clear H1 HR1; clear tk0 _tk; have tk1 : True := trivial) | ((with_reducible refine zqg (N := 6) rfl ?_); refine H.out.bx rfl (#[.bool false, .int .i64 0, .string ⟨#[]⟩]) 54 ?hr ?_; (case hr => first | (go_simp; done) | (go_simp; rfl)); intro g6 w6 H1; clear H; have H := H1; clear H1; (try simp only [Act.put, List.setIfInBounds_toArray, List.set_cons_zero, List.set_cons_succ])) | ((with_reducible refine gate_store (t := 54) (p := 6) rfl ?_); refine H.out.st_row 0 rfl rfl (x := .tmp 6) (y := .tmp 12) rfl rfl rfl (cP x12) rfl hs54 rfl (cP_one _) ?_; intro ws2 H1; clear H; have H := H1; clear H1) | (go_at_call 48; have _tk := tk1; refine (pick_callq (m := 0 + 396969) HB.out H.out 3 rfl (HR.out.less (by omega)) 20 (by omega)).mono ?_; rintro e w14 ⟨r14, c14, rfl, hr14, hrd, h1⟩; have HR1 := Az.mk hrd; have H1 := Az.mk h1; have hz14 := eq_true (Int.natCast_nonneg r14); clear hrd h1; clear H HR; have H := H1; have HR := HR1; clear H1 HR1; clear tk1 _tk; have tk2 : True := trivial))
 (try simp only [Act.put, List.setIfInBounds_toArray, List.set_cons_zero, List.set_cons_succ])
 by_cases y0 : (r14 : Int) = 0
 ·skip
  have y0a : ((r14 : Int) == 0) = true := beq_iff_eq.mpr y0
  have y0b : decide ((r14 : Int) = 0) = true := decide_eq_true y0
  clear y0
  have hz := put_size HX12.out
  have z1 := eq_true (show x12.f2.size + 1 ≤ 9223372036854775807 by omega)
  have z2 : decide (x12.f2.size + 1 ≤ 9223372036854775807) = true := decide_eq_true (by omega)
  have z3 : (9223372036854775807 < x12.f2.size + 1) = False := eq_false (by omega)
  have HZ := Az.mk hz
  clear hz
  go_upto_region 9 with (first | ((with_reducible refine zqg (N := 18) rfl ?_); refine H.out.ld_cell 0 rfl 2 (v := .string x12.f2) rfl rfl rfl rfl Try.underlying9 rfl ?_; (try simp only [Act.put, List.setIfInBounds_toArray, List.set_cons_zero, List.set_cons_succ])) | ((with_reducible refine gate_store (t := 9) (p := 20) rfl ?_); refine H.out.stb 0 rfl 2 (.string (x12.f2 ++ ⟨#[97]⟩)) rfl rfl sizeQ9 rfl rfl rfl rfl rfl ?_; intro ws5 H1; clear H; have H := H1; clear H1))
  go_wp2
  refine start_ (n := 4) (S := fun w' => Hq w.heap.size w w' [.box g5 (cD M10 D10) 28, .box g6 (cP ⟨x12.f0, x12.f1, x12.f2 ++ ⟨#[97]⟩⟩) 54]) (ds := []) #[false, false, false, false] (by kernel_rfl) rfl rfl (H.out.drew.sel [1, 0] _ (by decide) rfl) (fun hHeld => ?_)
  have H1 := Az.mk H.out.drew
  clear H; have H := H1; clear H1
  generalize World.drew _ = wd9 at hHeld H ⊢
  refine zqt (i := 0) (N := some 29) (v := .agg (cD M10 D10)) (a' := ?_) #[true, false, false, false] rfl rfl (by kernel_rfl) (fun _ _ _ h => h) (Or.inl ⟨by rfl, fun w' s0 => s0.run_row 0 rfl rfl rfl Try.underlying28 rfl hs28⟩) hHeld ?_ ?_
  rotate_left
  ·simp only [Act.put, List.setIfInBounds_toArray, List.set_cons_zero, List.set_cons_succ, i64_w, i32_w]
   rfl
  refine zqt (i := 1) (N := some 30) (v := .agg (cP ⟨x12.f0, x12.f1, x12.f2 ++ ⟨#[97]⟩⟩)) (a' := ?_) #[true, true, false, false] rfl rfl (by kernel_rfl) (fun _ _ _ h => h) (Or.inl ⟨by rfl, fun w' s0 => s0.run_row 1 rfl rfl rfl Try.underlying54 rfl hs54⟩) hHeld ?_ ?_
  rotate_left
  ·simp only [Act.put, List.setIfInBounds_toArray, List.set_cons_zero, List.set_cons_succ, i64_w, i32_w]
   rfl
  refine one_ (i := 2) (N := none) #[true, true, true, false] rfl rfl (by kernel_rfl) (by decide) (fun K hK => ?_)
  refine H.out.last_row 5 rfl (by rfl) (x := .tmp 2) (y := .tmp 29) rfl rfl rfl (cD M10 D10) rfl hs28 rfl (cD_one _ _) ?_
  intro ws3 H1
  clear H; have H := H1; clear H1
  refine hK.out _ _ (H.out.sel [1, 0] _ (by decide) rfl) (fun hHeld => ?_)
  clear hK K
  refine norm_ (a' := ?_) ?_ ?_
  rotate_left
  ·rfl
  refine one_ (i := 3) (N := none) #[true, true, true, true] rfl rfl (by kernel_rfl) (by decide) (fun K hK => ?_)
  refine H.out.last_row 4 rfl (by rfl) (x := .tmp 3) (y := .tmp 30) rfl rfl rfl (cP ⟨x12.f0, x12.f1, x12.f2 ++ ⟨#[97]⟩⟩) rfl hs54 rfl (cP_one _) ?_
  intro ws4 H1
  clear H; have H := H1; clear H1
  refine hK.out _ _ (H.out.sel [1, 0] _ (by decide) rfl) (fun hHeld => ?_)
  clear hK K
  refine norm_ (a' := ?_) ?_ ?_
  rotate_left
  ·rfl
  refine done_ (by kernel_rfl) ?_
  go_wp2
  exact bodyPost_ret (results_cc rfl _ _ g2 g3 28 54 _ _ (0, 0) (0, 0) _ _ rfl (H.out.box 5 rfl) Try.underlying28 rfl (by kernel_rfl) rfl (H.out.box 4 rfl) Try.underlying54 rfl (by kernel_rfl)) rfl ⟨M10, D10, ⟨x12.f0, x12.f1, x12.f2 ++ ⟨#[97]⟩⟩, rfl, HF.out, by have := HZ.out; show (x12.f2 ++ ⟨#[97]⟩).size ≤ 1000; rw [ByteArray.size_append]; show x12.f2.size + 1 ≤ 1000; omega, HL.out _ (fun k hk => H.out.same 2 rfl k hk), H.out.bel⟩
 ·skip
  have y0a : ((r14 : Int) == 0) = false := beq_eq_false_iff_ne.mpr y0
  have y0b : decide ((r14 : Int) = 0) = false := decide_eq_false y0
  clear y0
  by_cases y1 : (r14 : Int) = 1
  ·skip
   have y1a : ((r14 : Int) == 1) = true := beq_iff_eq.mpr y1
   have y1b : decide ((r14 : Int) = 1) = true := decide_eq_true y1
   clear y1
   go_upto_region 9 with (first | ((with_reducible refine zqg (N := 23) rfl ?_); refine H.out.lit rfl (#[.int .i64 (-1), .int .i64 12]) 3 2 ?hr ?_; (case hr => first | (go_simp; done) | (go_simp; rfl)); intro g23 w23 H1; clear H; have H := H1; clear H1; (try simp only [Act.put, List.setIfInBounds_toArray, List.set_cons_zero, List.set_cons_succ])) | (go_at_call 48; have _tk := tk2; refine (pick_callq (m := 0 + 396968) HB.out H.out 4 rfl (HR.out.less (by omega)) 2 (by omega)).mono ?_; rintro e w25 ⟨r25, c25, rfl, hr25, hrd, h1⟩; have HR1 := Az.mk hrd; have H1 := Az.mk h1; have hz25 := eq_true (Int.natCast_nonneg r25); clear hrd h1; clear H HR; have H := H1; have HR := HR1; clear H1 HR1; clear tk2 _tk; have tk3 : True := trivial) | ((with_reducible refine zqg (N := 27) rfl ?_); refine H.out.ld_cell 0 rfl r25 (v := .int .i64 (lit2 r25)) (lit2_get hr25) rfl rfl rfl Try.underlying3 rfl ?_; (try simp only [Act.put, List.setIfInBounds_toArray, List.set_cons_zero, List.set_cons_succ])) | ((with_reducible refine gate_store (t := 3) (p := 28) rfl ?_); refine H.out.stb 1 rfl 1 (.int .i64 (lit2 r25)) rfl rfl sizeQ3 rfl rfl rfl rfl rfl ?_; intro ws6 H1; clear H; have H := H1; clear H1))
   go_wp2
   refine start_ (n := 4) (S := fun w' => Hq w.heap.size w w' [.box g5 (cD M10 D10) 28, .box g6 (cP ⟨x12.f0, lit2 r25, x12.f2⟩) 54]) (ds := []) #[false, false, false, false] (by kernel_rfl) rfl rfl (H.out.drew.sel [2, 1] _ (by decide) rfl) (fun hHeld => ?_)
   have H1 := Az.mk H.out.drew
   clear H; have H := H1; clear H1
   generalize World.drew _ = wd9 at hHeld H ⊢
   refine zqt (i := 0) (N := some 29) (v := .agg (cD M10 D10)) (a' := ?_) #[true, false, false, false] rfl rfl (by kernel_rfl) (fun _ _ _ h => h) (Or.inl ⟨by rfl, fun w' s0 => s0.run_row 0 rfl rfl rfl Try.underlying28 rfl hs28⟩) hHeld ?_ ?_
   rotate_left
   ·simp only [Act.put, List.setIfInBounds_toArray, List.set_cons_zero, List.set_cons_succ, i64_w, i32_w]
    rfl
   refine zqt (i := 1) (N := some 30) (v := .agg (cP ⟨x12.f0, lit2 r25, x12.f2⟩)) (a' := ?_) #[true, true, false, false] rfl rfl (by kernel_rfl) (fun _ _ _ h => h) (Or.inl ⟨by rfl, fun w' s0 => s0.run_row 1 rfl rfl rfl Try.underlying54 rfl hs54⟩) hHeld ?_ ?_
   rotate_left
   ·simp only [Act.put, List.setIfInBounds_toArray, List.set_cons_zero, List.set_cons_succ, i64_w, i32_w]
    rfl
   refine one_ (i := 2) (N := none) #[true, true, true, false] rfl rfl (by kernel_rfl) (by decide) (fun K hK => ?_)
   refine H.out.last_row 6 rfl (by rfl) (x := .tmp 2) (y := .tmp 29) rfl rfl rfl (cD M10 D10) rfl hs28 rfl (cD_one _ _) ?_
   intro ws3 H1
   clear H; have H := H1; clear H1
   refine hK.out _ _ (H.out.sel [2, 1] _ (by decide) rfl) (fun hHeld => ?_)
   clear hK K
   refine norm_ (a' := ?_) ?_ ?_
   rotate_left
   ·rfl
   refine one_ (i := 3) (N := none) #[true, true, true, true] rfl rfl (by kernel_rfl) (by decide) (fun K hK => ?_)
   refine H.out.last_row 5 rfl (by rfl) (x := .tmp 3) (y := .tmp 30) rfl rfl rfl (cP ⟨x12.f0, lit2 r25, x12.f2⟩) rfl hs54 rfl (cP_one _) ?_
   intro ws4 H1
   clear H; have H := H1; clear H1
   refine hK.out _ _ (H.out.sel [2, 1] _ (by decide) rfl) (fun hHeld => ?_)
   clear hK K
   refine norm_ (a' := ?_) ?_ ?_
   rotate_left
   ·rfl
   refine done_ (by kernel_rfl) ?_
   go_wp2
   exact bodyPost_ret (results_cc rfl _ _ g2 g3 28 54 _ _ (0, 0) (0, 0) _ _ rfl (H.out.box 6 rfl) Try.underlying28 rfl (by kernel_rfl) rfl (H.out.box 5 rfl) Try.underlying54 rfl (by kernel_rfl)) rfl ⟨M10, D10, ⟨x12.f0, lit2 r25, x12.f2⟩, rfl, HF.out, by have := put_size HX12.out; show x12.f2.size ≤ 1000; omega, HL.out _ (fun k hk => H.out.same 3 rfl k hk), H.out.bel⟩
  ·skip
   have y1a : ((r14 : Int) == 1) = false := beq_eq_false_iff_ne.mpr y1
   have y1b : decide ((r14 : Int) = 1) = false := decide_eq_false y1
   clear y1
   go_wp2
   refine start_ (n := 4) (S := fun w' => Hq w.heap.size w w' [.box g5 (cD M10 D10) 28, .box g6 (cP x12) 54]) (ds := []) #[false, false, false, false] (by kernel_rfl) rfl rfl (H.out.drew.sel [1, 0] _ (by decide) rfl) (fun hHeld => ?_)
   have H1 := Az.mk H.out.drew
   clear H; have H := H1; clear H1
   generalize World.drew _ = wd9 at hHeld H ⊢
   refine zqt (i := 0) (N := some 29) (v := .agg (cD M10 D10)) (a' := ?_) #[true, false, false, false] rfl rfl (by kernel_rfl) (fun _ _ _ h => h) (Or.inl ⟨by rfl, fun w' s0 => s0.run_row 0 rfl rfl rfl Try.underlying28 rfl hs28⟩) hHeld ?_ ?_
   rotate_left
   ·simp only [Act.put, List.setIfInBounds_toArray, List.set_cons_zero, List.set_cons_succ, i64_w, i32_w]
    rfl
   refine zqt (i := 1) (N := some 30) (v := .agg (cP x12)) (a' := ?_) #[true, true, false, false] rfl rfl (by kernel_rfl) (fun _ _ _ h => h) (Or.inl ⟨by rfl, fun w' s0 => s0.run_row 1 rfl rfl rfl Try.underlying54 rfl hs54⟩) hHeld ?_ ?_
   rotate_left
   ·simp only [Act.put, List.setIfInBounds_toArray, List.set_cons_zero, List.set_cons_succ, i64_w, i32_w]
    rfl
   refine one_ (i := 2) (N := none) #[true, true, true, false] rfl rfl (by kernel_rfl) (by decide) (fun K hK => ?_)
   refine H.out.last_row 5 rfl (by rfl) (x := .tmp 2) (y := .tmp 29) rfl rfl rfl (cD M10 D10) rfl hs28 rfl (cD_one _ _) ?_
   intro ws3 H1
   clear H; have H := H1; clear H1
   refine hK.out _ _ (H.out.sel [1, 0] _ (by decide) rfl) (fun hHeld => ?_)
   clear hK K
   refine norm_ (a' := ?_) ?_ ?_
   rotate_left
   ·rfl
   refine one_ (i := 3) (N := none) #[true, true, true, true] rfl rfl (by kernel_rfl) (by decide) (fun K hK => ?_)
   refine H.out.last_row 4 rfl (by rfl) (x := .tmp 3) (y := .tmp 30) rfl rfl rfl (cP x12) rfl hs54 rfl (cP_one _) ?_
   intro ws4 H1
   clear H; have H := H1; clear H1
   refine hK.out _ _ (H.out.sel [1, 0] _ (by decide) rfl) (fun hHeld => ?_)
   clear hK K
   refine norm_ (a' := ?_) ?_ ?_
   rotate_left
   ·rfl
   refine done_ (by kernel_rfl) ?_
   go_wp2
   exact bodyPost_ret (results_cc rfl _ _ g2 g3 28 54 _ _ (0, 0) (0, 0) _ _ rfl (H.out.box 5 rfl) Try.underlying28 rfl (by kernel_rfl) rfl (H.out.box 4 rfl) Try.underlying54 rfl (by kernel_rfl)) rfl ⟨M10, D10, x12, rfl, HF.out, by have := put_size HX12.out; omega, HL.out _ (fun k hk => H.out.same 2 rfl k hk), H.out.bel⟩
end Go.Proofs.Ytkgpnloghmbmlaa.Hq
namespace Go.Proofs.Ytkgpnloghmbmlaa.Hq
open Go.RowKit Go.Proofs.Ytkgpnloghmbmlaa.Print Go.Proofs.YtkgpnloghmbmlaaW.PrintWords Go.Proofs.YtkgpnloghmbmlaaW.PrintLast Go.Proofs.YtkgpnloghmbmlaaW.PrintMore Go.Proofs.Ytkgpnloghmbmlaa.Pure Go.Proofs.Ytkgpnloghmbmlaa.Hd
set_option linter.unusedVariables false
theorem lies_of {w : World} {lo hi : Nat} {M : Mm} {D : Dd} (h : Own w lo hi M D) : LiesS w (fun k => lo ≤ k ∧ k < hi) M D := fun w' hk => (h.move fun k h1 h2 => hk k ⟨h1, h2⟩).rd
theorem gives_as {P : Program} {f : FuncId} {a : Array Value} {w : World} {D D' : Dd} (e : D = D') (h : Calls P f a w (Gives D w)) : Calls P f a w (Gives D' w) := e ▸ h
theorem lpaDisk_call {w : World} {M M' : Mm} {D : Dd} (hf : FitsD D) (h : Rd w M D) (h' : Rd w M' D) : Calls Try.prog 18 #[.agg (cD M D), .agg (cD M' D)] w fun e w' => e = .returned (.bool true) ∧ Below w.heap.size w w' := by
  obtain ⟨K, hK⟩ := lpaDisk_ev D.st D.l1 D.l2 D.l3 D.l4 hf
  exact laws_lpaDisk.calls (hr0_1 := h.r1) (hc0_1 := h.h1) (hr0_2 := h.r2) (hc0_2 := h.h2) (hr0_3 := h.r3) (hc0_3 := h.h3) (hr0_4 := h.r4) (hc0_4 := h.h4) (hr1_1 := h'.r1) (hc1_1 := h'.h1) (hr1_2 := h'.r2) (hc1_2 := h'.h2) (hr1_3 := h'.r3) (hc1_3 := h'.h3) (hr1_4 := h'.r4) (hc1_4 := h'.h4) (h := hK K (Nat.le_refl _))
theorem lpaTexts_call {w : World} {M M' : Mm} {D D' : Dd} (hf : FitsD D) (e : D'.l1 = D.l1) (h : Rd w M D) (h' : Rd w M' D') : Calls Try.prog 40 #[.slice M.A1 D.l1.length M.c1, .slice M'.A1 D'.l1.length M'.c1] w fun e w' => e = .returned (.bool true) ∧ Below w.heap.size w w' := by
  obtain ⟨K, hK⟩ := lpaTexts_ev D.l1 hf.h1
  exact (laws_lpaTexts.calls (hr0 := h.r1) (hc0 := h.h1) (hr1 := h'.r1) (hc1 := h'.h1) (h := by rw [e]; exact hK K (Nat.le_refl _))).mono fun _ _ hh => ⟨hh.1, hh.2.below⟩
theorem flush_good {D : Dd} (h : GoodD D) : flushD D = comeD D := if_pos h
theorem put_good {D : Dd} {p : S54} (h : GoodD D) (hp : putB p = true) : putD D p = laidD D p := if_pos ⟨h, hp⟩
theorem put_bad {D : Dd} {p : S54} (h : ¬ (GoodD D ∧ putB p = true)) : putD D p = noD := if_neg h
theorem cell1 {M : Mm} {D : Dd} (h : GoodD D) : (cD M D)[1]? = some (.slice M.A1 12 M.c1) := by rw [← h.sh.2.1]; rfl
theorem cell2 {M : Mm} {D : Dd} (h : GoodD D) : (cD M D)[2]? = some (.slice M.A2 2 M.c2) := by
  have e : (cD M D)[2]? = some (.slice M.A2 D.l2.length M.c2) := rfl
  rw [e, h.sh.2.2.1]
theorem laid_gone {D : Dd} {p : S54} (h1 : D.st = 1) : laidD D p = D := if_pos h1
end Go.Proofs.Ytkgpnloghmbmlaa.Hq
namespace Go.Proofs.Ytkgpnloghmbmlaa.Hq
open Go.RowKit Go.Proofs.Ytkgpnloghmbmlaa.Print Go.Proofs.YtkgpnloghmbmlaaW.PrintWords Go.Proofs.YtkgpnloghmbmlaaW.PrintLast Go.Proofs.YtkgpnloghmbmlaaW.PrintMore Go.Proofs.Ytkgpnloghmbmlaa.Pure Go.Proofs.Ytkgpnloghmbmlaa.Hd
set_option linter.unusedVariables false
theorem come_laid {D : Dd} {p : S54} (h1 : ¬ D.st = 1) : comeD (laidD D p) = ⟨D.st, comeSl p (comeD D).l1, comeRg p (comeD D).l2, comeSp p (comeD D).l3, []⟩ := by
  unfold laidD
  rw [if_neg h1]
  by_cases h2 : D.l4.length = 40
  · rw [if_pos h2]
    rfl
  · rw [if_neg h2]
    unfold comeD comeAll
    simp only [List.foldl_append]
    rfl
abbrev tx : ByteArray := ⟨#[116, 101, 120, 116]⟩
def ringP (a : Nat) : S54 := ⟨true, (a : Int), tx⟩
theorem ringP_ok {a : Nat} (h : a < 2) : putB (ringP a) = true := by
  unfold putB
  rw [if_pos (show (ringP a).f0 = true from rfl)]
  exact decide_eq_true ⟨by show (0 : Int) ≤ (a : Int); omega, by show (a : Int) < 2; omega, by show tx.size ≤ 700; decide⟩
theorem ring_live {D : Dd} {a : Nat} (h : GoodD D) (h1 : ¬ D.st = 1) (ha : a < 2) : (comeD (laidD D (ringP a))).l1 = (comeD D).l1 ∧ (comeD (laidD D (ringP a))).l2 = (comeD D).l2.set a tx := by
  rw [come_laid h1]
  exact ⟨rfl, by show comeRg (ringP a) _ = _; simp [comeRg, ringP]⟩
theorem ring_at {D : Dd} {a : Nat} (h : GoodD D) (h1 : ¬ D.st = 1) (ha : a < 2) : (comeD (laidD D (ringP a))).l2.getD a ByteArray.empty = tx ∧ ∀ j, j ≠ a → (comeD (laidD D (ringP a))).l2.getD j ByteArray.empty = (comeD D).l2.getD j ByteArray.empty := by
  have hl : (comeD D).l2.length = 2 := (good_come h).sh.2.2.1
  rw [(ring_live h h1 ha).2]
  refine ⟨by rw [getD_set _ _ _ _ _ (by omega), if_pos rfl], fun j hj => ?_⟩
  rw [getD_set _ _ _ _ _ (by omega), if_neg fun e => hj e.symm]
theorem ring_gone {D : Dd} (h : GoodD D) (h1 : D.st = 1) (a : Nat) : (comeD D).l2.getD a ByteArray.empty = ⟨#[]⟩ := by
  rw [come_gone h h1]
  have hr := (h.go h1).2.1
  rw [List.all_eq_true] at hr
  by_cases ha : a < D.l2.length
  · have h2 := hr (D.l2.getD a ByteArray.empty) (by simp [List.getD, ha])
    have h3 : (D.l2.getD a ByteArray.empty).size = 0 := by simpa using h2
    exact ByteArray.ext (Array.eq_empty_of_size_eq_zero h3)
  · simp only [List.getD, List.getElem?_eq_none (Nat.le_of_not_lt ha)]
    rfl
theorem ring_cell {w : World} {M : Mm} {D : Dd} (h : Rd w M D) {b : Nat} (e : M.A2 = some ⟨b, 0, none⟩) {i : Nat} (hi : i < D.l2.length) {s : ByteArray} (hs : D.l2.getD i ByteArray.empty = s) : w.cell? ⟨b, i, none⟩ = some (.string s) := by
  obtain ⟨ad, c, e1, _, hK, hc⟩ := Kd.C_get h.r2 ByteArray.empty (i : Int) (by omega) (by omega)
  rw [e] at e1
  injection e1 with e1
  subst e1
  rw [Int.toNat_natCast, hs] at hK
  have hK' : c = [.string s] := hK
  subst hK'
  have h1 := hc 0 (.string s) rfl
  rw [Int.toNat_natCast, Addr.add_mid] at h1
  have e2 : 0 + (i * Kd.string.sz + 0) = i := by show 0 + (i * 1 + 0) = i; omega
  rw [e2] at h1
  exact h1
theorem own_at2 {w : World} {lo hi : Nat} {M : Mm} {D : Dd} (h : Own w lo hi M D) (hn : D.l2.length = 2) : ∃ g, M.A2 = some ⟨g, 0, none⟩ := by
  obtain ⟨g, e, _⟩ := own_addr (A := M.A2) h.o2 (by omega)
  exact ⟨g, e⟩
theorem cell2a {M : Mm} {D : Dd} {A : Option Addr} (e : M.A2 = A) (h : D.l2.length = 2) : (cD M D)[2]? = some (.slice A 2 M.c2) := by
  have e1 : (cD M D)[2]? = some (.slice M.A2 D.l2.length M.c2) := rfl
  rw [e1, h, e]
theorem texts_call {w : World} {M M' : Mm} {D D' : Dd} (hf : FitsD D') (e : D'.l1 = D.l1) (hl : D.l1.length = 12) (h : Rd w M D) (h' : Rd w M' D') : Calls Try.prog 40 #[.slice M'.A1 12 M'.c1, .slice M.A1 12 M.c1] w fun e w' => e = .returned (.bool true) ∧ Below w.heap.size w w' := by
  have q := lpaTexts_call (w := w) (M := M') (M' := M) (D := D') (D' := D) hf e.symm h' h
  rw [e, hl] at q
  exact q
end Go.Proofs.Ytkgpnloghmbmlaa.Hq
