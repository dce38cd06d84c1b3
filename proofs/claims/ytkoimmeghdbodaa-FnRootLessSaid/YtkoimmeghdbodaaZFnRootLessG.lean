/- Proved, with what follows on it: the row of the law FnRootLess. Conditions: the row's alone. Texts of this session and words that the kit's print laid for this seat, merged and cut by shrink.py, a program of this session. -/
import Derived.Test.YtkoimmeghdbodaaZFnRootLessF
set_option linter.unusedVariables false
set_option linter.unusedSimpArgs false
namespace Go.Proofs.Ytkoimmeghdbodaa.Hq
open Go.RowKit Go.Proofs.Ytkoimmeghdbodaa.Print Go.Proofs.YtkoimmeghdbodaaW.PrintWords Go.Proofs.YtkoimmeghdbodaaW.PrintLast Go.Proofs.YtkoimmeghdbodaaW.PrintMore Go.Proofs.Ytkoimmeghdbodaa.Pure Go.Proofs.Ytkoimmeghdbodaa.Hd
section
variable {b : Nat} {ws W : World} {L : List Part} {Sr So Tn : Nat → Prop} {wr wo wn : World} {v : Value} {D : List S65}
theorem Hq.merge' (H : Hq b ws W (.set Sr wr :: .set Tn wn :: L)) : Hq b ws W (.set (fun k => Sr k ∨ Tn k) W :: L) := by
  have h1 := List.pairwise_cons.1 H.dis
  have h2 := List.pairwise_cons.1 h1.2
  refine ⟨H.bel, H.ge, fun q hq => ?_, List.pairwise_cons.2 ⟨fun q hq k hk hq' => ?_, h2.2⟩⟩
  · rcases List.mem_cons.1 hq with rfl | hq
    · exact ⟨fun k hk => hk.elim (H.set_in 0 rfl k) (H.set_in 1 rfl k), fun k _ => rfl⟩
    · exact H.all q (List.mem_cons_of_mem _ (List.mem_cons_of_mem _ hq))
  · rcases hk with hk | hk
    · exact h1.1 q (List.mem_cons_of_mem _ hq) k hk hq'
    · exact h2.1 q hq k hk hq'
theorem Hq.part_of {Sa Sb : Nat → Prop} {wa wb : World} (H : Hq b ws W (.set Sb wb :: L)) (h : ∀ k, Sa k → Sb k) (hw : ∀ k, Sa k → wa.heap[k]? = wb.heap[k]?) : Hq b ws W (.set Sa wa :: L) := by
  have h1 := List.pairwise_cons.1 H.dis
  refine ⟨H.bel, H.ge, fun q hq => ?_, List.pairwise_cons.2 ⟨fun q hq k hk hq' => h1.1 q hq k (h k hk) hq', h1.2⟩⟩
  rcases List.mem_cons.1 hq with rfl | hq
  · exact ⟨fun k hk => H.set_in 0 rfl k (h k hk), fun k hk => (H.same 0 rfl k (h k hk)).trans (hw k hk).symm⟩
  · exact H.all q (List.mem_cons_of_mem _ hq)
theorem Hq.fresh2 {p : Part} (H : Hq b ws W (p :: .set So wo :: L)) : Hq b ws W (p :: .set So W :: L) := by
  have h1 := List.pairwise_cons.1 H.dis
  have h2 := List.pairwise_cons.1 h1.2
  refine ⟨H.bel, H.ge, fun q hq => ?_, List.pairwise_cons.2 ⟨fun q hq => ?_, List.pairwise_cons.2 ⟨h2.1, h2.2⟩⟩⟩
  · rcases List.mem_cons.1 hq with rfl | hq
    · exact H.all _ (List.mem_cons_self ..)
    · rcases List.mem_cons.1 hq with rfl | hq
      · exact ⟨H.set_in 1 rfl, fun k _ => rfl⟩
      · exact H.all q (List.mem_cons_of_mem _ (List.mem_cons_of_mem _ hq))
  · rcases List.mem_cons.1 hq with rfl | hq
    · exact h1.1 (.set So wo) (List.mem_cons_self ..)
    · exact h1.1 q (List.mem_cons_of_mem _ hq)
theorem Hq.join2 (H : Hq b ws W (.set Sr wr :: .set So wo :: L)) (N : NewR b Sr So wr wo v D) :
    ∃ (SR : Nat → Prop) (w9 : World), Az (Hq b ws W (.set SR w9 :: L)) ∧ Az (∀ v0 D0, q65.R 65 wr b Sr v0 D0 → q65.R 65 w9 b SR v0 D0) ∧ Az (q65.R 65 w9 b SR v D) ∧ Az (∀ W' L', Hq b ws W' (.set SR w9 :: L') → Hq b ws W' (.set Sr wr :: L')) :=
  ⟨_, _, ⟨H.merge N.root⟩, ⟨fun v0 D0 h => Kd.R_mono (Kd.R_move h N.root) fun _ hk => .inl hk⟩, ⟨N.row⟩, ⟨fun W' L' h => h.part_of (fun k hk => .inl hk) (fun k hk => (N.root k hk).symm)⟩⟩
theorem Hq.join3 (H : Hq b ws W (.set Sr wr :: .set Tn wn :: .set So wo :: L)) (N : NewR b Sr So wr wo v D) :
    ∃ (S2 : Nat → Prop) (w2 wo2 : World), Az (Hq b ws W (.set S2 w2 :: .set So wo2 :: L)) ∧ Az (NewR b S2 So w2 wo2 v D) ∧ Az (∀ v0 D0, q65.R 65 wr b Sr v0 D0 → q65.R 65 w2 b S2 v0 D0) ∧
      Az (∀ l vB, q29.R 29 wn b Tn vB l → q29.Q 29 W b (fun k => (S2 k ∨ So k) ∧ some k ≠ v.ownBlock) vB l) ∧ Az (∀ W' L', Hq b ws W' (.set S2 w2 :: L') → Hq b ws W' (.set Sr wr :: L')) :=
  ⟨fun k => Sr k ∨ Tn k, W, W, ⟨H.merge'.fresh2⟩, ⟨⟨Kd.R_mono (N.at H 0 2 rfl rfl) (fun k hk => hk.elim (fun h => .inl (.inl h)) .inr), fun _ _ => rfl, N.own⟩⟩, ⟨fun v0 D0 h => Kd.R_mono (H.rr 0 rfl h) fun _ hk => .inl hk⟩,
    ⟨fun l vB h => Kd.Q_mono (Kd.Q_of_R (H.rr 1 rfl h)) fun k hk => ⟨.inl (.inr hk), fun e => H.apart 1 2 (by decide) rfl rfl k hk (N.own k e.symm)⟩⟩, ⟨fun W' L' h => h.part_of (fun k hk => .inl hk) (fun k hk => (H.same 0 rfl k hk).symm)⟩⟩
end
theorem less_len {D : List S65} {v : Nat} : (lessV D v).length ≤ D.length := by
  unfold lessV
  rw [List.length_append, List.length_take, List.length_drop]
  omega
theorem less_mem {D : List S65} {v : Nat} {x : S65} (h : x ∈ lessV D v) : x ∈ D := by
  rcases List.mem_append.1 h with h | h
  · exact List.mem_of_mem_take h
  · exact List.mem_of_mem_drop h
theorem fit_less {D : List S65} (h : FitM D) (v : Nat) : FitM (lessV D v) := ⟨Nat.le_trans less_len h.len, fun x hx => h.ptrs x (less_mem hx), fun x hx => h.places x (less_mem hx)⟩
theorem fit_more {D : List S65} (h : FitM D) (hl : D.length ≤ 1000) (v : Nat) : FitM (moreV D v) := by
  have hm := fit_less h v
  have hn := less_len (D := D) (v := v)
  have hz : ∀ x : S65, x ∈ moreV D v → x ∈ lessV D v ∨ x.f1 = List.replicate 3 z29 := fun x hx => by
    rcases List.mem_append.1 hx with hx | hx
    · exact .inl hx
    · rw [List.mem_singleton.1 hx]; exact .inr rfl
  refine ⟨?_, fun x hx => ?_, fun x hx y hy => ?_⟩
  · unfold moreV
    rw [List.length_append, List.length_singleton]
    omega
  · rcases hz x hx with h | h
    · exact hm.ptrs x h
    · rw [h]; decide
  · rcases hz x hx with h | h
    · exact hm.places x h y hy
    · rw [h] at hy
      rw [(List.mem_replicate.1 hy).2]
      decide
end Go.Proofs.Ytkoimmeghdbodaa.Hq
namespace Go.Proofs.Ytkoimmeghdbodaa.Hq
open Go.RowKit Go.Proofs.Ytkoimmeghdbodaa.Print Go.Proofs.YtkoimmeghdbodaaW.PrintWords Go.Proofs.YtkoimmeghdbodaaW.PrintLast Go.Proofs.YtkoimmeghdbodaaW.PrintMore Go.Proofs.Ytkoimmeghdbodaa.Pure Go.Proofs.Ytkoimmeghdbodaa.Hd
theorem size37q : (Try.prog.info? 37).map (·.size) = some 2 := by kernel_rfl
theorem lpaIn_q {w : World} {M : AC} {l : List S37} {p : S37} {r : Bool} (hr : decide (p ∈ l) = r) (hl : l.length ≤ 1048576) (h : RdP w M l) : Calls Try.prog 42 #[pV M l, .agg #[.int .i64 p.f0, .int .i64 p.f1]] w fun e w' => e = .returned (.bool r) ∧ Below w.heap.size w w' := hr ▸ lpaIn_call hl p h
set_option maxHeartbeats 8000000 in
set_option maxRecDepth 100000 in
theorem law_FnRootLess (w : World) {A : Option Addr} {c : Nat} {l : List Int} (hC : Kd.C (Kd.int .u8) w A l.length l) (hc : l.length ≤ c) (hw : ∀ x ∈ l, (Lit.int .u8 x).wf = true) {A2 : Option Addr} {c2 : Nat} {l2 : List Int} : Calls Try.prog 8 #[.slice A l.length c, .slice A2 l2.length c2] w fun e w' => e = .returned (.bool true) ∧ Below w.heap.size w w' := by
 have hs57 := size57
 have hs37 := size37q
 have HC := Az.mk hC
 have tk0 : True := trivial
 clear hC
 by_cases hlen : (l.length : Int) > 1048576
 ·have hl1 : decide (1048576 < (l.length : Int)) = true := decide_eq_true hlen
  clear hlen
  go_enter Try.func8, Try.ntmps8
  go_wp2
  go_ret
  exact ⟨rfl, Below.refl _ _⟩
 ·have hl1 : decide (1048576 < (l.length : Int)) = false := decide_eq_false hlen
  by_cases hlen2 : (l2.length : Int) > 1048576
  ·have hl2 : decide (1048576 < (l2.length : Int)) = true := decide_eq_true hlen2
   clear hlen hlen2
   go_enter Try.func8, Try.ntmps8
   go_wp2
   go_ret
   exact ⟨rfl, Below.refl _ _⟩
  ·have hl2 : decide (1048576 < (l2.length : Int)) = false := decide_eq_false hlen2
   have HL2 := Az.mk (show l2.length ≤ 1048576 by omega)
   clear hlen hlen2
   go_enter Try.func8, Try.ntmps8
   go_upto_region 4 with (first | (go_at_call 40; have _tk := tk0; refine (drawRoot_call _ HC.out hc hw).mono ?_; rintro e w24 ⟨n, ta, Ma, Da, rfl, hn, hf, ho, hb⟩; have HN := Az.mk hn; have FVa := Az.mk hf; have HFa := Az.mk hf.fit; have OR := Az.mk (show q65.R 65 w24 w.heap.size (fun k => w.heap.size ≤ k ∧ k < w24.heap.size) (.slice Ma.1 Da.length Ma.2) Da from ho); have HB0 := Az.mk hb; have H := Az.mk ((Hq.start_set (S := (fun k => w.heap.size ≤ k ∧ k < w24.heap.size)) w24 hb.size (fun k hk => hk)).sel [0] [_] (by decide) rfl); clear hn hf ho hb; clear tk0 _tk; have tk1 : True := trivial) | ((with_reducible refine zqg (N := 6) rfl ?_); refine H.out.bx rfl (#[.int .i64 0, .slice none 0 0]) 57 ?hr ?_; (case hr => first | (go_simp; done) | (go_simp; rfl)); intro g6 w6 H1; clear H; have H := H1; clear H1; (try simp only [Act.put, zs1, zs2, zs3])) | ((with_reducible refine gate_store (t := 57) (p := 6) rfl ?_); refine H.out.st_row 0 rfl rfl (x := .tmp 6) (y := .tmp 26) rfl rfl rfl (cR Ma (ta, Da)) rfl hs57 rfl (cR_one _ _) ?_; intro ws3_7 H1; clear H; have H := H1; clear H1))
   (try simp only [Act.put, zs1, zs2, zs3])
   cases hra : rootB n ta Da with
   | true =>
    have RBa := Az.mk hra
    clear hra
    by_cases hz : Da.length = 0
    ·have hz1 : decide (Da.length = 0) = true := decide_eq_true hz
     have hz2 : ((Da.length : Int) == 0) = true := beq_iff_eq.mpr (by omega)
     have hz3 : decide ((Da.length : Int) = 0) = true := decide_eq_true (by omega)
     clear hz
     go_wp2_with (first | ((with_reducible refine zqg (N := 28) rfl ?_); refine H.out.ld_row 0 rfl rfl rfl rfl Try.underlying57 rfl hs57 ?_; (try simp only [Act.put, zs1, zs2, zs3])) | (go_at_call 38; have _tk := tk1; refine (implRt_q ta RBa.out HFa.out (rdr_of (M := Ma) H.out 1 rfl OR.out)).mono ?_; rintro e w29 ⟨rfl, hb⟩; have H1 := Az.mk (H.out.step hb); clear hb; clear H; have H := H1; clear H1; clear tk1 _tk; have tk2 : True := trivial) | ((with_reducible refine zqg (N := 32) rfl ?_); refine H.out.ld_row 0 rfl rfl rfl rfl Try.underlying57 rfl hs57 ?_; (try simp only [Act.put, zs1, zs2, zs3])) | (go_at_call 36; have _tk := tk2; refine (specRt_q ta RBa.out HFa.out (rdr_of (M := Ma) H.out 1 rfl OR.out)).mono ?_; rintro e w33 ⟨rfl, hb⟩; have H1 := Az.mk (H.out.step hb); clear hb; clear H; have H := H1; clear H1; clear tk2 _tk; have tk3 : True := trivial) | ((with_reducible refine zqg (N := 41) rfl ?_); refine gate_guard (by rfl) ?_; dsimp only; refine H.out.ld_cell 0 rfl 1 (v := .slice Ma.1 Da.length Ma.2) rfl rfl rfl rfl Try.underlying55 rfl ?_; (try simp only [Act.put, zs1, zs2, zs3])) | ((with_reducible refine zqg (N := 47) rfl ?_); refine H.out.ld_row 0 rfl rfl rfl rfl Try.underlying57 rfl hs57 ?_; (try simp only [Act.put, zs1, zs2, zs3])) | (go_at_call 36; have _tk := tk3; refine (specRt_q ta RBa.out HFa.out (rdr_of (M := Ma) H.out 1 rfl OR.out)).mono ?_; rintro e w48 ⟨rfl, hb⟩; have H1 := Az.mk (H.out.step hb); clear hb; clear H; have H := H1; clear H1; clear tk3 _tk; have tk4 : True := trivial))
     (try simp only [Act.put, zs1, zs2, zs3])
     go_ret
     exact ⟨rfl, HB0.out.trans H.out.bel⟩
    ·have hz1 : decide (Da.length = 0) = false := decide_eq_false hz
     have hz2 : ((Da.length : Int) == 0) = false := beq_eq_false_iff_ne.mpr (by omega)
     have hz3 : decide ((Da.length : Int) = 0) = false := decide_eq_false (by omega)
     have HZ := Az.mk (Nat.pos_of_ne_zero hz)
     have hz5 := eq_false (show ¬ (Da.length : Int) = 0 by omega)
     have hz6 := eq_false hz
     clear hz
     go_upto_region 8 with (first | ((with_reducible refine zqg (N := 28) rfl ?_); refine H.out.ld_row 0 rfl rfl rfl rfl Try.underlying57 rfl hs57 ?_; (try simp only [Act.put, zs1, zs2, zs3])) | (go_at_call 38; have _tk := tk1; refine (implRt_q ta RBa.out HFa.out (rdr_of (M := Ma) H.out 1 rfl OR.out)).mono ?_; rintro e w29 ⟨rfl, hb⟩; have H1 := Az.mk (H.out.step hb); clear hb; clear H; have H := H1; clear H1; clear tk1 _tk; have tk2 : True := trivial) | ((with_reducible refine zqg (N := 32) rfl ?_); refine H.out.ld_row 0 rfl rfl rfl rfl Try.underlying57 rfl hs57 ?_; (try simp only [Act.put, zs1, zs2, zs3])) | (go_at_call 36; have _tk := tk2; refine (specRt_q ta RBa.out HFa.out (rdr_of (M := Ma) H.out 1 rfl OR.out)).mono ?_; rintro e w33 ⟨rfl, hb⟩; have H1 := Az.mk (H.out.step hb); clear hb; clear H; have H := H1; clear H1; clear tk2 _tk; have tk3 : True := trivial) | ((with_reducible refine zqg (N := 41) rfl ?_); refine gate_guard (by rfl) ?_; dsimp only; refine H.out.ld_cell 0 rfl 1 (v := .slice Ma.1 Da.length Ma.2) rfl rfl rfl rfl Try.underlying55 rfl ?_; (try simp only [Act.put, zs1, zs2, zs3])) | ((with_reducible refine zqg (N := 53) rfl ?_); refine H.out.ld_cell 0 rfl 1 (v := .slice Ma.1 Da.length Ma.2) rfl rfl rfl rfl Try.underlying55 rfl ?_; (try simp only [Act.put, zs1, zs2, zs3])))
     (try simp only [Act.put, zs1, zs2, zs3])
     obtain ⟨v, hv⟩ : ∃ v : Nat, v = l2.length % Da.length := ⟨_, rfl⟩
     have hvm : (l2.length : Int) % (Da.length : Int) = (v : Int) := by rw [hv]; exact (Int.natCast_emod _ _).symm
     have HV := Az.mk (show v < Da.length by rw [hv]; exact Nat.mod_lt _ HZ.out)
     simp only [hvm]
     clear hv hvm hz5 hz6 hz1 hz2 hz3
     obtain ⟨Am, cm⟩ := Ma
     have HCM := Az.mk (show Da.length ≤ cm from (rdr_of H.out 1 rfl OR.out).1)
     refine start_ (n := 17) (S := fun w' => Hq w.heap.size w24 w' [.box g6 (cR (Am, cm) (ta, Da)) 57]) (ds := [16]) (bm 17 0) (by kernel_rfl) rfl rfl (H.out.drew.sel [0] _ (by decide) rfl) (fun hHeld => ?_)
     have H1 := Az.mk H.out.drew
     clear H; have H := H1; clear H1
     generalize World.drew _ = wd8 at hHeld H ⊢
     refine zP 0 (some 56) (bm 17 1) ?_
     refine zqt (i := 1) (N := some 57) (v := .int .i64 ta) (a' := ?_) (bm 17 3) rfl rfl (by kernel_rfl) (fun _ _ _ h => h) (Or.inl ⟨by rfl, fun w' s0 => s0.run_cell 0 rfl 0 rfl rfl rfl Try.underlying3 rfl⟩) hHeld ?_ ?_
     rotate_left
     ·simp only [Act.put, zs1, zs2, zs3, i64_w, i32_w]
      rfl
     refine zP 3 (some 59) (bm 17 11) ?_
     refine zqt (i := 4) (N := some 60) (v := .slice Am Da.length cm) (a' := ?_) (bm 17 27) rfl rfl (by kernel_rfl) (fun _ _ _ h => h) (Or.inl ⟨by rfl, fun w' s0 => s0.run_cell 0 rfl 1 rfl rfl rfl Try.underlying55 rfl⟩) hHeld ?_ ?_
     rotate_left
     ·simp only [Act.put, zs1, zs2, zs3, i64_w, i32_w]
      rfl
     refine zP 5 (some 61) (bm 17 59) ?_
     have p1 := eq_true (show (0 : Int) ≤ (v : Int) by omega)
     have q1 := eq_true (show (v : Int) ≤ (cm : Int) by have := HV.out; have := HCM.out; omega)
     have q1n := eq_true (show v ≤ cm by have := HV.out; have := HCM.out; omega)
     have p2 := eq_true (show (0 : Int) ≤ (v : Int) + 1 by omega)
     have q2 := eq_true (show (v : Int) + 1 ≤ (Da.length : Int) by have := HV.out; omega)
     have hw1 : wrap64 ((v : Int) + 1) = ((v + 1 : Nat) : Int) := by rw [wrap_ok (by have := HV.out; have := FVa.out.len; omega)]; omega
     have p3 := eq_true (show (0 : Int) ≤ ((v + 1 : Nat) : Int) by omega)
     have q3 := eq_true (show ((v + 1 : Nat) : Int) ≤ (Da.length : Int) by have := HV.out; omega)
     have q3n := eq_true (show v + 1 ≤ Da.length by have := HV.out; omega)
     refine zP 6 (some 62) (bm 17 123) ?_
     refine zP 8 (some 64) (bm 17 379) ?_
     refine zqt (i := 9) (N := some 65) (v := .slice Am Da.length cm) (a' := ?_) (bm 17 891) rfl rfl (by kernel_rfl) (fun _ _ _ h => h) (Or.inl ⟨by rfl, fun w' s0 => s0.run_cell 0 rfl 1 rfl rfl rfl Try.underlying55 rfl⟩) hHeld ?_ ?_
     rotate_left
     ·simp only [Act.put, zs1, zs2, zs3, i64_w, i32_w]
      rfl
     refine zP 10 (some 66) (bm 17 1915) ?_
     refine zP 11 (some 67) (bm 17 3963) ?_
     refine zP 12 (some 68) (bm 17 8059) ?_
     refine join_ (σ := Value × Value × Option Addr × Nat × Nat) 1 (bm 17 65535) (fun s => [(58, s.1), (63, s.2.1), (69, .slice s.2.2.1 (lessV Da v).length s.2.2.2.1), (70, .agg #[.int .i64 ta, .slice s.2.2.1 (lessV Da v).length s.2.2.2.1]), (9, .pointer (some ⟨s.2.2.2.2, 0, none⟩))]) (fun s w' => ∃ (So : Nat → Prop) (wo : World), Az (NewR w.heap.size (fun k => w.heap.size ≤ k ∧ k < w24.heap.size) So w24 wo (.slice s.2.2.1 (lessV Da v).length s.2.2.2.1) (lessV Da v)) ∧ Az (Hq w.heap.size w24 w' [.box s.2.2.2.2 (#[.int .i64 0, .slice none 0 0]) 57, .set So wo, .box g6 (cR (Am, cm) (ta, Da)) 57, .set (fun k => w.heap.size ≤ k ∧ k < w24.heap.size) w24])) ?_ ?_
     ·rintro ⟨x58, x63, A69, c69, g9⟩ wj ⟨So, wo, NW, H⟩
      refine norm_ (a' := ?_) ?_ ?_
      rotate_left
      ·simp only [putAll, Act.put, zs1, zs2, zs3]
       rfl
      refine last_ (i := 16) (N := none) (bm 17 131071) rfl rfl (by kernel_rfl) (by decide) (fun K hK => ?_)
      refine H.out.last_row 0 rfl (by rfl) (x := .tmp 9) (y := .tmp 70) rfl rfl rfl (#[.int .i64 ta, .slice A69 (lessV Da v).length c69]) rfl hs57 rfl (by simp [Value.oneCell']) ?_
      intro ws8 H1
      clear H; have H := H1; clear H1
      refine hK.out _ _ ?_
      clear hK K
      refine norm_ (a' := ?_) ?_ ?_
      rotate_left
      ·rfl
      refine done_ (by kernel_rfl) ?_
      go_upto_region 9 with fail
      obtain ⟨SR, w9, H1, HM, OX, _⟩ := Hq.join2 (H.out.sel [3, 1, 0, 2] [.set (fun k => w.heap.size ≤ k ∧ k < w24.heap.size) w24, .set So wo, .box g9 (#[.int .i64 ta, .slice A69 (lessV Da v).length c69]) 57, .box g6 (cR (Am, cm) (ta, Da)) 57] (by decide) rfl) NW.out
      have OA := Az.mk (HM.out _ _ OR.out)
      clear HM OR NW
      clear H; have H := H1; clear H1
      obtain ⟨gA, eA, hgA, hnA⟩ := elem65 OA.out HV.out
      subst eA
      obtain ⟨nm, hnm⟩ : ∃ nm, nm = (Da.getD v z65).f0 := ⟨_, rfl⟩
      rw [← hnm] at hnA
      have HNM := Az.mk hnm
      have HgA := Az.mk hgA
      have HnA := Az.mk hnA
      clear hgA hnA hnm
      have q9 := eq_true (show (v : Int) < (Da.length : Int) by have := HV.out; omega)
      have q9n := eq_true HV.out
      have H1 := Az.mk (show Hq w.heap.size w24 _ [.set SR w9, .box g9 (cR (A69, c69) (ta, (lessV Da v))) 57, .box g6 (cR (some ⟨gA, 0, none⟩, cm) (ta, Da)) 57] from H.out)
      clear H; have H := H1; clear H1
      refine start_ (n := 19) (S := fun w' => Hq w.heap.size w24 w' [.set SR w9, .box g9 (cR (A69, c69) (ta, (lessV Da v))) 57, .box g6 (cR (some ⟨gA, 0, none⟩, cm) (ta, Da)) 57]) (ds := [18]) (bm 19 0) (by kernel_rfl) rfl rfl (H.out.drew.sel [0, 1, 2] _ (by decide) rfl) (fun hHeld => ?_)
      have H1 := Az.mk H.out.drew
      clear H; have H := H1; clear H1
      generalize World.drew _ = wd9 at hHeld H ⊢
      refine zP 0 (some 71) (bm 19 1) ?_
      refine zqt (i := 1) (N := some 72) (v := .int .i64 ta) (a' := ?_) (bm 19 3) rfl rfl (by kernel_rfl) (fun _ _ _ h => h) (Or.inl ⟨by rfl, fun w' s0 => s0.run_cell 2 rfl 0 rfl rfl rfl Try.underlying3 rfl⟩) hHeld ?_ ?_
      rotate_left
      ·simp only [Act.put, zs1, zs2, zs3, i64_w, i32_w]
       rfl
      refine zP 3 (some 74) (bm 19 11) ?_
      refine zqt (i := 4) (N := some 75) (v := .slice A69 (lessV Da v).length c69) (a' := ?_) (bm 19 27) rfl rfl (by kernel_rfl) (fun _ _ _ h => h) (Or.inl ⟨by rfl, fun w' s0 => s0.run_cell 1 rfl 1 rfl rfl rfl Try.underlying55 rfl⟩) hHeld ?_ ?_
      rotate_left
      ·simp only [Act.put, zs1, zs2, zs3, i64_w, i32_w]
       rfl
      refine zP 6 (some 77) (bm 19 91) ?_
      refine zqt (i := 7) (N := some 78) (v := .slice (some ⟨gA, 0, none⟩) Da.length cm) (a' := ?_) (bm 19 219) rfl rfl (by kernel_rfl) (fun _ _ _ h => h) (Or.inl ⟨by rfl, fun w' s0 => s0.run_cell 2 rfl 1 rfl rfl rfl Try.underlying55 rfl⟩) hHeld ?_ ?_
      rotate_left
      ·simp only [Act.put, zs1, zs2, zs3, i64_w, i32_w]
       rfl
      refine zP 8 (some 79) (bm 19 475) ?_
      refine zP 9 (some 80) (bm 19 987) ?_
      refine zP 10 (some 81) (bm 19 2011) ?_
      refine zqt (i := 11) (N := some 82) (v := .string nm) (a' := ?_) (bm 19 4059) rfl rfl (by kernel_rfl) (fun _ _ _ h => h) (Or.inl ⟨by rfl, fun w' s0 => run_c (v := .string nm) (s0.cell 0 rfl HgA.out HnA.out) rfl rfl Try.underlying9 rfl⟩) hHeld ?_ ?_
      rotate_left
      ·simp only [Act.put, zs1, zs2, zs3, i64_w, i32_w]
       rfl
      refine join_ (σ := Value × Value × Value × Value × Value × Option Addr × Nat × Nat) 1 (bm 19 262143) (fun s => [(73, s.1), (76, s.2.1), (83, s.2.2.1), (84, s.2.2.2.1), (85, s.2.2.2.2.1), (86, .slice s.2.2.2.2.2.1 (moreV Da v).length s.2.2.2.2.2.2.1), (87, .agg #[.int .i64 ta, .slice s.2.2.2.2.2.1 (moreV Da v).length s.2.2.2.2.2.2.1]), (10, .pointer (some ⟨s.2.2.2.2.2.2.2, 0, none⟩))]) (fun s w' => ∃ (SZ : Nat → Prop), ∃ (wz : World), Az (q65.R 65 wz w.heap.size SZ (.slice (some ⟨gA, 0, none⟩) Da.length cm) Da) ∧ Az (q65.R 65 wz w.heap.size SZ (.slice A69 (lessV Da v).length c69) (lessV Da v)) ∧ Az (q65.R 65 wz w.heap.size SZ (.slice s.2.2.2.2.2.1 (moreV Da v).length s.2.2.2.2.2.2.1) (moreV Da v)) ∧ Az (∀ W' L', Hq w.heap.size w24 W' (.set SZ wz :: L') → Hq w.heap.size w24 W' (.set SR w9 :: L')) ∧ Az (Hq w.heap.size w24 w' [.box s.2.2.2.2.2.2.2 (#[.int .i64 0, .slice none 0 0]) 57, .set SZ wz, .box g9 (cR (A69, c69) (ta, (lessV Da v))) 57, .box g6 (cR (some ⟨gA, 0, none⟩, cm) (ta, Da)) 57])) ?_ ?_
      ·rintro ⟨x73, x76, x83, x84, x85, A86, c86, g10⟩ wj ⟨SZ, wz, OA, OX, OY, HBK, H⟩
       refine norm_ (a' := ?_) ?_ ?_
       rotate_left
       ·simp only [putAll, Act.put, zs1, zs2, zs3]
        rfl
       refine last_ (i := 18) (N := none) (bm 19 524287) rfl rfl (by kernel_rfl) (by decide) (fun K hK => ?_)
       refine H.out.last_row 0 rfl (by rfl) (x := .tmp 10) (y := .tmp 87) rfl rfl rfl (#[.int .i64 ta, .slice A86 (moreV Da v).length c86]) rfl hs57 rfl (by simp [Value.oneCell']) ?_
       intro ws9 H1
       clear H; have H := H1; clear H1
       refine hK.out _ _ ?_
       clear hK K
       refine norm_ (a' := ?_) ?_ ?_
       rotate_left
       ·rfl
       refine done_ (by kernel_rfl) ?_
       have H1 := Az.mk (show Hq w.heap.size w24 _ [.box g10 (cR (A86, c86) (ta, (moreV Da v))) 57, .set SZ wz, .box g9 (cR (A69, c69) (ta, (lessV Da v))) 57, .box g6 (cR (some ⟨gA, 0, none⟩, cm) (ta, Da)) 57] from H.out)
       clear H; have H := H1; clear H1
       generalize (if cm = v + 1 then (some ⟨gA, 0, none⟩ : Option Addr) else Option.map (fun x : Addr => x.add ((v + 1) * 2)) (some (⟨gA, 0, none⟩ : Addr))) = x68
       clear p1 q1 q1n p2 q2 hw1 p3 q3 q3n q9 q9n
       have HFx := Az.mk (fit_less HFa.out v)
       have HFy := Az.mk (fit_more HFa.out (by have := FVa.out.len; omega) v)
       have RBx := Az.mk (less_ok RBa.out HV.out)
       have RBy := Az.mk (more_ok RBa.out HV.out)
       obtain ⟨pa, hpa⟩ : ∃ pa, rootPl n ta Da = pa := ⟨_, rfl⟩
       have Epa := Az.mk hpa
       have HLpa := Az.mk (show pa.length ≤ 1048576 from hpa ▸ rootPl_len n ta Da)
       clear hpa
       obtain ⟨px, hpx⟩ : ∃ px, rootPl n ta (lessV Da v) = px := ⟨_, rfl⟩
       have Epx := Az.mk hpx
       have HLpx := Az.mk (show px.length ≤ 1048576 from hpx ▸ rootPl_len n ta (lessV Da v))
       clear hpx
       have Epy := Az.mk (show rootPl n ta (moreV Da v) = px from (more_pl RBa.out HV.out).trans Epx.out)
       have HSUB := Az.mk (show ∀ p, p ∈ px → p ∈ pa from fun p hp => by rw [← Epa.out]; exact less_in RBa.out HV.out (by rw [Epx.out]; exact hp))
       go_upto_region 12 with (first | ((with_reducible refine zqg (N := 89) rfl ?_); refine H.out.ld_row 2 rfl rfl rfl rfl Try.underlying57 rfl hs57 ?_; (try simp only [Act.put, zs1, zs2, zs3])) | (go_at_call 41; have _tk := tk3; refine (implPl_q ta Epx.out HFx.out (rdr_of (M := (A69, c69)) H.out 1 rfl OX.out) H.out.ge).mono ?_; rintro e w90 ⟨M90, rfl, ho, hb⟩; have O90 := Az.mk ho; have H1 := Az.mk (H.out.made hb); clear ho hb; clear H; have H := H1; clear H1; clear tk3 _tk; have tk4 : True := trivial) | ((with_reducible refine zqg (N := 92) rfl ?_); refine H.out.ld_row 4 rfl rfl rfl rfl Try.underlying57 rfl hs57 ?_; (try simp only [Act.put, zs1, zs2, zs3])) | (go_at_call 41; have _tk := tk4; refine (implPl_q ta Epa.out HFa.out (rdr_of (M := (some ⟨gA, 0, none⟩, cm)) H.out 2 rfl OA.out) H.out.ge).mono ?_; rintro e w93 ⟨M93, rfl, ho, hb⟩; have O93 := Az.mk ho; have H1 := Az.mk (H.out.made hb); clear ho hb; clear H; have H := H1; clear H1; clear tk4 _tk; have tk5 : True := trivial))
       (try simp only [Act.put, zs1, zs2, zs3])
       obtain ⟨lo90, hi90, wl90, lo93, hi93, wl93, O90, O93, H⟩ : ∃ lo90 hi90 wl90 lo93 hi93 wl93, Az (OwP wl90 w.heap.size lo90 hi90 M90 px) ∧ Az (OwP wl93 w.heap.size lo93 hi93 M93 pa) ∧ Az (Hq w.heap.size w24 _ [.set (fun k => lo93 ≤ k ∧ k < hi93) wl93, .set (fun k => lo90 ≤ k ∧ k < hi90) wl90, .box g10 (cR (A86, c86) (ta, (moreV Da v))) 57, .set SZ wz, .box g9 (cR (A69, c69) (ta, (lessV Da v))) 57, .box g6 (cR (some ⟨gA, 0, none⟩, cm) (ta, Da)) 57]) := ⟨_, _, _, _, _, _, O90, O93, ⟨H.out.sel [0, 1, 2, 3, 4, 5] _ (by decide) rfl⟩⟩
       obtain ⟨Ap, cp⟩ := M90
       obtain ⟨As, cs'⟩ := M93
       simp only [pV]
       go_wp2
       go_loopg [13] px.length (fun kq v13 w' => ∃ (i : Nat), v13 = .int .i64 (i : Int) ∧ Az (i + kq = px.length) ∧ Az (Hq w.heap.size w24 w' [.set (fun k => lo93 ≤ k ∧ k < hi93) wl93, .set (fun k => lo90 ≤ k ∧ k < hi90) wl90, .box g10 (cR (A86, c86) (ta, (moreV Da v))) 57, .set SZ wz, .box g9 (cR (A69, c69) (ta, (lessV Da v))) 57, .box g6 (cR (some ⟨gA, 0, none⟩, cm) (ta, Da)) 57]))
       case atStart => exact ⟨0, rfl, ⟨Nat.zero_add _⟩, H⟩
       case round =>
        clear H tk5
        obtain ⟨i, rfl, HI, H⟩ := hrel
        have tk0 : True := trivial
        by_cases hi : i < px.length
        ·skip
         have c97 : decide (i < px.length) = true := decide_eq_true (by omega)
         have c97i : decide ((i : Int) < (px.length : Int)) = true := decide_eq_true (by omega)
         have HE := Az.mk hi
         have HWi : Az (wrap64 ((i : Int) + 1) = ((i + 1 : Nat) : Int)) := ⟨by rw [wrap_ok (by have := HE.out; have := HLpx.out; omega)]; omega⟩
         have p1 := eq_true (show (0 : Int) ≤ (i : Int) by omega)
         have q1 := eq_true (show (i : Int) < (px.length : Int) by omega)
         have q1n := eq_true hi
         clear hi
         obtain ⟨gk9, hg9⟩ : ∃ x, x = gk := ⟨_, rfl⟩
         subst hg9
         obtain ⟨adb, eb, hb_0, hb_1⟩ := at_T37 (H.out.rdP 1 rfl O90.out).2 (i : Int) (by omega) (by have := HE.out; omega)
         simp only at eb
         cases eb
         simp only [Int.toNat_natCast, rd_T37] at hb_0 hb_1
         obtain ⟨b, hb⟩ : ∃ x, x = px.getD i z37 := ⟨_, rfl⟩
         rw [← hb] at hb_0 hb_1
         have HMpa := Az.mk (show decide (b ∈ pa) = true from decide_eq_true (HSUB.out b (by rw [hb]; exact getD_mem HE.out)))
         clear hb
         go_wp2_with (first | (go_at_call 42; have _tk := tk0; refine (lpaIn_q (p := b) HMpa.out HLpa.out (H.out.rdP 0 rfl O93.out)).mono ?_; rintro e w105 ⟨rfl, hb⟩; have H1 := Az.mk (H.out.step hb); clear hb; clear H; have H := H1; clear H1; clear tk0 _tk; have tk1 : True := trivial))
         (try simp only [Act.put, zs1, zs2, zs3])
         go_roundg (px.length - (i + 1))
         case measure => have := HI.out; have := HE.out; omega
         case rel => exact ⟨i + 1, by rw [← HWi.out], ⟨by have := HE.out; omega⟩, ⟨H.out.sel [0, 1, 2, 3, 4, 5] _ (by decide) rfl⟩⟩
        ·skip
         have c97 : decide (i < px.length) = false := decide_eq_false (by omega)
         have c97i : decide ((i : Int) < (px.length : Int)) = false := decide_eq_false (by omega)
         clear hi
         go_wp2_with (first | ((with_reducible refine zqg (N := 108) rfl ?_); refine H.out.ld_row 4 rfl rfl rfl rfl Try.underlying57 rfl hs57 ?_; (try simp only [Act.put, zs1, zs2, zs3])) | (go_at_call 38; have _tk := tk0; refine (implRt_q ta RBx.out HFx.out (rdr_of (M := (A69, c69)) H.out 3 rfl OX.out)).mono ?_; rintro e w109 ⟨rfl, hb⟩; have H1 := Az.mk (H.out.step hb); clear hb; clear H; have H := H1; clear H1; clear tk0 _tk; have tk1 : True := trivial) | ((with_reducible refine zqg (N := 112) rfl ?_); refine gate_guard (by rfl) ?_; dsimp only; refine H.out.ld_row 2 rfl rfl rfl rfl Try.underlying57 rfl hs57 ?_; (try simp only [Act.put, zs1, zs2, zs3])) | (go_at_call 38; have _tk := tk1; refine (implRt_q ta RBy.out HFy.out (rdr_of (M := (A86, c86)) H.out 3 rfl OY.out)).mono ?_; rintro e w113 ⟨rfl, hb⟩; have H1 := Az.mk (H.out.step hb); clear hb; clear H; have H := H1; clear H1; clear tk1 _tk; have tk2 : True := trivial) | ((with_reducible refine zqg (N := 117) rfl ?_); refine gate_guard (by rfl) ?_; dsimp only; refine H.out.ld_row 2 rfl rfl rfl rfl Try.underlying57 rfl hs57 ?_; (try simp only [Act.put, zs1, zs2, zs3])) | (go_at_call 41; have _tk := tk2; refine (implPl_q ta Epy.out HFy.out (rdr_of (M := (A86, c86)) H.out 3 rfl OY.out) H.out.ge).mono ?_; rintro e w118 ⟨M118, rfl, ho, hb⟩; have O118 := Az.mk ho; have H1 := Az.mk (H.out.made hb); clear ho hb; clear H; have H := H1; clear H1; clear tk2 _tk; have tk3 : True := trivial) | (go_at_call 28; have _tk := tk3; refine (lpaPl_call HLpx.out rfl (H.out.rdP 0 rfl O118.out) (H.out.rdP 2 rfl O90.out)).mono ?_; rintro e w120 ⟨rfl, hb⟩; have H1 := Az.mk (H.out.step hb); clear hb; clear H; have H := H1; clear H1; clear tk3 _tk; have tk4 : True := trivial))
         (try simp only [Act.put, zs1, zs2, zs3])
         go_ret
         exact ⟨rfl, HB0.out.trans H.out.bel⟩
      ·intro hc2211
       refine join_ (σ := Value × Value × Value × Value × Value × Option Addr × Nat) 2 (bm 19 131071) (fun s => [(73, s.1), (76, s.2.1), (83, s.2.2.1), (84, s.2.2.2.1), (85, s.2.2.2.2.1), (86, .slice s.2.2.2.2.2.1 (moreV Da v).length s.2.2.2.2.2.2), (87, .agg #[.int .i64 ta, .slice s.2.2.2.2.2.1 (moreV Da v).length s.2.2.2.2.2.2])]) (fun s w' => ∃ (SZ : Nat → Prop), ∃ (wz : World), Az (q65.R 65 wz w.heap.size SZ (.slice (some ⟨gA, 0, none⟩) Da.length cm) Da) ∧ Az (q65.R 65 wz w.heap.size SZ (.slice A69 (lessV Da v).length c69) (lessV Da v)) ∧ Az (q65.R 65 wz w.heap.size SZ (.slice s.2.2.2.2.2.1 (moreV Da v).length s.2.2.2.2.2.2) (moreV Da v)) ∧ Az (∀ W' L', Hq w.heap.size w24 W' (.set SZ wz :: L') → Hq w.heap.size w24 W' (.set SR w9 :: L')) ∧ Az (Hq w.heap.size w24 w' [.set SZ wz, .box g9 (cR (A69, c69) (ta, (lessV Da v))) 57, .box g6 (cR (some ⟨gA, 0, none⟩, cm) (ta, Da)) 57])) ?_ ?_
       ·rintro ⟨x73, x76, x83, x84, x85, A86, c86⟩ wj ⟨SZ, wz, OA, OX, OY, HBK, H⟩
        refine norm_ (a' := ?_) ?_ ?_
        rotate_left
        ·simp only [putAll, Act.put, zs1, zs2, zs3]
         rfl
        refine one_ (i := 17) (N := some 10) (bm 19 262143) rfl rfl (by kernel_rfl) (by decide) (fun K hK => ?_)
        refine H.out.bx_ (by rfl) (#[.int .i64 0, .slice none 0 0]) 57 ?hr ?_
        (case hr => first | (go_simp; done) | (go_simp; rfl))
        intro g10 w10 H1
        clear H; have H := H1; clear H1
        refine hK.out _ _ ?_ (fun hHeld => ?_)
        ·exact HBK.out _ _ (H.out.sel [1, 2, 3] [.set SZ wz, .box g9 (cR (A69, c69) (ta, (lessV Da v))) 57, .box g6 (cR (some ⟨gA, 0, none⟩, cm) (ta, Da)) 57] (by decide) rfl)
        clear hK K hHeld
        refine norm_ ?_ (hc2211 (x73, x76, x83, x84, x85, A86, c86, g10) _ ⟨_, _, OA, OX, OY, HBK, ⟨H.out.sel [0, 1, 2, 3] _ (by decide) rfl⟩⟩)
        simp only [putAll, Act.put, zs1, zs2, zs3]
        rfl
       ·intro hc2201
        refine join_ (σ := Value × Option Addr × Nat × Nat × Nat × Nat × Nat) 3 (bm 19 163839) (fun s => [(73, s.1), (76, .slice s.2.1 (lessV Da v).length s.2.2.1), (83, .slice (some ⟨s.2.2.2.1, 0, none⟩) 3 s.2.2.2.2.1), (84, .agg #[.string nm, .slice (some ⟨s.2.2.2.1, 0, none⟩) 3 s.2.2.2.2.1]), (85, .slice (some ⟨s.2.2.2.2.2.1, 0, none⟩) 1 1), (10, .pointer (some ⟨s.2.2.2.2.2.2, 0, none⟩))]) (fun s w' => ∃ (So : Nat → Prop), ∃ (wo : World), ∃ (Tn : Nat → Prop), ∃ (wn : World), Az (NewR w.heap.size SR So w9 wo (.slice s.2.1 (lessV Da v).length s.2.2.1) (lessV Da v)) ∧ Az (q29.R 29 wn w.heap.size Tn (.slice (some ⟨s.2.2.2.1, 0, none⟩) 3 s.2.2.2.2.1) (List.replicate 3 z29)) ∧ Az (Hq w.heap.size w24 w' [.box s.2.2.2.2.2.2 (#[.int .i64 0, .slice none 0 0]) 57, .box s.2.2.2.2.2.1 (#[.string nm, .slice (some ⟨s.2.2.2.1, 0, none⟩) 3 s.2.2.2.2.1]) 65, .set So wo, .set Tn wn, .set SR w9, .box g9 (cR (A69, c69) (ta, (lessV Da v))) 57, .box g6 (cR (some ⟨gA, 0, none⟩, cm) (ta, Da)) 57])) ?_ ?_
        ·rintro ⟨x73, A76, c76, g83, c83, g85, g10⟩ wj ⟨So, wo, Tn, wn, NW, V, H⟩
         refine norm_ (a' := ?_) ?_ ?_
         rotate_left
         ·simp only [putAll, Act.put, zs1, zs2, zs3]
          rfl
         refine one_ (i := 15) (N := some 86) (bm 19 196607) rfl rfl (by kernel_rfl) (by decide) (fun K hK => ?_)
         obtain ⟨S2, w2, wo2, H1, NW1, HM, HN, HB2⟩ := Hq.join3 (H.out.sel [4, 3, 2, 1, 0, 5, 6] [.set SR w9, .set Tn wn, .set So wo, .box g85 (#[.string nm, .slice (some ⟨g83, 0, none⟩) 3 c83]) 65, .box g10 (#[.int .i64 0, .slice none 0 0]) 57, .box g9 (cR (A69, c69) (ta, (lessV Da v))) 57, .box g6 (cR (some ⟨gA, 0, none⟩, cm) (ta, Da)) 57] (by decide) rfl) NW.out
         clear H NW; have H := H1; have NW := NW1; clear H1 NW1
         refine H.out.appQ_ 0 1 (by decide) rfl rfl NW.out (src_lit H.out 2 rfl (HN.out _ _ V.out)) (by have := FVa.out.len; have := less_len (D := Da) (v := v); omega) (by rfl) (.tmp 76) (.tmp 85) rfl rfl rfl ?_
         intro A86 c86 w86 q86 HQ86 H1 NW1
         clear H NW; have H := H1; have NW := NW1; clear H1 NW1
         obtain rfl : q86 = (moreV Da v) := by rw [HQ86.out, HNM.out]; rfl
         clear HQ86
         have HH := HB2.out _ [.box g9 (cR (A69, c69) (ta, (lessV Da v))) 57, .box g6 (cR (some ⟨gA, 0, none⟩, cm) (ta, Da)) 57] (H.out.sel [0, 4, 5] [.set S2 w2, .box g9 (cR (A69, c69) (ta, (lessV Da v))) 57, .box g6 (cR (some ⟨gA, 0, none⟩, cm) (ta, Da)) 57] (by decide) rfl)
         obtain ⟨SZ, wz, H1, HM2, OY, HBK1⟩ := Hq.join2 (H.out.sel [0, 1, 3, 4, 5] (_ :: _ :: [.box g10 (#[.int .i64 0, .slice none 0 0]) 57, .box g9 (cR (A69, c69) (ta, (lessV Da v))) 57, .box g6 (cR (some ⟨gA, 0, none⟩, cm) (ta, Da)) 57]) (by decide) rfl) NW.out
         clear H; have H := H1; clear H1
         have OA1 := Az.mk (HM2.out _ _ (HM.out _ _ OA.out))
         have OX1 := Az.mk (HM2.out _ _ (HM.out _ _ OX.out))
         have HBK := Az.mk (fun W' L' h => HB2.out W' L' (HBK1.out W' L' h))
         clear HM HM2 HN HB2 HBK1 NW V OA OX
         have OA := OA1
         have OX := OX1
         clear OA1 OX1
         refine hK.out _ _ HH (fun hHeld => ?_)
         clear hK K hHeld HH
         refine zP 16 (some 87) (bm 19 262143) ?_
         refine norm_ ?_ (hc2211 (x73, .slice A76 (lessV Da v).length c76, .slice (some ⟨g83, 0, none⟩) 3 c83, .agg #[.string nm, .slice (some ⟨g83, 0, none⟩) 3 c83], .slice (some ⟨g85, 0, none⟩) 1 1, A86, c86, g10) _ ⟨_, _, OA, OX, OY, HBK, ⟨H.out.sel [1, 0, 2, 3] _ (by decide) rfl⟩⟩)
         simp only [putAll, Act.put, zs1, zs2, zs3]
         rfl
        ·intro hc2210
         refine join_ (σ := Nat × Nat × Nat × Nat × Nat) 4 (bm 19 163807) (fun s => [(73, .slice (some ⟨s.1, 0, none⟩) 0 0), (83, .slice (some ⟨s.2.1, 0, none⟩) 3 s.2.2.1), (84, .agg #[.string nm, .slice (some ⟨s.2.1, 0, none⟩) 3 s.2.2.1]), (85, .slice (some ⟨s.2.2.2.1, 0, none⟩) 1 1), (10, .pointer (some ⟨s.2.2.2.2, 0, none⟩))]) (fun s w' => ∃ (So : Nat → Prop), ∃ (wo : World), ∃ (Tn : Nat → Prop), ∃ (wn : World), Az (NewR w.heap.size SR So w9 wo (.slice (some ⟨s.1, 0, none⟩) 0 0) []) ∧ Az (q29.R 29 wn w.heap.size Tn (.slice (some ⟨s.2.1, 0, none⟩) 3 s.2.2.1) (List.replicate 3 z29)) ∧ Az (Hq w.heap.size w24 w' [.box s.2.2.2.2 (#[.int .i64 0, .slice none 0 0]) 57, .box s.2.2.2.1 (#[.string nm, .slice (some ⟨s.2.1, 0, none⟩) 3 s.2.2.1]) 65, .set So wo, .set Tn wn, .set SR w9, .box g9 (cR (A69, c69) (ta, (lessV Da v))) 57, .box g6 (cR (some ⟨gA, 0, none⟩, cm) (ta, Da)) 57])) ?_ ?_
         ·rintro ⟨ge, g83, c83, g85, g10⟩ wj ⟨So, wo, Tn, wn, NW, V, H⟩
          refine norm_ (a' := ?_) ?_ ?_
          rotate_left
          ·simp only [putAll, Act.put, zs1, zs2, zs3]
           rfl
          refine one_ (i := 5) (N := some 76) (bm 19 163839) rfl rfl (by kernel_rfl) (by decide) (fun K hK => ?_)
          refine H.out.appQ_ 4 2 (by decide) rfl rfl NW.out (src_root H.out 4 2 (by decide) rfl rfl NW.out (Kd.Q_of_R (H.out.rr 4 rfl OX.out))) (by have := FVa.out.len; have := less_len (D := Da) (v := v); simp only [List.length_nil]; omega) (by rfl) (.tmp 73) (.tmp 75) rfl rfl rfl ?_
          intro A76 c76 w76 q76 HQ76 H1 NW1
          clear H NW; have H := H1; have NW := NW1; clear H1 NW1
          obtain rfl : q76 = (lessV Da v) := HQ76.out.trans (List.nil_append _)
          clear HQ76
          refine hK.out _ _ ?_ (fun hHeld => ?_)
          ·exact H.out.sel [4, 5, 6] _ (by decide) rfl
          clear hK K hHeld
          refine norm_ ?_ (hc2210 (.slice (some ⟨ge, 0, none⟩) 0 0, A76, c76, g83, c83, g85, g10) _ ⟨_, _, _, _, NW, V, ⟨H.out.sel [0, 1, 2, 3, 4, 5, 6] _ (by decide) rfl⟩⟩)
          simp only [putAll, Act.put, zs1, zs2, zs3]
          rfl
         ·intro hc1210
          refine join_ (σ := Value × Option Addr × Nat × Nat × Nat × Nat) 4 (bm 19 147455) (fun s => [(73, s.1), (76, .slice s.2.1 (lessV Da v).length s.2.2.1), (83, .slice (some ⟨s.2.2.2.1, 0, none⟩) 3 s.2.2.2.2.1), (84, .agg #[.string nm, .slice (some ⟨s.2.2.2.1, 0, none⟩) 3 s.2.2.2.2.1]), (10, .pointer (some ⟨s.2.2.2.2.2, 0, none⟩))]) (fun s w' => ∃ (So : Nat → Prop), ∃ (wo : World), ∃ (Tn : Nat → Prop), ∃ (wn : World), Az (NewR w.heap.size SR So w9 wo (.slice s.2.1 (lessV Da v).length s.2.2.1) (lessV Da v)) ∧ Az (q29.R 29 wn w.heap.size Tn (.slice (some ⟨s.2.2.2.1, 0, none⟩) 3 s.2.2.2.2.1) (List.replicate 3 z29)) ∧ Az (Hq w.heap.size w24 w' [.box s.2.2.2.2.2 (#[.int .i64 0, .slice none 0 0]) 57, .set So wo, .set Tn wn, .set SR w9, .box g9 (cR (A69, c69) (ta, (lessV Da v))) 57, .box g6 (cR (some ⟨gA, 0, none⟩, cm) (ta, Da)) 57])) ?_ ?_
          ·rintro ⟨x73, A76, c76, g83, c83, g10⟩ wj ⟨So, wo, Tn, wn, NW, V, H⟩
           refine norm_ (a' := ?_) ?_ ?_
           rotate_left
           ·simp only [putAll, Act.put, zs1, zs2, zs3]
            rfl
           refine one_ (i := 14) (N := some 85) (bm 19 163839) rfl rfl (by kernel_rfl) (by decide) (fun K hK => ?_)
           refine H.out.lit_ (by rfl) (#[.string nm, .slice (some ⟨g83, 0, none⟩) 3 c83]) 65 1 ?hr ?_
           (case hr => first | (go_simp; done) | (go_simp; rfl))
           intro g85 w85 H1
           clear H; have H := H1; clear H1
           refine hK.out _ _ ?_ (fun hHeld => ?_)
           ·exact H.out.sel [4, 5, 6] _ (by decide) rfl
           clear hK K hHeld
           refine norm_ ?_ (hc2210 (x73, A76, c76, g83, c83, g85, g10) _ ⟨_, _, _, _, NW, V, ⟨H.out.sel [1, 0, 2, 3, 4, 5, 6] _ (by decide) rfl⟩⟩)
           simp only [putAll, Act.put, zs1, zs2, zs3]
           rfl
          ·intro hc2110
           refine join_ (σ := Value × Option Addr × Nat × Nat × Nat × Nat) 4 (bm 19 32767) (fun s => [(73, s.1), (76, .slice s.2.1 (lessV Da v).length s.2.2.1), (83, .slice (some ⟨s.2.2.2.1, 0, none⟩) 3 s.2.2.2.2.1), (84, .agg #[.string nm, .slice (some ⟨s.2.2.2.1, 0, none⟩) 3 s.2.2.2.2.1]), (85, .slice (some ⟨s.2.2.2.2.2, 0, none⟩) 1 1)]) (fun s w' => ∃ (So : Nat → Prop), ∃ (wo : World), ∃ (Tn : Nat → Prop), ∃ (wn : World), Az (NewR w.heap.size SR So w9 wo (.slice s.2.1 (lessV Da v).length s.2.2.1) (lessV Da v)) ∧ Az (q29.R 29 wn w.heap.size Tn (.slice (some ⟨s.2.2.2.1, 0, none⟩) 3 s.2.2.2.2.1) (List.replicate 3 z29)) ∧ Az (Hq w.heap.size w24 w' [.box s.2.2.2.2.2 (#[.string nm, .slice (some ⟨s.2.2.2.1, 0, none⟩) 3 s.2.2.2.2.1]) 65, .set So wo, .set Tn wn, .set SR w9, .box g9 (cR (A69, c69) (ta, (lessV Da v))) 57, .box g6 (cR (some ⟨gA, 0, none⟩, cm) (ta, Da)) 57])) ?_ ?_
           ·rintro ⟨x73, A76, c76, g83, c83, g85⟩ wj ⟨So, wo, Tn, wn, NW, V, H⟩
            refine norm_ (a' := ?_) ?_ ?_
            rotate_left
            ·simp only [putAll, Act.put, zs1, zs2, zs3]
             rfl
            refine two_ (i := 15) (j := 17) (Ni := some 86) (Nj := some 10) (bm 19 65535) (bm 19 163839) rfl rfl rfl rfl (by kernel_rfl) (by decide) (by decide) ?_ ?_
            ·intro K hK
             obtain ⟨S2, w2, wo2, H1, NW1, HM, HN, HB2⟩ := Hq.join3 (H.out.sel [3, 2, 1, 0, 4, 5] [.set SR w9, .set Tn wn, .set So wo, .box g85 (#[.string nm, .slice (some ⟨g83, 0, none⟩) 3 c83]) 65, .box g9 (cR (A69, c69) (ta, (lessV Da v))) 57, .box g6 (cR (some ⟨gA, 0, none⟩, cm) (ta, Da)) 57] (by decide) rfl) NW.out
             clear H NW; have H := H1; have NW := NW1; clear H1 NW1
             refine H.out.appQ_ 0 1 (by decide) rfl rfl NW.out (src_lit H.out 2 rfl (HN.out _ _ V.out)) (by have := FVa.out.len; have := less_len (D := Da) (v := v); omega) (by rfl) (.tmp 76) (.tmp 85) rfl rfl rfl ?_
             intro A86 c86 w86 q86 HQ86 H1 NW1
             clear H NW; have H := H1; have NW := NW1; clear H1 NW1
             obtain rfl : q86 = (moreV Da v) := by rw [HQ86.out, HNM.out]; rfl
             clear HQ86
             have HH := HB2.out _ [.box g9 (cR (A69, c69) (ta, (lessV Da v))) 57, .box g6 (cR (some ⟨gA, 0, none⟩, cm) (ta, Da)) 57] (H.out.sel [0, 3, 4] [.set S2 w2, .box g9 (cR (A69, c69) (ta, (lessV Da v))) 57, .box g6 (cR (some ⟨gA, 0, none⟩, cm) (ta, Da)) 57] (by decide) rfl)
             obtain ⟨SZ, wz, H1, HM2, OY, HBK1⟩ := Hq.join2 (H.out.sel [0, 1, 3, 4] (_ :: _ :: [.box g9 (cR (A69, c69) (ta, (lessV Da v))) 57, .box g6 (cR (some ⟨gA, 0, none⟩, cm) (ta, Da)) 57]) (by decide) rfl) NW.out
             clear H; have H := H1; clear H1
             have OA1 := Az.mk (HM2.out _ _ (HM.out _ _ OA.out))
             have OX1 := Az.mk (HM2.out _ _ (HM.out _ _ OX.out))
             have HBK := Az.mk (fun W' L' h => HB2.out W' L' (HBK1.out W' L' h))
             clear HM HM2 HN HB2 HBK1 NW V OA OX
             have OA := OA1
             have OX := OX1
             clear OA1 OX1
             refine hK.out _ _ HH (fun hHeld => ?_)
             clear hK K hHeld HH
             refine zP 16 (some 87) (bm 19 131071) ?_
             refine norm_ ?_ (hc2201 (x73, .slice A76 (lessV Da v).length c76, .slice (some ⟨g83, 0, none⟩) 3 c83, .agg #[.string nm, .slice (some ⟨g83, 0, none⟩) 3 c83], .slice (some ⟨g85, 0, none⟩) 1 1, A86, c86) _ ⟨_, _, OA, OX, OY, HBK, ⟨H.out.sel [0, 1, 2] _ (by decide) rfl⟩⟩)
             simp only [putAll, Act.put, zs1, zs2, zs3]
             rfl
            ·intro K hK
             refine H.out.bx_ (by rfl) (#[.int .i64 0, .slice none 0 0]) 57 ?hr ?_
             (case hr => first | (go_simp; done) | (go_simp; rfl))
             intro g10 w10 H1
             clear H; have H := H1; clear H1
             refine hK.out _ _ ?_ (fun hHeld => ?_)
             ·exact H.out.sel [4, 5, 6] _ (by decide) rfl
             clear hK K hHeld
             refine norm_ ?_ (hc2210 (x73, A76, c76, g83, c83, g85, g10) _ ⟨_, _, _, _, NW, V, ⟨H.out.sel [0, 1, 2, 3, 4, 5, 6] _ (by decide) rfl⟩⟩)
             simp only [putAll, Act.put, zs1, zs2, zs3]
             rfl
           ·intro hc2200
            refine join_ (σ := Nat × Nat × Nat × Nat) 5 (bm 19 163803) (fun s => [(83, .slice (some ⟨s.1, 0, none⟩) 3 s.2.1), (84, .agg #[.string nm, .slice (some ⟨s.1, 0, none⟩) 3 s.2.1]), (85, .slice (some ⟨s.2.2.1, 0, none⟩) 1 1), (10, .pointer (some ⟨s.2.2.2, 0, none⟩))]) (fun s w' => ∃ (Tn : Nat → Prop), ∃ (wn : World), Az (q29.R 29 wn w.heap.size Tn (.slice (some ⟨s.1, 0, none⟩) 3 s.2.1) (List.replicate 3 z29)) ∧ Az (Hq w.heap.size w24 w' [.box s.2.2.2 (#[.int .i64 0, .slice none 0 0]) 57, .box s.2.2.1 (#[.string nm, .slice (some ⟨s.1, 0, none⟩) 3 s.2.1]) 65, .set Tn wn, .set SR w9, .box g9 (cR (A69, c69) (ta, (lessV Da v))) 57, .box g6 (cR (some ⟨gA, 0, none⟩, cm) (ta, Da)) 57])) ?_ ?_
            ·rintro ⟨g83, c83, g85, g10⟩ wj ⟨Tn, wn, V, H⟩
             refine norm_ (a' := ?_) ?_ ?_
             rotate_left
             ·simp only [putAll, Act.put, zs1, zs2, zs3]
              rfl
             refine one_ (i := 2) (N := some 73) (bm 19 163807) rfl rfl (by kernel_rfl) (by decide) (fun K hK => ?_)
             refine H.out.noneQ_ 3 rfl (by rfl) ?hr ?_
             (case hr => first | (go_simp; done) | (go_simp; rfl))
             intro ge w73 H1 NW
             clear H; have H := H1; clear H1
             refine hK.out _ _ ?_ (fun hHeld => ?_)
             ·exact H.out.sel [4, 5, 6] _ (by decide) rfl
             clear hK K hHeld
             refine norm_ ?_ (hc1210 (ge, g83, c83, g85, g10) _ ⟨_, _, _, _, NW, V, ⟨H.out.sel [1, 2, 0, 3, 4, 5, 6] _ (by decide) rfl⟩⟩)
             simp only [putAll, Act.put, zs1, zs2, zs3]
             rfl
            ·intro hc0210
             refine join_ (σ := Nat × Nat × Nat × Nat) 5 (bm 19 147423) (fun s => [(73, .slice (some ⟨s.1, 0, none⟩) 0 0), (83, .slice (some ⟨s.2.1, 0, none⟩) 3 s.2.2.1), (84, .agg #[.string nm, .slice (some ⟨s.2.1, 0, none⟩) 3 s.2.2.1]), (10, .pointer (some ⟨s.2.2.2, 0, none⟩))]) (fun s w' => ∃ (So : Nat → Prop), ∃ (wo : World), ∃ (Tn : Nat → Prop), ∃ (wn : World), Az (NewR w.heap.size SR So w9 wo (.slice (some ⟨s.1, 0, none⟩) 0 0) []) ∧ Az (q29.R 29 wn w.heap.size Tn (.slice (some ⟨s.2.1, 0, none⟩) 3 s.2.2.1) (List.replicate 3 z29)) ∧ Az (Hq w.heap.size w24 w' [.box s.2.2.2 (#[.int .i64 0, .slice none 0 0]) 57, .set So wo, .set Tn wn, .set SR w9, .box g9 (cR (A69, c69) (ta, (lessV Da v))) 57, .box g6 (cR (some ⟨gA, 0, none⟩, cm) (ta, Da)) 57])) ?_ ?_
             ·rintro ⟨ge, g83, c83, g10⟩ wj ⟨So, wo, Tn, wn, NW, V, H⟩
              refine norm_ (a' := ?_) ?_ ?_
              rotate_left
              ·simp only [putAll, Act.put, zs1, zs2, zs3]
               rfl
              refine two_ (i := 5) (j := 14) (Ni := some 76) (Nj := some 85) (bm 19 147455) (bm 19 163807) rfl rfl rfl rfl (by kernel_rfl) (by decide) (by decide) ?_ ?_
              ·intro K hK
               refine H.out.appQ_ 3 1 (by decide) rfl rfl NW.out (src_root H.out 3 1 (by decide) rfl rfl NW.out (Kd.Q_of_R (H.out.rr 3 rfl OX.out))) (by have := FVa.out.len; have := less_len (D := Da) (v := v); simp only [List.length_nil]; omega) (by rfl) (.tmp 73) (.tmp 75) rfl rfl rfl ?_
               intro A76 c76 w76 q76 HQ76 H1 NW1
               clear H NW; have H := H1; have NW := NW1; clear H1 NW1
               obtain rfl : q76 = (lessV Da v) := HQ76.out.trans (List.nil_append _)
               clear HQ76
               refine hK.out _ _ ?_ (fun hHeld => ?_)
               ·exact H.out.sel [3, 4, 5] _ (by decide) rfl
               clear hK K hHeld
               refine norm_ ?_ (hc2110 (.slice (some ⟨ge, 0, none⟩) 0 0, A76, c76, g83, c83, g10) _ ⟨_, _, _, _, NW, V, ⟨H.out.sel [0, 1, 2, 3, 4, 5] _ (by decide) rfl⟩⟩)
               simp only [putAll, Act.put, zs1, zs2, zs3]
               rfl
              ·intro K hK
               refine H.out.lit_ (by rfl) (#[.string nm, .slice (some ⟨g83, 0, none⟩) 3 c83]) 65 1 ?hr ?_
               (case hr => first | (go_simp; done) | (go_simp; rfl))
               intro g85 w85 H1
               clear H; have H := H1; clear H1
               refine hK.out _ _ ?_ (fun hHeld => ?_)
               ·exact H.out.sel [4, 5, 6] _ (by decide) rfl
               clear hK K hHeld
               refine norm_ ?_ (hc1210 (ge, g83, c83, g85, g10) _ ⟨_, _, _, _, NW, V, ⟨H.out.sel [1, 0, 2, 3, 4, 5, 6] _ (by decide) rfl⟩⟩)
               simp only [putAll, Act.put, zs1, zs2, zs3]
               rfl
             ·intro hc1110
              refine join_ (σ := Nat × Nat × Nat × Nat) 5 (bm 19 32735) (fun s => [(73, .slice (some ⟨s.1, 0, none⟩) 0 0), (83, .slice (some ⟨s.2.1, 0, none⟩) 3 s.2.2.1), (84, .agg #[.string nm, .slice (some ⟨s.2.1, 0, none⟩) 3 s.2.2.1]), (85, .slice (some ⟨s.2.2.2, 0, none⟩) 1 1)]) (fun s w' => ∃ (So : Nat → Prop), ∃ (wo : World), ∃ (Tn : Nat → Prop), ∃ (wn : World), Az (NewR w.heap.size SR So w9 wo (.slice (some ⟨s.1, 0, none⟩) 0 0) []) ∧ Az (q29.R 29 wn w.heap.size Tn (.slice (some ⟨s.2.1, 0, none⟩) 3 s.2.2.1) (List.replicate 3 z29)) ∧ Az (Hq w.heap.size w24 w' [.box s.2.2.2 (#[.string nm, .slice (some ⟨s.2.1, 0, none⟩) 3 s.2.2.1]) 65, .set So wo, .set Tn wn, .set SR w9, .box g9 (cR (A69, c69) (ta, (lessV Da v))) 57, .box g6 (cR (some ⟨gA, 0, none⟩, cm) (ta, Da)) 57])) ?_ ?_
              ·rintro ⟨ge, g83, c83, g85⟩ wj ⟨So, wo, Tn, wn, NW, V, H⟩
               refine norm_ (a' := ?_) ?_ ?_
               rotate_left
               ·simp only [putAll, Act.put, zs1, zs2, zs3]
                rfl
               refine two_ (i := 5) (j := 17) (Ni := some 76) (Nj := some 10) (bm 19 32767) (bm 19 163807) rfl rfl rfl rfl (by kernel_rfl) (by decide) (by decide) ?_ ?_
               ·intro K hK
                refine H.out.appQ_ 3 1 (by decide) rfl rfl NW.out (src_root H.out 3 1 (by decide) rfl rfl NW.out (Kd.Q_of_R (H.out.rr 3 rfl OX.out))) (by have := FVa.out.len; have := less_len (D := Da) (v := v); simp only [List.length_nil]; omega) (by rfl) (.tmp 73) (.tmp 75) rfl rfl rfl ?_
                intro A76 c76 w76 q76 HQ76 H1 NW1
                clear H NW; have H := H1; have NW := NW1; clear H1 NW1
                obtain rfl : q76 = (lessV Da v) := HQ76.out.trans (List.nil_append _)
                clear HQ76
                refine hK.out _ _ ?_ (fun hHeld => ?_)
                ·exact H.out.sel [3, 4, 5] _ (by decide) rfl
                clear hK K hHeld
                refine norm_ ?_ (hc2200 (.slice (some ⟨ge, 0, none⟩) 0 0, A76, c76, g83, c83, g85) _ ⟨_, _, _, _, NW, V, ⟨H.out.sel [0, 1, 2, 3, 4, 5] _ (by decide) rfl⟩⟩)
                simp only [putAll, Act.put, zs1, zs2, zs3]
                rfl
               ·intro K hK
                refine H.out.bx_ (by rfl) (#[.int .i64 0, .slice none 0 0]) 57 ?hr ?_
                (case hr => first | (go_simp; done) | (go_simp; rfl))
                intro g10 w10 H1
                clear H; have H := H1; clear H1
                refine hK.out _ _ ?_ (fun hHeld => ?_)
                ·exact H.out.sel [4, 5, 6] _ (by decide) rfl
                clear hK K hHeld
                refine norm_ ?_ (hc1210 (ge, g83, c83, g85, g10) _ ⟨_, _, _, _, NW, V, ⟨H.out.sel [0, 1, 2, 3, 4, 5, 6] _ (by decide) rfl⟩⟩)
                simp only [putAll, Act.put, zs1, zs2, zs3]
                rfl
              ·intro hc1200
               refine join_ (σ := Value × Option Addr × Nat × Nat) 6 (bm 19 135167) (fun s => [(73, s.1), (76, .slice s.2.1 (lessV Da v).length s.2.2.1), (10, .pointer (some ⟨s.2.2.2, 0, none⟩))]) (fun s w' => ∃ (So : Nat → Prop), ∃ (wo : World), Az (NewR w.heap.size SR So w9 wo (.slice s.2.1 (lessV Da v).length s.2.2.1) (lessV Da v)) ∧ Az (Hq w.heap.size w24 w' [.box s.2.2.2 (#[.int .i64 0, .slice none 0 0]) 57, .set So wo, .set SR w9, .box g9 (cR (A69, c69) (ta, (lessV Da v))) 57, .box g6 (cR (some ⟨gA, 0, none⟩, cm) (ta, Da)) 57])) ?_ ?_
               ·rintro ⟨x73, A76, c76, g10⟩ wj ⟨So, wo, NW, H⟩
                refine norm_ (a' := ?_) ?_ ?_
                rotate_left
                ·simp only [putAll, Act.put, zs1, zs2, zs3]
                 rfl
                refine one_ (i := 12) (N := some 83) (bm 19 139263) rfl rfl (by kernel_rfl) (by decide) (fun K hK => ?_)
                refine H.out.make29n_ (by rfl) rfl rfl ?_
                intro g83 c83 w83 H1 V HKP
                clear HKP
                clear H; have H := H1; clear H1
                refine hK.out _ _ ?_ (fun hHeld => ?_)
                ·exact H.out.sel [3, 4, 5] _ (by decide) rfl
                clear hK K hHeld
                refine zP 13 (some 84) (bm 19 147455) ?_
                refine norm_ ?_ (hc2110 (x73, A76, c76, g83, c83, g10) _ ⟨_, _, _, _, NW, V, ⟨H.out.sel [1, 2, 0, 3, 4, 5] _ (by decide) rfl⟩⟩)
                simp only [putAll, Act.put, zs1, zs2, zs3]
                rfl
               ·intro hc2010
                refine join_ (σ := Value × Option Addr × Nat × Nat × Nat) 5 (bm 19 16383) (fun s => [(73, s.1), (76, .slice s.2.1 (lessV Da v).length s.2.2.1), (83, .slice (some ⟨s.2.2.2.1, 0, none⟩) 3 s.2.2.2.2), (84, .agg #[.string nm, .slice (some ⟨s.2.2.2.1, 0, none⟩) 3 s.2.2.2.2])]) (fun s w' => ∃ (So : Nat → Prop), ∃ (wo : World), ∃ (Tn : Nat → Prop), ∃ (wn : World), Az (NewR w.heap.size SR So w9 wo (.slice s.2.1 (lessV Da v).length s.2.2.1) (lessV Da v)) ∧ Az (q29.R 29 wn w.heap.size Tn (.slice (some ⟨s.2.2.2.1, 0, none⟩) 3 s.2.2.2.2) (List.replicate 3 z29)) ∧ Az (Hq w.heap.size w24 w' [.set So wo, .set Tn wn, .set SR w9, .box g9 (cR (A69, c69) (ta, (lessV Da v))) 57, .box g6 (cR (some ⟨gA, 0, none⟩, cm) (ta, Da)) 57])) ?_ ?_
                ·rintro ⟨x73, A76, c76, g83, c83⟩ wj ⟨So, wo, Tn, wn, NW, V, H⟩
                 refine norm_ (a' := ?_) ?_ ?_
                 rotate_left
                 ·simp only [putAll, Act.put, zs1, zs2, zs3]
                  rfl
                 refine two_ (i := 14) (j := 17) (Ni := some 85) (Nj := some 10) (bm 19 32767) (bm 19 147455) rfl rfl rfl rfl (by kernel_rfl) (by decide) (by decide) ?_ ?_
                 ·intro K hK
                  refine H.out.lit_ (by rfl) (#[.string nm, .slice (some ⟨g83, 0, none⟩) 3 c83]) 65 1 ?hr ?_
                  (case hr => first | (go_simp; done) | (go_simp; rfl))
                  intro g85 w85 H1
                  clear H; have H := H1; clear H1
                  refine hK.out _ _ ?_ (fun hHeld => ?_)
                  ·exact H.out.sel [3, 4, 5] _ (by decide) rfl
                  clear hK K hHeld
                  refine norm_ ?_ (hc2200 (x73, A76, c76, g83, c83, g85) _ ⟨_, _, _, _, NW, V, ⟨H.out.sel [0, 1, 2, 3, 4, 5] _ (by decide) rfl⟩⟩)
                  simp only [putAll, Act.put, zs1, zs2, zs3]
                  rfl
                 ·intro K hK
                  refine H.out.bx_ (by rfl) (#[.int .i64 0, .slice none 0 0]) 57 ?hr ?_
                  (case hr => first | (go_simp; done) | (go_simp; rfl))
                  intro g10 w10 H1
                  clear H; have H := H1; clear H1
                  refine hK.out _ _ ?_ (fun hHeld => ?_)
                  ·exact H.out.sel [3, 4, 5] _ (by decide) rfl
                  clear hK K hHeld
                  refine norm_ ?_ (hc2110 (x73, A76, c76, g83, c83, g10) _ ⟨_, _, _, _, NW, V, ⟨H.out.sel [0, 1, 2, 3, 4, 5] _ (by decide) rfl⟩⟩)
                  simp only [putAll, Act.put, zs1, zs2, zs3]
                  rfl
                ·intro hc2100
                 refine join_ (σ := Nat × Nat × Nat) 6 (bm 19 147419) (fun s => [(83, .slice (some ⟨s.1, 0, none⟩) 3 s.2.1), (84, .agg #[.string nm, .slice (some ⟨s.1, 0, none⟩) 3 s.2.1]), (10, .pointer (some ⟨s.2.2, 0, none⟩))]) (fun s w' => ∃ (Tn : Nat → Prop), ∃ (wn : World), Az (q29.R 29 wn w.heap.size Tn (.slice (some ⟨s.1, 0, none⟩) 3 s.2.1) (List.replicate 3 z29)) ∧ Az (Hq w.heap.size w24 w' [.box s.2.2 (#[.int .i64 0, .slice none 0 0]) 57, .set Tn wn, .set SR w9, .box g9 (cR (A69, c69) (ta, (lessV Da v))) 57, .box g6 (cR (some ⟨gA, 0, none⟩, cm) (ta, Da)) 57])) ?_ ?_
                 ·rintro ⟨g83, c83, g10⟩ wj ⟨Tn, wn, V, H⟩
                  refine norm_ (a' := ?_) ?_ ?_
                  rotate_left
                  ·simp only [putAll, Act.put, zs1, zs2, zs3]
                   rfl
                  refine two_ (i := 2) (j := 14) (Ni := some 73) (Nj := some 85) (bm 19 147423) (bm 19 163803) rfl rfl rfl rfl (by kernel_rfl) (by decide) (by decide) ?_ ?_
                  ·intro K hK
                   refine H.out.noneQ_ 2 rfl (by rfl) ?hr ?_
                   (case hr => first | (go_simp; done) | (go_simp; rfl))
                   intro ge w73 H1 NW
                   clear H; have H := H1; clear H1
                   refine hK.out _ _ ?_ (fun hHeld => ?_)
                   ·exact H.out.sel [3, 4, 5] _ (by decide) rfl
                   clear hK K hHeld
                   refine norm_ ?_ (hc1110 (ge, g83, c83, g10) _ ⟨_, _, _, _, NW, V, ⟨H.out.sel [1, 0, 2, 3, 4, 5] _ (by decide) rfl⟩⟩)
                   simp only [putAll, Act.put, zs1, zs2, zs3]
                   rfl
                  ·intro K hK
                   refine H.out.lit_ (by rfl) (#[.string nm, .slice (some ⟨g83, 0, none⟩) 3 c83]) 65 1 ?hr ?_
                   (case hr => first | (go_simp; done) | (go_simp; rfl))
                   intro g85 w85 H1
                   clear H; have H := H1; clear H1
                   refine hK.out _ _ ?_ (fun hHeld => ?_)
                   ·exact H.out.sel [3, 4, 5] _ (by decide) rfl
                   clear hK K hHeld
                   refine norm_ ?_ (hc0210 (g83, c83, g85, g10) _ ⟨_, _, V, ⟨H.out.sel [1, 0, 2, 3, 4, 5] _ (by decide) rfl⟩⟩)
                   simp only [putAll, Act.put, zs1, zs2, zs3]
                   rfl
                 ·intro hc0110
                  refine join_ (σ := Nat × Nat × Nat) 6 (bm 19 32731) (fun s => [(83, .slice (some ⟨s.1, 0, none⟩) 3 s.2.1), (84, .agg #[.string nm, .slice (some ⟨s.1, 0, none⟩) 3 s.2.1]), (85, .slice (some ⟨s.2.2, 0, none⟩) 1 1)]) (fun s w' => ∃ (Tn : Nat → Prop), ∃ (wn : World), Az (q29.R 29 wn w.heap.size Tn (.slice (some ⟨s.1, 0, none⟩) 3 s.2.1) (List.replicate 3 z29)) ∧ Az (Hq w.heap.size w24 w' [.box s.2.2 (#[.string nm, .slice (some ⟨s.1, 0, none⟩) 3 s.2.1]) 65, .set Tn wn, .set SR w9, .box g9 (cR (A69, c69) (ta, (lessV Da v))) 57, .box g6 (cR (some ⟨gA, 0, none⟩, cm) (ta, Da)) 57])) ?_ ?_
                  ·rintro ⟨g83, c83, g85⟩ wj ⟨Tn, wn, V, H⟩
                   refine norm_ (a' := ?_) ?_ ?_
                   rotate_left
                   ·simp only [putAll, Act.put, zs1, zs2, zs3]
                    rfl
                   refine two_ (i := 2) (j := 17) (Ni := some 73) (Nj := some 10) (bm 19 32735) (bm 19 163803) rfl rfl rfl rfl (by kernel_rfl) (by decide) (by decide) ?_ ?_
                   ·intro K hK
                    refine H.out.noneQ_ 2 rfl (by rfl) ?hr ?_
                    (case hr => first | (go_simp; done) | (go_simp; rfl))
                    intro ge w73 H1 NW
                    clear H; have H := H1; clear H1
                    refine hK.out _ _ ?_ (fun hHeld => ?_)
                    ·exact H.out.sel [3, 4, 5] _ (by decide) rfl
                    clear hK K hHeld
                    refine norm_ ?_ (hc1200 (ge, g83, c83, g85) _ ⟨_, _, _, _, NW, V, ⟨H.out.sel [1, 0, 2, 3, 4, 5] _ (by decide) rfl⟩⟩)
                    simp only [putAll, Act.put, zs1, zs2, zs3]
                    rfl
                   ·intro K hK
                    refine H.out.bx_ (by rfl) (#[.int .i64 0, .slice none 0 0]) 57 ?hr ?_
                    (case hr => first | (go_simp; done) | (go_simp; rfl))
                    intro g10 w10 H1
                    clear H; have H := H1; clear H1
                    refine hK.out _ _ ?_ (fun hHeld => ?_)
                    ·exact H.out.sel [3, 4, 5] _ (by decide) rfl
                    clear hK K hHeld
                    refine norm_ ?_ (hc0210 (g83, c83, g85, g10) _ ⟨_, _, V, ⟨H.out.sel [0, 1, 2, 3, 4, 5] _ (by decide) rfl⟩⟩)
                    simp only [putAll, Act.put, zs1, zs2, zs3]
                    rfl
                  ·intro hc0200
                   refine join_ (σ := Nat × Nat) 7 (bm 19 135135) (fun s => [(73, .slice (some ⟨s.1, 0, none⟩) 0 0), (10, .pointer (some ⟨s.2, 0, none⟩))]) (fun s w' => ∃ (So : Nat → Prop), ∃ (wo : World), Az (NewR w.heap.size SR So w9 wo (.slice (some ⟨s.1, 0, none⟩) 0 0) []) ∧ Az (Hq w.heap.size w24 w' [.box s.2 (#[.int .i64 0, .slice none 0 0]) 57, .set So wo, .set SR w9, .box g9 (cR (A69, c69) (ta, (lessV Da v))) 57, .box g6 (cR (some ⟨gA, 0, none⟩, cm) (ta, Da)) 57])) ?_ ?_
                   ·rintro ⟨ge, g10⟩ wj ⟨So, wo, NW, H⟩
                    refine norm_ (a' := ?_) ?_ ?_
                    rotate_left
                    ·simp only [putAll, Act.put, zs1, zs2, zs3]
                     rfl
                    refine two_ (i := 5) (j := 12) (Ni := some 76) (Nj := some 83) (bm 19 135167) (bm 19 139231) rfl rfl rfl rfl (by kernel_rfl) (by decide) (by decide) ?_ ?_
                    ·intro K hK
                     refine H.out.appQ_ 2 1 (by decide) rfl rfl NW.out (src_root H.out 2 1 (by decide) rfl rfl NW.out (Kd.Q_of_R (H.out.rr 2 rfl OX.out))) (by have := FVa.out.len; have := less_len (D := Da) (v := v); simp only [List.length_nil]; omega) (by rfl) (.tmp 73) (.tmp 75) rfl rfl rfl ?_
                     intro A76 c76 w76 q76 HQ76 H1 NW1
                     clear H NW; have H := H1; have NW := NW1; clear H1 NW1
                     obtain rfl : q76 = (lessV Da v) := HQ76.out.trans (List.nil_append _)
                     clear HQ76
                     refine hK.out _ _ ?_ (fun hHeld => ?_)
                     ·exact H.out.sel [2, 3, 4] _ (by decide) rfl
                     clear hK K hHeld
                     refine norm_ ?_ (hc2010 (.slice (some ⟨ge, 0, none⟩) 0 0, A76, c76, g10) _ ⟨_, _, NW, ⟨H.out.sel [0, 1, 2, 3, 4] _ (by decide) rfl⟩⟩)
                     simp only [putAll, Act.put, zs1, zs2, zs3]
                     rfl
                    ·intro K hK
                     refine H.out.make29n_ (by rfl) rfl rfl ?_
                     intro g83 c83 w83 H1 V HKP
                     clear HKP
                     clear H; have H := H1; clear H1
                     refine hK.out _ _ ?_ (fun hHeld => ?_)
                     ·exact H.out.sel [3, 4, 5] _ (by decide) rfl
                     clear hK K hHeld
                     refine zP 13 (some 84) (bm 19 147423) ?_
                     refine norm_ ?_ (hc1110 (ge, g83, c83, g10) _ ⟨_, _, _, _, NW, V, ⟨H.out.sel [1, 2, 0, 3, 4, 5] _ (by decide) rfl⟩⟩)
                     simp only [putAll, Act.put, zs1, zs2, zs3]
                     rfl
                   ·intro hc1010
                    refine join_ (σ := Nat × Nat × Nat) 6 (bm 19 16351) (fun s => [(73, .slice (some ⟨s.1, 0, none⟩) 0 0), (83, .slice (some ⟨s.2.1, 0, none⟩) 3 s.2.2), (84, .agg #[.string nm, .slice (some ⟨s.2.1, 0, none⟩) 3 s.2.2])]) (fun s w' => ∃ (So : Nat → Prop), ∃ (wo : World), ∃ (Tn : Nat → Prop), ∃ (wn : World), Az (NewR w.heap.size SR So w9 wo (.slice (some ⟨s.1, 0, none⟩) 0 0) []) ∧ Az (q29.R 29 wn w.heap.size Tn (.slice (some ⟨s.2.1, 0, none⟩) 3 s.2.2) (List.replicate 3 z29)) ∧ Az (Hq w.heap.size w24 w' [.set So wo, .set Tn wn, .set SR w9, .box g9 (cR (A69, c69) (ta, (lessV Da v))) 57, .box g6 (cR (some ⟨gA, 0, none⟩, cm) (ta, Da)) 57])) ?_ ?_
                    ·rintro ⟨ge, g83, c83⟩ wj ⟨So, wo, Tn, wn, NW, V, H⟩
                     refine norm_ (a' := ?_) ?_ ?_
                     rotate_left
                     ·simp only [putAll, Act.put, zs1, zs2, zs3]
                      rfl
                     refine three_ (i := 5) (j := 14) (k := 17) (Ni := some 76) (Nj := some 85) (Nk := some 10) (bm 19 16383) (bm 19 32735) (bm 19 147423) rfl rfl rfl rfl rfl rfl (by kernel_rfl) (by decide) (by decide) (by decide) ?_ ?_ ?_
                     ·intro K hK
                      refine H.out.appQ_ 2 0 (by decide) rfl rfl NW.out (src_root H.out 2 0 (by decide) rfl rfl NW.out (Kd.Q_of_R (H.out.rr 2 rfl OX.out))) (by have := FVa.out.len; have := less_len (D := Da) (v := v); simp only [List.length_nil]; omega) (by rfl) (.tmp 73) (.tmp 75) rfl rfl rfl ?_
                      intro A76 c76 w76 q76 HQ76 H1 NW1
                      clear H NW; have H := H1; have NW := NW1; clear H1 NW1
                      obtain rfl : q76 = (lessV Da v) := HQ76.out.trans (List.nil_append _)
                      clear HQ76
                      refine hK.out _ _ ?_ (fun hHeld => ?_)
                      ·exact H.out.sel [2, 3, 4] _ (by decide) rfl
                      clear hK K hHeld
                      refine norm_ ?_ (hc2100 (.slice (some ⟨ge, 0, none⟩) 0 0, A76, c76, g83, c83) _ ⟨_, _, _, _, NW, V, ⟨H.out.sel [0, 1, 2, 3, 4] _ (by decide) rfl⟩⟩)
                      simp only [putAll, Act.put, zs1, zs2, zs3]
                      rfl
                     ·intro K hK
                      refine H.out.lit_ (by rfl) (#[.string nm, .slice (some ⟨g83, 0, none⟩) 3 c83]) 65 1 ?hr ?_
                      (case hr => first | (go_simp; done) | (go_simp; rfl))
                      intro g85 w85 H1
                      clear H; have H := H1; clear H1
                      refine hK.out _ _ ?_ (fun hHeld => ?_)
                      ·exact H.out.sel [3, 4, 5] _ (by decide) rfl
                      clear hK K hHeld
                      refine norm_ ?_ (hc1200 (ge, g83, c83, g85) _ ⟨_, _, _, _, NW, V, ⟨H.out.sel [0, 1, 2, 3, 4, 5] _ (by decide) rfl⟩⟩)
                      simp only [putAll, Act.put, zs1, zs2, zs3]
                      rfl
                     ·intro K hK
                      refine H.out.bx_ (by rfl) (#[.int .i64 0, .slice none 0 0]) 57 ?hr ?_
                      (case hr => first | (go_simp; done) | (go_simp; rfl))
                      intro g10 w10 H1
                      clear H; have H := H1; clear H1
                      refine hK.out _ _ ?_ (fun hHeld => ?_)
                      ·exact H.out.sel [3, 4, 5] _ (by decide) rfl
                      clear hK K hHeld
                      refine norm_ ?_ (hc1110 (ge, g83, c83, g10) _ ⟨_, _, _, _, NW, V, ⟨H.out.sel [0, 1, 2, 3, 4, 5] _ (by decide) rfl⟩⟩)
                      simp only [putAll, Act.put, zs1, zs2, zs3]
                      rfl
                    ·intro hc1100
                     refine join_ (σ := Value × Option Addr × Nat) 7 (bm 19 4095) (fun s => [(73, s.1), (76, .slice s.2.1 (lessV Da v).length s.2.2)]) (fun s w' => ∃ (So : Nat → Prop), ∃ (wo : World), Az (NewR w.heap.size SR So w9 wo (.slice s.2.1 (lessV Da v).length s.2.2) (lessV Da v)) ∧ Az (Hq w.heap.size w24 w' [.set So wo, .set SR w9, .box g9 (cR (A69, c69) (ta, (lessV Da v))) 57, .box g6 (cR (some ⟨gA, 0, none⟩, cm) (ta, Da)) 57])) ?_ ?_
                     ·rintro ⟨x73, A76, c76⟩ wj ⟨So, wo, NW, H⟩
                      refine norm_ (a' := ?_) ?_ ?_
                      rotate_left
                      ·simp only [putAll, Act.put, zs1, zs2, zs3]
                       rfl
                      refine two_ (i := 12) (j := 17) (Ni := some 83) (Nj := some 10) (bm 19 8191) (bm 19 135167) rfl rfl rfl rfl (by kernel_rfl) (by decide) (by decide) ?_ ?_
                      ·intro K hK
                       refine H.out.make29n_ (by rfl) rfl rfl ?_
                       intro g83 c83 w83 H1 V HKP
                       clear HKP
                       clear H; have H := H1; clear H1
                       refine hK.out _ _ ?_ (fun hHeld => ?_)
                       ·exact H.out.sel [2, 3, 4] _ (by decide) rfl
                       clear hK K hHeld
                       refine zP 13 (some 84) (bm 19 16383) ?_
                       refine norm_ ?_ (hc2100 (x73, A76, c76, g83, c83) _ ⟨_, _, _, _, NW, V, ⟨H.out.sel [1, 0, 2, 3, 4] _ (by decide) rfl⟩⟩)
                       simp only [putAll, Act.put, zs1, zs2, zs3]
                       rfl
                      ·intro K hK
                       refine H.out.bx_ (by rfl) (#[.int .i64 0, .slice none 0 0]) 57 ?hr ?_
                       (case hr => first | (go_simp; done) | (go_simp; rfl))
                       intro g10 w10 H1
                       clear H; have H := H1; clear H1
                       refine hK.out _ _ ?_ (fun hHeld => ?_)
                       ·exact H.out.sel [2, 3, 4] _ (by decide) rfl
                       clear hK K hHeld
                       refine norm_ ?_ (hc2010 (x73, A76, c76, g10) _ ⟨_, _, NW, ⟨H.out.sel [0, 1, 2, 3, 4] _ (by decide) rfl⟩⟩)
                       simp only [putAll, Act.put, zs1, zs2, zs3]
                       rfl
                     ·intro hc2000
                      refine join_ (σ := Nat) 8 (bm 19 135131) (fun s => [(10, .pointer (some ⟨s, 0, none⟩))]) (fun s w' => Az (Hq w.heap.size w24 w' [.box s (#[.int .i64 0, .slice none 0 0]) 57, .set SR w9, .box g9 (cR (A69, c69) (ta, (lessV Da v))) 57, .box g6 (cR (some ⟨gA, 0, none⟩, cm) (ta, Da)) 57])) ?_ ?_
                      ·rintro g10 wj H
                       refine norm_ (a' := ?_) ?_ ?_
                       rotate_left
                       ·simp only [putAll, Act.put, zs1, zs2, zs3]
                        rfl
                       refine two_ (i := 2) (j := 12) (Ni := some 73) (Nj := some 83) (bm 19 135135) (bm 19 139227) rfl rfl rfl rfl (by kernel_rfl) (by decide) (by decide) ?_ ?_
                       ·intro K hK
                        refine H.out.noneQ_ 1 rfl (by rfl) ?hr ?_
                        (case hr => first | (go_simp; done) | (go_simp; rfl))
                        intro ge w73 H1 NW
                        clear H; have H := H1; clear H1
                        refine hK.out _ _ ?_ (fun hHeld => ?_)
                        ·exact H.out.sel [2, 3, 4] _ (by decide) rfl
                        clear hK K hHeld
                        refine norm_ ?_ (hc1010 (ge, g10) _ ⟨_, _, NW, ⟨H.out.sel [1, 0, 2, 3, 4] _ (by decide) rfl⟩⟩)
                        simp only [putAll, Act.put, zs1, zs2, zs3]
                        rfl
                       ·intro K hK
                        refine H.out.make29n_ (by rfl) rfl rfl ?_
                        intro g83 c83 w83 H1 V HKP
                        clear HKP
                        clear H; have H := H1; clear H1
                        refine hK.out _ _ ?_ (fun hHeld => ?_)
                        ·exact H.out.sel [2, 3, 4] _ (by decide) rfl
                        clear hK K hHeld
                        refine zP 13 (some 84) (bm 19 147419) ?_
                        refine norm_ ?_ (hc0110 (g83, c83, g10) _ ⟨_, _, V, ⟨H.out.sel [1, 0, 2, 3, 4] _ (by decide) rfl⟩⟩)
                        simp only [putAll, Act.put, zs1, zs2, zs3]
                        rfl
                      ·intro hc0010
                       refine join_ (σ := Nat × Nat) 7 (bm 19 16347) (fun s => [(83, .slice (some ⟨s.1, 0, none⟩) 3 s.2), (84, .agg #[.string nm, .slice (some ⟨s.1, 0, none⟩) 3 s.2])]) (fun s w' => ∃ (Tn : Nat → Prop), ∃ (wn : World), Az (q29.R 29 wn w.heap.size Tn (.slice (some ⟨s.1, 0, none⟩) 3 s.2) (List.replicate 3 z29)) ∧ Az (Hq w.heap.size w24 w' [.set Tn wn, .set SR w9, .box g9 (cR (A69, c69) (ta, (lessV Da v))) 57, .box g6 (cR (some ⟨gA, 0, none⟩, cm) (ta, Da)) 57])) ?_ ?_
                       ·rintro ⟨g83, c83⟩ wj ⟨Tn, wn, V, H⟩
                        refine norm_ (a' := ?_) ?_ ?_
                        rotate_left
                        ·simp only [putAll, Act.put, zs1, zs2, zs3]
                         rfl
                        refine three_ (i := 2) (j := 14) (k := 17) (Ni := some 73) (Nj := some 85) (Nk := some 10) (bm 19 16351) (bm 19 32731) (bm 19 147419) rfl rfl rfl rfl rfl rfl (by kernel_rfl) (by decide) (by decide) (by decide) ?_ ?_ ?_
                        ·intro K hK
                         refine H.out.noneQ_ 1 rfl (by rfl) ?hr ?_
                         (case hr => first | (go_simp; done) | (go_simp; rfl))
                         intro ge w73 H1 NW
                         clear H; have H := H1; clear H1
                         refine hK.out _ _ ?_ (fun hHeld => ?_)
                         ·exact H.out.sel [2, 3, 4] _ (by decide) rfl
                         clear hK K hHeld
                         refine norm_ ?_ (hc1100 (ge, g83, c83) _ ⟨_, _, _, _, NW, V, ⟨H.out.sel [0, 1, 2, 3, 4] _ (by decide) rfl⟩⟩)
                         simp only [putAll, Act.put, zs1, zs2, zs3]
                         rfl
                        ·intro K hK
                         refine H.out.lit_ (by rfl) (#[.string nm, .slice (some ⟨g83, 0, none⟩) 3 c83]) 65 1 ?hr ?_
                         (case hr => first | (go_simp; done) | (go_simp; rfl))
                         intro g85 w85 H1
                         clear H; have H := H1; clear H1
                         refine hK.out _ _ ?_ (fun hHeld => ?_)
                         ·exact H.out.sel [2, 3, 4] _ (by decide) rfl
                         clear hK K hHeld
                         refine norm_ ?_ (hc0200 (g83, c83, g85) _ ⟨_, _, V, ⟨H.out.sel [0, 1, 2, 3, 4] _ (by decide) rfl⟩⟩)
                         simp only [putAll, Act.put, zs1, zs2, zs3]
                         rfl
                        ·intro K hK
                         refine H.out.bx_ (by rfl) (#[.int .i64 0, .slice none 0 0]) 57 ?hr ?_
                         (case hr => first | (go_simp; done) | (go_simp; rfl))
                         intro g10 w10 H1
                         clear H; have H := H1; clear H1
                         refine hK.out _ _ ?_ (fun hHeld => ?_)
                         ·exact H.out.sel [2, 3, 4] _ (by decide) rfl
                         clear hK K hHeld
                         refine norm_ ?_ (hc0110 (g83, c83, g10) _ ⟨_, _, V, ⟨H.out.sel [0, 1, 2, 3, 4] _ (by decide) rfl⟩⟩)
                         simp only [putAll, Act.put, zs1, zs2, zs3]
                         rfl
                       ·intro hc0100
                        refine join_ (σ := Nat) 8 (bm 19 4063) (fun s => [(73, .slice (some ⟨s, 0, none⟩) 0 0)]) (fun s w' => ∃ (So : Nat → Prop), ∃ (wo : World), Az (NewR w.heap.size SR So w9 wo (.slice (some ⟨s, 0, none⟩) 0 0) []) ∧ Az (Hq w.heap.size w24 w' [.set So wo, .set SR w9, .box g9 (cR (A69, c69) (ta, (lessV Da v))) 57, .box g6 (cR (some ⟨gA, 0, none⟩, cm) (ta, Da)) 57])) ?_ ?_
                        ·rintro ge wj ⟨So, wo, NW, H⟩
                         refine norm_ (a' := ?_) ?_ ?_
                         rotate_left
                         ·simp only [putAll, Act.put, zs1, zs2, zs3]
                          rfl
                         refine three_ (i := 5) (j := 12) (k := 17) (Ni := some 76) (Nj := some 83) (Nk := some 10) (bm 19 4095) (bm 19 8159) (bm 19 135135) rfl rfl rfl rfl rfl rfl (by kernel_rfl) (by decide) (by decide) (by decide) ?_ ?_ ?_
                         ·intro K hK
                          refine H.out.appQ_ 1 0 (by decide) rfl rfl NW.out (src_root H.out 1 0 (by decide) rfl rfl NW.out (Kd.Q_of_R (H.out.rr 1 rfl OX.out))) (by have := FVa.out.len; have := less_len (D := Da) (v := v); simp only [List.length_nil]; omega) (by rfl) (.tmp 73) (.tmp 75) rfl rfl rfl ?_
                          intro A76 c76 w76 q76 HQ76 H1 NW1
                          clear H NW; have H := H1; have NW := NW1; clear H1 NW1
                          obtain rfl : q76 = (lessV Da v) := HQ76.out.trans (List.nil_append _)
                          clear HQ76
                          refine hK.out _ _ ?_ (fun hHeld => ?_)
                          ·exact H.out.sel [1, 2, 3] _ (by decide) rfl
                          clear hK K hHeld
                          refine norm_ ?_ (hc2000 (.slice (some ⟨ge, 0, none⟩) 0 0, A76, c76) _ ⟨_, _, NW, ⟨H.out.sel [0, 1, 2, 3] _ (by decide) rfl⟩⟩)
                          simp only [putAll, Act.put, zs1, zs2, zs3]
                          rfl
                         ·intro K hK
                          refine H.out.make29n_ (by rfl) rfl rfl ?_
                          intro g83 c83 w83 H1 V HKP
                          clear HKP
                          clear H; have H := H1; clear H1
                          refine hK.out _ _ ?_ (fun hHeld => ?_)
                          ·exact H.out.sel [2, 3, 4] _ (by decide) rfl
                          clear hK K hHeld
                          refine zP 13 (some 84) (bm 19 16351) ?_
                          refine norm_ ?_ (hc1100 (ge, g83, c83) _ ⟨_, _, _, _, NW, V, ⟨H.out.sel [1, 0, 2, 3, 4] _ (by decide) rfl⟩⟩)
                          simp only [putAll, Act.put, zs1, zs2, zs3]
                          rfl
                         ·intro K hK
                          refine H.out.bx_ (by rfl) (#[.int .i64 0, .slice none 0 0]) 57 ?hr ?_
                          (case hr => first | (go_simp; done) | (go_simp; rfl))
                          intro g10 w10 H1
                          clear H; have H := H1; clear H1
                          refine hK.out _ _ ?_ (fun hHeld => ?_)
                          ·exact H.out.sel [2, 3, 4] _ (by decide) rfl
                          clear hK K hHeld
                          refine norm_ ?_ (hc1010 (ge, g10) _ ⟨_, _, NW, ⟨H.out.sel [0, 1, 2, 3, 4] _ (by decide) rfl⟩⟩)
                          simp only [putAll, Act.put, zs1, zs2, zs3]
                          rfl
                        ·intro hc1000
                         refine three_ (i := 2) (j := 12) (k := 17) (Ni := some 73) (Nj := some 83) (Nk := some 10) (bm 19 4063) (bm 19 8155) (bm 19 135131) rfl rfl rfl rfl rfl rfl (by kernel_rfl) (by decide) (by decide) (by decide) ?_ ?_ ?_
                         ·intro K hK
                          refine H.out.noneQ_ 0 rfl (by rfl) ?hr ?_
                          (case hr => first | (go_simp; done) | (go_simp; rfl))
                          intro ge w73 H1 NW
                          clear H; have H := H1; clear H1
                          refine hK.out _ _ ?_ (fun hHeld => ?_)
                          ·exact H.out.sel [1, 2, 3] _ (by decide) rfl
                          clear hK K hHeld
                          refine norm_ ?_ (hc1000 (ge) _ ⟨_, _, NW, ⟨H.out.sel [0, 1, 2, 3] _ (by decide) rfl⟩⟩)
                          simp only [putAll, Act.put, zs1, zs2, zs3]
                          rfl
                         ·intro K hK
                          refine H.out.make29n_ (by rfl) rfl rfl ?_
                          intro g83 c83 w83 H1 V HKP
                          clear HKP
                          clear H; have H := H1; clear H1
                          refine hK.out _ _ ?_ (fun hHeld => ?_)
                          ·exact H.out.sel [1, 2, 3] _ (by decide) rfl
                          clear hK K hHeld
                          refine zP 13 (some 84) (bm 19 16347) ?_
                          refine norm_ ?_ (hc0100 (g83, c83) _ ⟨_, _, V, ⟨H.out.sel [0, 1, 2, 3] _ (by decide) rfl⟩⟩)
                          simp only [putAll, Act.put, zs1, zs2, zs3]
                          rfl
                         ·intro K hK
                          refine H.out.bx_ (by rfl) (#[.int .i64 0, .slice none 0 0]) 57 ?hr ?_
                          (case hr => first | (go_simp; done) | (go_simp; rfl))
                          intro g10 w10 H1
                          clear H; have H := H1; clear H1
                          refine hK.out _ _ ?_ (fun hHeld => ?_)
                          ·exact H.out.sel [1, 2, 3] _ (by decide) rfl
                          clear hK K hHeld
                          refine norm_ ?_ (hc0010 (g10) _ ⟨H.out.sel [0, 1, 2, 3] _ (by decide) rfl⟩)
                          simp only [putAll, Act.put, zs1, zs2, zs3]
                          rfl
     ·intro hcont
      refine two_ (i := 2) (j := 15) (Ni := some 58) (Nj := some 9) (bm 17 8063) (bm 17 40827) rfl rfl rfl rfl (by kernel_rfl) (by decide) (by decide) ?_ ?_
      ·intro K hK
       refine H.out.noneQ_ 1 rfl (by rfl) ?hr ?_
       (case hr => first | (go_simp; done) | (go_simp; rfl))
       intro ge w58 H1 NW
       clear H; have H := H1; clear H1
       refine hK.out _ _ ?_ (fun hHeld => ?_)
       ·exact H.out.sel [1] _ (by decide) rfl
       clear hK K hHeld
       refine two_ (i := 7) (j := 15) (Ni := some 63) (Nj := some 9) (bm 17 8191) (bm 17 40831) rfl rfl rfl rfl (by kernel_rfl) (by decide) (by decide) ?_ ?_
       ·intro K hK
        refine H.out.appQ_ 2 0 (by decide) rfl rfl NW.out (src_root H.out 2 0 (by decide) rfl rfl NW.out (Kd.Q_take (m := v) (Kd.Q_of_R (H.out.rr 2 rfl OR.out)) (by have := HV.out; omega))) (by have := HV.out; have := FVa.out.len; simp only [List.length_nil]; omega) (by rfl) (.tmp 58) (.tmp 62) rfl rfl rfl ?_
        intro A63 c63 w63 q63 HQ63 H1 NW1
        clear H NW; have H := H1; have NW := NW1; clear H1 NW1
        refine hK.out _ _ ?_ (fun hHeld => ?_)
        ·exact H.out.sel [1] _ (by decide) rfl
        clear hK K hHeld
        refine two_ (i := 13) (j := 15) (Ni := some 69) (Nj := some 9) (bm 17 16383) (bm 17 40959) rfl rfl rfl rfl (by kernel_rfl) (by decide) (by decide) ?_ ?_
        ·intro K hK
         refine H.out.appQ_ 2 0 (by decide) rfl rfl NW.out (src_root H.out 2 0 (by decide) rfl rfl NW.out (Kd.Q_drop (k := v + 1) (Kd.Q_of_R (H.out.rr 2 rfl OR.out)) (by have := HV.out; omega))) (by rw [HQ63.out, List.nil_append, List.length_take]; have := HV.out; have := FVa.out.len; omega) (by rfl) (.tmp 63) (.tmp 68) rfl rfl rfl ?_
         intro A69 c69 w69 q69 HQ69 H1 NW1
         clear H NW; have H := H1; have NW := NW1; clear H1 NW1
         refine hK.out _ _ ?_ (fun hHeld => ?_)
         ·exact H.out.sel [1] _ (by decide) rfl
         clear hK K hHeld
         refine zP 14 (some 70) (bm 17 32767) ?_
         refine one_ (i := 15) (N := some 9) (bm 17 65535) rfl rfl (by kernel_rfl) (by decide) (fun K hK => ?_)
         refine H.out.bx_ (by rfl) (#[.int .i64 0, .slice none 0 0]) 57 ?hr ?_
         (case hr => first | (go_simp; done) | (go_simp; rfl))
         intro g9 w9 H1
         clear H; have H := H1; clear H1
         refine hK.out _ _ ?_ (fun hHeld => ?_)
         ·exact H.out.sel [2] _ (by decide) rfl
         clear hK K hHeld
         obtain rfl : q69 = (lessV Da v) := by rw [HQ69.out, HQ63.out]; rfl
         refine norm_ ?_ (hcont (.slice (some ⟨ge, 0, none⟩) 0 0, .slice A63 q63.length c63, A69, c69, g9) _ ⟨_, _, NW, ⟨H.out.sel [0, 1, 2, 3] _ (by decide) rfl⟩⟩)
         simp only [putAll, Act.put, zs1, zs2, zs3]
         rfl
        ·intro K hK
         refine H.out.bx_ (by rfl) (#[.int .i64 0, .slice none 0 0]) 57 ?hr ?_
         (case hr => first | (go_simp; done) | (go_simp; rfl))
         intro g9 w9 H1
         clear H; have H := H1; clear H1
         refine hK.out _ _ ?_ (fun hHeld => ?_)
         ·exact H.out.sel [2] _ (by decide) rfl
         clear hK K hHeld
         refine one_ (i := 13) (N := some 69) (bm 17 49151) rfl rfl (by kernel_rfl) (by decide) (fun K hK => ?_)
         refine H.out.appQ_ 3 1 (by decide) rfl rfl NW.out (src_root H.out 3 1 (by decide) rfl rfl NW.out (Kd.Q_drop (k := v + 1) (Kd.Q_of_R (H.out.rr 3 rfl OR.out)) (by have := HV.out; omega))) (by rw [HQ63.out, List.nil_append, List.length_take]; have := HV.out; have := FVa.out.len; omega) (by rfl) (.tmp 63) (.tmp 68) rfl rfl rfl ?_
         intro A69 c69 w69 q69 HQ69 H1 NW1
         clear H NW; have H := H1; have NW := NW1; clear H1 NW1
         refine hK.out _ _ ?_ (fun hHeld => ?_)
         ·exact H.out.sel [2] _ (by decide) rfl
         clear hK K hHeld
         refine zP 14 (some 70) (bm 17 65535) ?_
         obtain rfl : q69 = (lessV Da v) := by rw [HQ69.out, HQ63.out]; rfl
         refine norm_ ?_ (hcont (.slice (some ⟨ge, 0, none⟩) 0 0, .slice A63 q63.length c63, A69, c69, g9) _ ⟨_, _, NW, ⟨H.out.sel [0, 1, 2, 3] _ (by decide) rfl⟩⟩)
         simp only [putAll, Act.put, zs1, zs2, zs3]
         rfl
       ·intro K hK
        refine H.out.bx_ (by rfl) (#[.int .i64 0, .slice none 0 0]) 57 ?hr ?_
        (case hr => first | (go_simp; done) | (go_simp; rfl))
        intro g9 w9 H1
        clear H; have H := H1; clear H1
        refine hK.out _ _ ?_ (fun hHeld => ?_)
        ·exact H.out.sel [2] _ (by decide) rfl
        clear hK K hHeld
        refine one_ (i := 7) (N := some 63) (bm 17 40959) rfl rfl (by kernel_rfl) (by decide) (fun K hK => ?_)
        refine H.out.appQ_ 3 1 (by decide) rfl rfl NW.out (src_root H.out 3 1 (by decide) rfl rfl NW.out (Kd.Q_take (m := v) (Kd.Q_of_R (H.out.rr 3 rfl OR.out)) (by have := HV.out; omega))) (by have := HV.out; have := FVa.out.len; simp only [List.length_nil]; omega) (by rfl) (.tmp 58) (.tmp 62) rfl rfl rfl ?_
        intro A63 c63 w63 q63 HQ63 H1 NW1
        clear H NW; have H := H1; have NW := NW1; clear H1 NW1
        refine hK.out _ _ ?_ (fun hHeld => ?_)
        ·exact H.out.sel [2] _ (by decide) rfl
        clear hK K hHeld
        refine one_ (i := 13) (N := some 69) (bm 17 49151) rfl rfl (by kernel_rfl) (by decide) (fun K hK => ?_)
        refine H.out.appQ_ 3 1 (by decide) rfl rfl NW.out (src_root H.out 3 1 (by decide) rfl rfl NW.out (Kd.Q_drop (k := v + 1) (Kd.Q_of_R (H.out.rr 3 rfl OR.out)) (by have := HV.out; omega))) (by rw [HQ63.out, List.nil_append, List.length_take]; have := HV.out; have := FVa.out.len; omega) (by rfl) (.tmp 63) (.tmp 68) rfl rfl rfl ?_
        intro A69 c69 w69 q69 HQ69 H1 NW1
        clear H NW; have H := H1; have NW := NW1; clear H1 NW1
        refine hK.out _ _ ?_ (fun hHeld => ?_)
        ·exact H.out.sel [2] _ (by decide) rfl
        clear hK K hHeld
        refine zP 14 (some 70) (bm 17 65535) ?_
        obtain rfl : q69 = (lessV Da v) := by rw [HQ69.out, HQ63.out]; rfl
        refine norm_ ?_ (hcont (.slice (some ⟨ge, 0, none⟩) 0 0, .slice A63 q63.length c63, A69, c69, g9) _ ⟨_, _, NW, ⟨H.out.sel [0, 1, 2, 3] _ (by decide) rfl⟩⟩)
        simp only [putAll, Act.put, zs1, zs2, zs3]
        rfl
      ·intro K hK
       refine H.out.bx_ (by rfl) (#[.int .i64 0, .slice none 0 0]) 57 ?hr ?_
       (case hr => first | (go_simp; done) | (go_simp; rfl))
       intro g9 w9 H1
       clear H; have H := H1; clear H1
       refine hK.out _ _ ?_ (fun hHeld => ?_)
       ·exact H.out.sel [1] _ (by decide) rfl
       clear hK K hHeld
       refine one_ (i := 2) (N := some 58) (bm 17 40831) rfl rfl (by kernel_rfl) (by decide) (fun K hK => ?_)
       refine H.out.noneQ_ 2 rfl (by rfl) ?hr ?_
       (case hr => first | (go_simp; done) | (go_simp; rfl))
       intro ge w58 H1 NW
       clear H; have H := H1; clear H1
       refine hK.out _ _ ?_ (fun hHeld => ?_)
       ·exact H.out.sel [2] _ (by decide) rfl
       clear hK K hHeld
       refine one_ (i := 7) (N := some 63) (bm 17 40959) rfl rfl (by kernel_rfl) (by decide) (fun K hK => ?_)
       refine H.out.appQ_ 3 0 (by decide) rfl rfl NW.out (src_root H.out 3 0 (by decide) rfl rfl NW.out (Kd.Q_take (m := v) (Kd.Q_of_R (H.out.rr 3 rfl OR.out)) (by have := HV.out; omega))) (by have := HV.out; have := FVa.out.len; simp only [List.length_nil]; omega) (by rfl) (.tmp 58) (.tmp 62) rfl rfl rfl ?_
       intro A63 c63 w63 q63 HQ63 H1 NW1
       clear H NW; have H := H1; have NW := NW1; clear H1 NW1
       refine hK.out _ _ ?_ (fun hHeld => ?_)
       ·exact H.out.sel [2] _ (by decide) rfl
       clear hK K hHeld
       refine one_ (i := 13) (N := some 69) (bm 17 49151) rfl rfl (by kernel_rfl) (by decide) (fun K hK => ?_)
       refine H.out.appQ_ 3 0 (by decide) rfl rfl NW.out (src_root H.out 3 0 (by decide) rfl rfl NW.out (Kd.Q_drop (k := v + 1) (Kd.Q_of_R (H.out.rr 3 rfl OR.out)) (by have := HV.out; omega))) (by rw [HQ63.out, List.nil_append, List.length_take]; have := HV.out; have := FVa.out.len; omega) (by rfl) (.tmp 63) (.tmp 68) rfl rfl rfl ?_
       intro A69 c69 w69 q69 HQ69 H1 NW1
       clear H NW; have H := H1; have NW := NW1; clear H1 NW1
       refine hK.out _ _ ?_ (fun hHeld => ?_)
       ·exact H.out.sel [2] _ (by decide) rfl
       clear hK K hHeld
       refine zP 14 (some 70) (bm 17 65535) ?_
       obtain rfl : q69 = (lessV Da v) := by rw [HQ69.out, HQ63.out]; rfl
       refine norm_ ?_ (hcont (.slice (some ⟨ge, 0, none⟩) 0 0, .slice A63 q63.length c63, A69, c69, g9) _ ⟨_, _, NW, ⟨H.out.sel [1, 0, 2, 3] _ (by decide) rfl⟩⟩)
       simp only [putAll, Act.put, zs1, zs2, zs3]
       rfl
   | false =>
    have RBa := Az.mk hra
    clear hra
    go_wp2_with (first | ((with_reducible refine zqg (N := 28) rfl ?_); refine H.out.ld_row 0 rfl rfl rfl rfl Try.underlying57 rfl hs57 ?_; (try simp only [Act.put, zs1, zs2, zs3])) | (go_at_call 38; have _tk := tk1; refine (implRt_q ta RBa.out HFa.out (rdr_of (M := Ma) H.out 1 rfl OR.out)).mono ?_; rintro e w29 ⟨rfl, hb⟩; have H1 := Az.mk (H.out.step hb); clear hb; clear H; have H := H1; clear H1; clear tk1 _tk; have tk2 : True := trivial) | ((with_reducible refine zqg (N := 32) rfl ?_); refine H.out.ld_row 0 rfl rfl rfl rfl Try.underlying57 rfl hs57 ?_; (try simp only [Act.put, zs1, zs2, zs3])) | (go_at_call 36; have _tk := tk2; refine (specRt_q ta RBa.out HFa.out (rdr_of (M := Ma) H.out 1 rfl OR.out)).mono ?_; rintro e w33 ⟨rfl, hb⟩; have H1 := Az.mk (H.out.step hb); clear hb; clear H; have H := H1; clear H1; clear tk2 _tk; have tk3 : True := trivial) | ((with_reducible refine zqg (N := 47) rfl ?_); refine H.out.ld_row 0 rfl rfl rfl rfl Try.underlying57 rfl hs57 ?_; (try simp only [Act.put, zs1, zs2, zs3])) | (go_at_call 36; have _tk := tk3; refine (specRt_q ta RBa.out HFa.out (rdr_of (M := Ma) H.out 1 rfl OR.out)).mono ?_; rintro e w48 ⟨rfl, hb⟩; have H1 := Az.mk (H.out.step hb); clear hb; clear H; have H := H1; clear H1; clear tk3 _tk; have tk4 : True := trivial))
    (try simp only [Act.put, zs1, zs2, zs3])
    go_ret
    exact ⟨rfl, HB0.out.trans H.out.bel⟩
end Go.Proofs.Ytkoimmeghdbodaa.Hq
