/- Proved, with what follows on it: the row of the law FnExactDiskFlush. Conditions: the row's alone. Texts of this session and words that the kit's print laid for this seat, merged and cut by shrink.py, a program of this session. -/
import Derived.Below
import Derived.ChangeOld
import Derived.OpenShut
import Derived.ProofKit
import Derived.ShutString
import Derived.SizedLaws
import Derived.WalkKit
import Derived.Test.YtkgpnloghmbmlaaRows
import Derived.Test.YtkgpnloghmbmlaaZFnExactDiskFlushE
namespace Go.Proofs.Ytkgpnloghmbmlaa.Hd
open Go.RowKit Go.Proofs.Ytkgpnloghmbmlaa.Print Go.Proofs.YtkgpnloghmbmlaaW.PrintWords Go.Proofs.YtkgpnloghmbmlaaW.PrintLast Go.Proofs.Ytkgpnloghmbmlaa.Pure
set_option linter.unusedVariables false
set_option linter.unusedSimpArgs false
theorem below_of_none {w w1 : World} (hg : w.grownBy w1 none) : Below w.heap.size w w1 := ⟨hg.os, hg.tape, hg.output, hg.size, fun k hk => hg.block k hk (by simp)⟩
theorem own_new {v : Value} {n : Nat} (h : ∃ b, v.ownBlock = some b ∧ n ≤ b) : ∀ k, v.ownBlock = some k → n ≤ k := fun k hk => by
  obtain ⟨b, hb, hn⟩ := h
  rw [hb] at hk
  injection hk with hk
  omega
theorem own_lt' {α : Type} {d : Kd α} {t b : Nat} {w : World} {ok : Nat → Prop} {v : Value} {xs : List α} (h : d.R t w b ok v xs) : ∀ k, v.ownBlock = some k → k < w.heap.size := fun k hk => by
  obtain ⟨_, inner, ho, _⟩ := h
  exact own_lt ho k hk
def Ownerless {α : Type} (d : Kd α) : Prop := ∀ (w w' : World) (b : Nat) (ok ok' : Nat → Prop) (x : α) (cs : List Value), d.M w b ok x cs → d.M w' b ok' x cs
theorem ownerless_string : Ownerless Kd.string := fun _ _ _ _ _ _ _ h => h
theorem ownerless_bool : Ownerless Kd.bool := fun _ _ _ _ _ _ _ h => h
theorem ownerless_k54 : Ownerless k54 := fun _ _ _ _ _ _ _ h => h
theorem R_own_only {α : Type} {d : Kd α} {t b : Nat} {w w' : World} {ok : Nat → Prop} {v : Value} {xs : List α} (h : d.R t w b ok v xs) (hd : Ownerless d) (hk : ∀ k, v.ownBlock = some k → w'.heap[k]? = w.heap[k]?) : d.R t w' b ok v xs := by
  obtain ⟨h0, inner, ho, hr⟩ := h
  exact ⟨h0, inner, own_move ho hk, hr.imp_ fun _ _ hp => hd _ _ _ _ _ _ _ hp⟩
theorem ne_types {α β : Type} {d : Kd α} {d' : Kd β} {t t' b b' : Nat} {w : World} {ok ok' : Nat → Prop} {v v' : Value} {xs : List α} {ys : List β} (h : d.R t w b ok v xs) (h' : d'.R t' w b' ok' v' ys) (ht : t ≠ t') : ∀ k, v.ownBlock = some k → some k ≠ v'.ownBlock := fun k hk e => by
  obtain ⟨_, _, ho, _⟩ := h
  obtain ⟨_, _, ho', _⟩ := h'
  obtain ⟨c, hc⟩ := own_typed ho k hk
  obtain ⟨c', hc'⟩ := own_typed ho' k e.symm
  rw [hc] at hc'
  injection hc' with hc'
  injection hc' with _ hc'
  exact ht hc'
theorem R_far_types {α β : Type} {d : Kd α} {d' : Kd β} {t t' b b' : Nat} {w w1 : World} {ok ok' : Nat → Prop} {v v' : Value} {xs : List α} {ys : List β} (h : d.R t w b ok v xs) (h' : d'.R t' w b' ok' v' ys) (ht : t ≠ t') (hg : w.grownBy w1 v'.ownBlock) (hd : Ownerless d) : d.R t w1 b ok v xs :=
  R_own_only h hd fun k hk => hg.block k (own_lt' h k hk) (ne_types h h' ht k hk)
theorem R_far_ne {α : Type} {d : Kd α} {t b : Nat} {w w1 : World} {ok : Nat → Prop} {v v' : Value} {xs : List α} (h : d.R t w b ok v xs) (hg : w.grownBy w1 v'.ownBlock) (hn : v'.ownBlock = none ∨ v'.ownBlock ≠ v.ownBlock) (hd : Ownerless d) : d.R t w1 b ok v xs :=
  R_own_only h hd fun k hk => hg.block k (own_lt' h k hk) (atom_of' hn hk)
theorem R_far_ne' {α : Type} {d : Kd α} {t b : Nat} {w w1 : World} {ok : Nat → Prop} {v v' : Value} {xs : List α} (h : d.R t w b ok v xs) (hg : w.grownBy w1 v'.ownBlock) (hn : v.ownBlock = none ∨ v.ownBlock ≠ v'.ownBlock) (hd : Ownerless d) : d.R t w1 b ok v xs :=
  R_own_only h hd fun k hk => hg.block k (own_lt' h k hk) (atom_of hn hk)
theorem ne_left {v v1 u : Value} {n : Nat} (h : v1.ownBlock = v.ownBlock ∨ ∃ b, v1.ownBlock = some b ∧ n ≤ b) (hn : v.ownBlock = none ∨ v.ownBlock ≠ u.ownBlock) (hu : ∀ k, u.ownBlock = some k → k < n) : v1.ownBlock = none ∨ v1.ownBlock ≠ u.ownBlock := by
  rcases h with h | h
  · rw [h]; exact hn
  · exact own_apart' (own_new h) hu
theorem ne_right {v v1 u : Value} {n : Nat} (h : v1.ownBlock = v.ownBlock ∨ ∃ b, v1.ownBlock = some b ∧ n ≤ b) (hn : u.ownBlock = none ∨ u.ownBlock ≠ v.ownBlock) (hu : ∀ k, u.ownBlock = some k → k < n) : u.ownBlock = none ∨ u.ownBlock ≠ v1.ownBlock := by
  rcases h with h | h
  · rw [h]; exact hn
  · exact own_apart hu (own_new h)
theorem own_ge2 {α : Type} {d : Kd α} {t b g g' s s' : Nat} {w : World} {ok : Nat → Prop} {v : Value} {xs : List α} {cs cs' : Array Value} (h : d.R t w b ok v xs) (hg : w.heap[g]? = some (.cells cs s (0, 0))) (hg' : w.heap[g']? = some (.cells cs' s' (0, 0))) (ht : t ≠ s ∧ t ≠ s') : ∀ k, v.ownBlock = some k → b ≤ k ∧ k ≠ g ∧ k ≠ g' := fun k hk => by
  obtain ⟨_, _, ho, _⟩ := h
  obtain ⟨c, hc⟩ := own_typed ho k hk
  refine ⟨own_base ho k hk, ?_, ?_⟩
  · rintro rfl
    rw [hc] at hg
    injection hg with hg
    injection hg with _ hg
    exact ht.1 hg
  · rintro rfl
    rw [hc] at hg'
    injection hg' with hg'
    injection hg' with _ hg'
    exact ht.2 hg'
theorem Hd.grown2 {base : Nat} {w0 w w1 : World} {g g' s s' : Nat} {cs cs' : Array Value} {row : Option Nat} (h : Hd base w0 w [.box g cs s, .box g' cs' s']) (hg : w.grownBy w1 row) (hr : ∀ k, row = some k → base ≤ k ∧ k ≠ g ∧ k ≠ g') : Hd base w0 w1 [.box g cs s, .box g' cs' s'] := by
  have l0 := blk_lt (h.box 0 rfl)
  have l1 := blk_lt (h.box 1 rfl)
  refine ⟨h.bel.trans ⟨hg.os, hg.tape, hg.output, hg.size, fun k hk => hg.block k (Nat.lt_of_lt_of_le hk h.base_le) fun e => by have := (hr k e.symm).1; omega⟩, ?_, ?_, ?_, ?_, ?_⟩
  · exact Nat.le_trans h.prt.1 hg.size
  · exact (hg.block g l0 fun e => (hr g e.symm).2.1 rfl).trans (h.box 0 rfl)
  · exact h.prt.2.2.1
  · exact (hg.block g' l1 fun e => (hr g' e.symm).2.2 rfl).trans (h.box 1 rfl)
  · exact h.prt.2.2.2.2
theorem R_set_far {α : Type} {d : Kd α} {t b g s : Nat} {w : World} {ok : Nat → Prop} {v : Value} {xs : List α} {cs : Array Value} (h : d.R t w b ok v xs) (hg : w.heap[g]? = some (.cells cs s (0, 0))) (ht : t ≠ s) (cs' : Array Value) (hd : Ownerless d) : d.R t (w.setRow g cs') b ok v xs :=
  R_own_only h hd fun k hk => setRow_other w g k cs' fun e => by
    obtain ⟨_, _, ho, _⟩ := h
    obtain ⟨c, hc⟩ := own_typed ho k hk
    subst e
    rw [hc] at hg
    injection hg with hg
    injection hg with _ hg
    exact ht hg
theorem infoL9 : (Try.prog.info? 9).map (fun i => (i.zero, i.size, i.bytes)) = some (some (.string ⟨#[]⟩), 1, 16) := by kernel_rfl
theorem infoL4 : (Try.prog.info? 4).map (fun i => (i.zero, i.size, i.bytes)) = some (some (.bool false), 1, 1) := by kernel_rfl
theorem infoL54 : (Try.prog.info? 54).map (fun i => (i.zero, i.size, i.bytes)) = some (some (.agg #[.bool false, .int .i64 0, .string ⟨#[]⟩]), 3, 32) := by kernel_rfl
theorem sizeL28 : (Try.prog.info? 28).map (·.size) = some 5 := by kernel_rfl
def TC : Bool × List (List Nat × List Nat) := (true, [([], []), ([0], [0]), ([], []), ([], []), ([3], [3]), ([2, 4], [2, 4]), ([], []), ([], []), ([7], [7]), ([6, 8, 5], [6, 8]), ([], []), ([], []), ([11], [11]), ([10, 12, 9], [10, 12]), ([], []), ([], []), ([15], [15]), ([14, 16, 13], [14, 16]), ([1, 5, 9, 13, 17], [1, 5, 9, 13, 17]), ([18, 17, 0, 1, 2, 3, 4, 5, 6, 7, 8, 9, 10, 11, 12, 13, 14, 15, 16, 17, 18], [18])])
def BC : List Nat := [0, 1, 0, 0, 8, 28, 0, 0, 128, 508, 0, 0, 2048, 8188, 0, 0, 32768, 131068, 262143, 524287]
theorem tabC : rtab .any (opsOf Try.f80 1) = TC := by kernel_rfl
theorem bitsC : waitsOk TC.2 BC = true := by kernel_rfl
set_option maxHeartbeats 8000000 in
set_option maxRecDepth 100000 in
theorem l3Copy_call {w : World} {M : Mm} {D : Dd} (hf : FitsD D) (h : Rd w M D) : Calls Try.prog 80 #[.agg (cD M D)] w (Gives D w) := by
  have hu28 := Try.underlying28
  have hs28 := sizeL28
  have HF := Aside0.mk hf
  have HR := Aside0.mk h
  have H := Aside0.mk (Hd.start w)
  clear hf h
  go_enter Try.func80, Try.ntmps80
  go_wp2_with (first | ((with_reducible refine gate_dst (N := 1) rfl ?_); refine H.out.bx rfl (cD M D) 28 ?hr ?_; (case hr => first | (go_simp; done) | (go_simp; rfl)); intro g1 wa H1; clear H; have H := H1; clear H1) | ((with_reducible refine gate_dst (N := 2) rfl ?_); refine H.out.bx rfl #[.int .i64 0, .slice none 0 0, .slice none 0 0, .slice none 0 0, .slice none 0 0] 28 ?hr ?_; (case hr => first | (go_simp; done) | (go_simp; rfl)); intro g2 wb H1; clear H; have H := H1; clear H1))
  refine start_ (n := 20) (S := fun w' => True) (ds := []) #[false, false, false, false, false, false, false, false, false, false, false, false, false, false, false, false, false, false, false, false] (by kernel_rfl) rfl rfl trivial (fun hHeld => ?_)
  refine with_tabW tabC bitsC (fun HT_ HW_ => ?_)
  have HD := Aside0.mk H.out.drew
  clear hHeld H
  generalize wb.drew = wd at HD ⊢
  refine pure_ (i := 0) (N := some 3) (v := ?_) (a' := ?_) #[true, false, false, false, false, false, false, false, false, false, false, false, false, false, false, false, false, false, false, false] rfl rfl (by kernel_rfl) (fun _ _ _ h => h) (Or.inl ⟨by rfl, ?_⟩) ?_ ?_
  rotate_left
  · intro w'
    go_simp
    with_reducible rfl
  rotate_left
  · simp only [Act.put, List.setIfInBounds_toArray, List.set_cons_zero, List.set_cons_succ, i64_w, i32_w]
    rfl
  refine pure_ (i := 3) (N := some 6) (v := ?_) (a' := ?_) #[true, false, false, true, false, false, false, false, false, false, false, false, false, false, false, false, false, false, false, false] rfl rfl (by kernel_rfl) (fun _ _ _ h => h) (Or.inl ⟨by rfl, ?_⟩) ?_ ?_
  rotate_left
  · intro w'
    go_simp
    with_reducible rfl
  rotate_left
  · simp only [Act.put, List.setIfInBounds_toArray, List.set_cons_zero, List.set_cons_succ, i64_w, i32_w]
    rfl
  refine pure_ (i := 7) (N := some 10) (v := ?_) (a' := ?_) #[true, false, false, true, false, false, false, true, false, false, false, false, false, false, false, false, false, false, false, false] rfl rfl (by kernel_rfl) (fun _ _ _ h => h) (Or.inl ⟨by rfl, ?_⟩) ?_ ?_
  rotate_left
  · intro w'
    go_simp
    with_reducible rfl
  rotate_left
  · simp only [Act.put, List.setIfInBounds_toArray, List.set_cons_zero, List.set_cons_succ, i64_w, i32_w]
    rfl
  refine pure_ (i := 11) (N := some 14) (v := ?_) (a' := ?_) #[true, false, false, true, false, false, false, true, false, false, false, true, false, false, false, false, false, false, false, false] rfl rfl (by kernel_rfl) (fun _ _ _ h => h) (Or.inl ⟨by rfl, ?_⟩) ?_ ?_
  rotate_left
  · intro w'
    go_simp
    with_reducible rfl
  rotate_left
  · simp only [Act.put, List.setIfInBounds_toArray, List.set_cons_zero, List.set_cons_succ, i64_w, i32_w]
    rfl
  refine pure_ (i := 15) (N := some 18) (v := ?_) (a' := ?_) #[true, false, false, true, false, false, false, true, false, false, false, true, false, false, false, true, false, false, false, false] rfl rfl (by kernel_rfl) (fun _ _ _ h => h) (Or.inl ⟨by rfl, ?_⟩) ?_ ?_
  rotate_left
  · intro w'
    go_simp
    with_reducible rfl
  rotate_left
  · simp only [Act.put, List.setIfInBounds_toArray, List.set_cons_zero, List.set_cons_succ, i64_w, i32_w]
    rfl
  refine inv_at [1, 2, 4, 5, 6, 8, 9, 10, 12, 13, 14, 16, 17, 18, 19] (fun a0_ b a w' => ∃ (b1 : Value) (b2 : Value) (b3 : Value) (b4 : Value) (a1 : Value) (a2 : Value) (a3 : Value) (a4 : Value) (m18_ : Value), a = putSel a0_ b [(1, 4, .int .i64 D.st), (2, 5, b1), (4, 7, .slice M.A1 D.l1.length M.c1), (5, 8, a1), (6, 9, b2), (8, 11, .slice M.A2 D.l2.length M.c2), (9, 12, a2), (10, 13, b3), (12, 15, .slice M.A3 D.l3.length M.c3), (13, 16, a3), (14, 17, b4), (16, 19, .slice M.A4 D.l4.length M.c4), (17, 20, a4), (18, 21, m18_)] ∧ (b 19 = false → Hd w.heap.size w w' [.box g2 #[.int .i64 0, .slice none 0 0, .slice none 0 0, .slice none 0 0, .slice none 0 0] 28, .box g1 (cD M D) 28]) ∧ (b 2 = true → b 5 = false → Kd.R Kd.string 9 w' w.heap.size (fun _ => True) b1 ([] : List ByteArray)) ∧ (b 5 = true → b 19 = false → Kd.R Kd.string 9 w' w.heap.size (fun _ => True) a1 D.l1) ∧ (b 6 = true → b 9 = false → Kd.R Kd.string 9 w' w.heap.size (fun _ => True) b2 ([] : List ByteArray)) ∧ (b 9 = true → b 19 = false → Kd.R Kd.string 9 w' w.heap.size (fun _ => True) a2 D.l2) ∧ (b 10 = true → b 13 = false → Kd.R Kd.bool 4 w' w.heap.size (fun _ => True) b3 ([] : List Bool)) ∧ (b 13 = true → b 19 = false → Kd.R Kd.bool 4 w' w.heap.size (fun _ => True) a3 D.l3) ∧ (b 14 = true → b 17 = false → Kd.R k54 54 w' w.heap.size (fun _ => True) b4 ([] : List S54)) ∧ (b 17 = true → b 19 = false → Kd.R k54 54 w' w.heap.size (fun _ => True) a4 D.l4) ∧ (b 2 = true → b 6 = true → b 5 = false → b 9 = false → (b1 : Value).ownBlock = none ∨ (b1 : Value).ownBlock ≠ (b2 : Value).ownBlock) ∧ (b 5 = true → b 6 = true → b 9 = false → (a1 : Value).ownBlock = none ∨ (a1 : Value).ownBlock ≠ (b2 : Value).ownBlock) ∧ (b 5 = true → b 9 = true → (a1 : Value).ownBlock = none ∨ (a1 : Value).ownBlock ≠ (a2 : Value).ownBlock) ∧ (b 19 = true → (Hd w.heap.size w w' [.box g2 #[.int .i64 D.st, a1, a2, a3, a4] 28, .box g1 (cD M D) 28] ∧ Kd.R Kd.string 9 w' w.heap.size (fun _ => True) a1 D.l1 ∧ Kd.R Kd.string 9 w' w.heap.size (fun _ => True) a2 D.l2 ∧ Kd.R Kd.bool 4 w' w.heap.size (fun _ => True) a3 D.l3 ∧ Kd.R k54 54 w' w.heap.size (fun _ => True) a4 D.l4)) ∧ (b 18 = true → (m18_ : Value) = .agg #[.int .i64 D.st, a1, a2, a3, a4])) HT_.out HW_.out (by kernel_rfl) (by kernel_rfl) ?_ ?_ ?_
  · exact ⟨.bool false, .bool false, .bool false, .bool false, .bool false, .bool false, .bool false, .bool false, .bool false, by simp only [putSel, Bool.false_eq_true, if_false], fun _ => HD.out, fun h_ => absurd h_ (by decide), fun h_ => absurd h_ (by decide), fun h_ => absurd h_ (by decide), fun h_ => absurd h_ (by decide), fun h_ => absurd h_ (by decide), fun h_ => absurd h_ (by decide), fun h_ => absurd h_ (by decide), fun h_ => absurd h_ (by decide), fun h_ => absurd h_ (by decide), fun h_ => absurd h_ (by decide), fun h_ => absurd h_ (by decide), fun h_ => absurd h_ (by decide), fun h_ => absurd h_ (by decide)⟩
  · skip
    clear HD
    refine steps_cons ?_ ?_
    · rintro b a w' ⟨b1, b2, b3, b4, a1, a2, a3, a4, m18_, ha, Q_HD, Q_FB1, Q_FA1, Q_FB2, Q_FA2, Q_FB3, Q_FA3, Q_FB4, Q_FA4, Q_NBB, Q_NAB, Q_NAA, Q_HE, Q_X18_⟩ hb_ hon hoff
      refine ⟨_, rfl, fun K hK => ?_⟩
      have e3 : a.tmps[3]? = some (.pointer (some ⟨g1, 0, none⟩)) := by rw [ha]; exact (putSel_off rfl).trans rfl
      replace ha := Aside0.mk ha
      have HD := Aside0.mk (Q_HD (hoff 19 (by kernel_rfl)))
      refine value_ (w1 := w') (v := .int .i64 D.st) (by rfl) rfl (HD.out.run_cell 1 rfl 0 rfl rfl (eval_of e3) Try.underlying3 rfl) ?_
      refine hK.out _ _ ⟨b1, b2, b3, b4, a1, a2, a3, a4, m18_, (by rw [ha.out]; exact putSel_upk 0 hb_ rfl rfl rfl), fun _ => HD.out, fun h0_ h1_ => (Q_FB1 h0_ h1_), fun h0_ h1_ => (Q_FA1 h0_ h1_), fun h0_ h1_ => (Q_FB2 h0_ h1_), fun h0_ h1_ => (Q_FA2 h0_ h1_), fun h0_ h1_ => (Q_FB3 h0_ h1_), fun h0_ h1_ => (Q_FA3 h0_ h1_), fun h0_ h1_ => (Q_FB4 h0_ h1_), fun h0_ h1_ => (Q_FA4 h0_ h1_), fun h0_ h1_ h2_ h3_ => (Q_NBB h0_ h1_ h2_ h3_), fun h0_ h1_ h2_ => (Q_NAB h0_ h1_ h2_), fun h0_ h1_ => (Q_NAA h0_ h1_), fun h0_ => absurd ((hoff 19 (by kernel_rfl)).symm.trans h0_) (by decide), fun h0_ => absurd ((hoff 18 (by kernel_rfl)).symm.trans h0_) (by decide)⟩
    refine steps_cons ?_ ?_
    · rintro b a w' ⟨b1, b2, b3, b4, a1, a2, a3, a4, m18_, ha, Q_HD, Q_FB1, Q_FA1, Q_FB2, Q_FA2, Q_FB3, Q_FA3, Q_FB4, Q_FA4, Q_NBB, Q_NAB, Q_NAA, Q_HE, Q_X18_⟩ hb_ hon hoff
      refine ⟨_, rfl, fun K hK => ?_⟩
      replace ha := Aside0.mk ha
      have HD := Aside0.mk (Q_HD (hoff 19 (by kernel_rfl)))
      refine Kd.R_lit_step Kd.string w.heap.size 9 (by rfl) (N := 5) rfl (xs := ([] : List ByteArray)) (inner := []) (ok := fun _ => True) (okp := fun _ => True) (w0 := w) ?hr (Reps.none _ _) (fun _ hk => hk) trivial HD.out.bel HD.out.base_le (by simp) ?_
      (case hr => first | (go_simp; done) | (go_simp; rfl))
      intro v1 w1 hr1 _ hg1 hn1
      have hb1 := below_of_none hg1
      refine hK.out _ _ ⟨v1, b2, b3, b4, a1, a2, a3, a4, m18_, (by rw [ha.out]; exact putSel_upk 1 hb_ rfl rfl rfl), fun _ => HD.out.step hb1, fun _ _ => hr1, fun h0_ _ => absurd ((hoff 5 (by kernel_rfl)).symm.trans h0_) (by decide), fun h0_ h1_ => Kd.R_below (Q_FB2 h0_ h1_) hb1, fun h0_ _ => absurd ((hoff 9 (by kernel_rfl)).symm.trans h0_) (by decide), fun h0_ h1_ => Kd.R_below (Q_FB3 h0_ h1_) hb1, fun h0_ _ => absurd ((hoff 13 (by kernel_rfl)).symm.trans h0_) (by decide), fun h0_ h1_ => Kd.R_below (Q_FB4 h0_ h1_) hb1, fun h0_ _ => absurd ((hoff 17 (by kernel_rfl)).symm.trans h0_) (by decide), fun h0_ h1_ h2_ h3_ => own_apart' (own_new hn1) (own_lt' (Q_FB2 h1_ h3_)), fun h0_ _ _ => absurd ((hoff 5 (by kernel_rfl)).symm.trans h0_) (by decide), fun h0_ _ => absurd ((hoff 5 (by kernel_rfl)).symm.trans h0_) (by decide), fun h0_ => absurd ((hoff 19 (by kernel_rfl)).symm.trans h0_) (by decide), fun h0_ => absurd ((hoff 18 (by kernel_rfl)).symm.trans h0_) (by decide)⟩
    refine steps_cons ?_ ?_
    · rintro b a w' ⟨b1, b2, b3, b4, a1, a2, a3, a4, m18_, ha, Q_HD, Q_FB1, Q_FA1, Q_FB2, Q_FA2, Q_FB3, Q_FA3, Q_FB4, Q_FA4, Q_NBB, Q_NAB, Q_NAA, Q_HE, Q_X18_⟩ hb_ hon hoff
      refine ⟨_, rfl, fun K hK => ?_⟩
      have e6 : a.tmps[6]? = some (.pointer (some ⟨g1, 1, none⟩)) := by rw [ha]; exact (putSel_off rfl).trans rfl
      replace ha := Aside0.mk ha
      have HD := Aside0.mk (Q_HD (hoff 19 (by kernel_rfl)))
      refine value_ (w1 := w') (v := .slice M.A1 D.l1.length M.c1) (by rfl) rfl (HD.out.run_cell 1 rfl 1 rfl rfl (eval_of e6) Try.underlying24 rfl) ?_
      refine hK.out _ _ ⟨b1, b2, b3, b4, a1, a2, a3, a4, m18_, (by rw [ha.out]; exact putSel_upk 2 hb_ rfl rfl rfl), fun _ => HD.out, fun h0_ h1_ => (Q_FB1 h0_ h1_), fun h0_ _ => absurd ((hoff 5 (by kernel_rfl)).symm.trans h0_) (by decide), fun h0_ h1_ => (Q_FB2 h0_ h1_), fun h0_ _ => absurd ((hoff 9 (by kernel_rfl)).symm.trans h0_) (by decide), fun h0_ h1_ => (Q_FB3 h0_ h1_), fun h0_ _ => absurd ((hoff 13 (by kernel_rfl)).symm.trans h0_) (by decide), fun h0_ h1_ => (Q_FB4 h0_ h1_), fun h0_ _ => absurd ((hoff 17 (by kernel_rfl)).symm.trans h0_) (by decide), fun h0_ h1_ h2_ h3_ => (Q_NBB h0_ h1_ h2_ h3_), fun h0_ _ _ => absurd ((hoff 5 (by kernel_rfl)).symm.trans h0_) (by decide), fun h0_ _ => absurd ((hoff 5 (by kernel_rfl)).symm.trans h0_) (by decide), fun h0_ => absurd ((hoff 19 (by kernel_rfl)).symm.trans h0_) (by decide), fun h0_ => absurd ((hoff 18 (by kernel_rfl)).symm.trans h0_) (by decide)⟩
    refine steps_cons ?_ ?_
    · rintro b a w' ⟨b1, b2, b3, b4, a1, a2, a3, a4, m18_, ha, Q_HD, Q_FB1, Q_FA1, Q_FB2, Q_FA2, Q_FB3, Q_FA3, Q_FB4, Q_FA4, Q_NBB, Q_NAB, Q_NAA, Q_HE, Q_X18_⟩ hb_ hon hoff
      refine ⟨_, rfl, fun K hK => ?_⟩
      have e5 : a.tmps[5]? = some (b1) := by rw [ha]; exact putSel_on (e := (2, 5, b1)) 1 rfl rfl (hon 2 (by kernel_rfl)) rfl
      have e7 : a.tmps[7]? = some (.slice M.A1 D.l1.length M.c1) := by rw [ha]; exact putSel_on (e := (4, 7, .slice M.A1 D.l1.length M.c1)) 2 rfl rfl (hon 4 (by kernel_rfl)) rfl
      replace ha := Aside0.mk ha
      have HD := Aside0.mk (Q_HD (hoff 19 (by kernel_rfl)))
      have FB1 := Aside0.mk (Q_FB1 (hon 2 (by kernel_rfl)) hb_)
      refine Kd.R_append_rows_step Kd.string (w0 := w) w.heap.size (by rfl) (.tmp 5) (.tmp 7) 24 9 (.string ⟨#[]⟩) 16 rfl Try.underlying24 infoL9 rfl (by decide) (by omega) b1 [] D.l1 M.A1 D.l1.length M.c1 (fun _ => True) (fun _ => False) (eval_of e5) (eval_of e7) FB1.out (HD.out.C HR.out.r1) (fun _ _ h => h) (fun _ h => h.elim) (fun _ _ => trivial) HD.out.bel HD.out.base_le ?hl ?_
      (case hl => have := HF.out.h1; simp only [List.length_nil]; omega)
      intro v1 w1 hr1 _ hg1 hn1
      rw [List.nil_append] at hr1
      refine hK.out _ _ ⟨b1, b2, b3, b4, v1, a2, a3, a4, m18_, (by rw [ha.out]; exact putSel_upk 3 hb_ rfl rfl rfl), fun _ => HD.out.grown2 hg1 (own_ge2 FB1.out (HD.out.box 0 rfl) (HD.out.box 1 rfl) (by decide)), fun _ h1_ => absurd ((up_self b 5).symm.trans h1_) (by decide), fun _ _ => hr1, fun h0_ h1_ => R_far_ne (Q_FB2 h0_ h1_) hg1 (Q_NBB (hon 2 (by kernel_rfl)) h0_ hb_ h1_) ownerless_string, fun h0_ _ => absurd ((hoff 9 (by kernel_rfl)).symm.trans h0_) (by decide), fun h0_ h1_ => R_far_types (Q_FB3 h0_ h1_) FB1.out (by decide) hg1 (ownerless_bool), fun h0_ _ => absurd ((hoff 13 (by kernel_rfl)).symm.trans h0_) (by decide), fun h0_ h1_ => R_far_types (Q_FB4 h0_ h1_) FB1.out (by decide) hg1 (ownerless_k54), fun h0_ _ => absurd ((hoff 17 (by kernel_rfl)).symm.trans h0_) (by decide), fun _ _ h2_ _ => absurd ((up_self b 5).symm.trans h2_) (by decide), fun h0_ h1_ h2_ => ne_left hn1 (Q_NBB (hon 2 (by kernel_rfl)) h1_ hb_ h2_) (own_lt' (Q_FB2 h1_ h2_)), fun _ h1_ => absurd ((hoff 9 (by kernel_rfl)).symm.trans h1_) (by decide), fun h0_ => absurd ((hoff 19 (by kernel_rfl)).symm.trans h0_) (by decide), fun h0_ => absurd ((hoff 18 (by kernel_rfl)).symm.trans h0_) (by decide)⟩
    refine steps_cons ?_ ?_
    · rintro b a w' ⟨b1, b2, b3, b4, a1, a2, a3, a4, m18_, ha, Q_HD, Q_FB1, Q_FA1, Q_FB2, Q_FA2, Q_FB3, Q_FA3, Q_FB4, Q_FA4, Q_NBB, Q_NAB, Q_NAA, Q_HE, Q_X18_⟩ hb_ hon hoff
      refine ⟨_, rfl, fun K hK => ?_⟩
      replace ha := Aside0.mk ha
      have HD := Aside0.mk (Q_HD (hoff 19 (by kernel_rfl)))
      refine Kd.R_lit_step Kd.string w.heap.size 9 (by rfl) (N := 9) rfl (xs := ([] : List ByteArray)) (inner := []) (ok := fun _ => True) (okp := fun _ => True) (w0 := w) ?hr (Reps.none _ _) (fun _ hk => hk) trivial HD.out.bel HD.out.base_le (by simp) ?_
      (case hr => first | (go_simp; done) | (go_simp; rfl))
      intro v1 w1 hr1 _ hg1 hn1
      have hb1 := below_of_none hg1
      refine hK.out _ _ ⟨b1, v1, b3, b4, a1, a2, a3, a4, m18_, (by rw [ha.out]; exact putSel_upk 4 hb_ rfl rfl rfl), fun _ => HD.out.step hb1, fun h0_ h1_ => Kd.R_below (Q_FB1 h0_ h1_) hb1, fun h0_ h1_ => Kd.R_below (Q_FA1 h0_ h1_) hb1, fun _ _ => hr1, fun h0_ _ => absurd ((hoff 9 (by kernel_rfl)).symm.trans h0_) (by decide), fun h0_ h1_ => Kd.R_below (Q_FB3 h0_ h1_) hb1, fun h0_ _ => absurd ((hoff 13 (by kernel_rfl)).symm.trans h0_) (by decide), fun h0_ h1_ => Kd.R_below (Q_FB4 h0_ h1_) hb1, fun h0_ _ => absurd ((hoff 17 (by kernel_rfl)).symm.trans h0_) (by decide), fun h0_ h1_ h2_ h3_ => own_apart (own_lt' (Q_FB1 h0_ h2_)) (own_new hn1), fun h0_ h1_ h2_ => own_apart (own_lt' (Q_FA1 h0_ (hoff 19 (by kernel_rfl)))) (own_new hn1), fun _ h1_ => absurd ((hoff 9 (by kernel_rfl)).symm.trans h1_) (by decide), fun h0_ => absurd ((hoff 19 (by kernel_rfl)).symm.trans h0_) (by decide), fun h0_ => absurd ((hoff 18 (by kernel_rfl)).symm.trans h0_) (by decide)⟩
    refine steps_cons ?_ ?_
    · rintro b a w' ⟨b1, b2, b3, b4, a1, a2, a3, a4, m18_, ha, Q_HD, Q_FB1, Q_FA1, Q_FB2, Q_FA2, Q_FB3, Q_FA3, Q_FB4, Q_FA4, Q_NBB, Q_NAB, Q_NAA, Q_HE, Q_X18_⟩ hb_ hon hoff
      refine ⟨_, rfl, fun K hK => ?_⟩
      have e10 : a.tmps[10]? = some (.pointer (some ⟨g1, 2, none⟩)) := by rw [ha]; exact (putSel_off rfl).trans rfl
      replace ha := Aside0.mk ha
      have HD := Aside0.mk (Q_HD (hoff 19 (by kernel_rfl)))
      refine value_ (w1 := w') (v := .slice M.A2 D.l2.length M.c2) (by rfl) rfl (HD.out.run_cell 1 rfl 2 rfl rfl (eval_of e10) Try.underlying24 rfl) ?_
      refine hK.out _ _ ⟨b1, b2, b3, b4, a1, a2, a3, a4, m18_, (by rw [ha.out]; exact putSel_upk 5 hb_ rfl rfl rfl), fun _ => HD.out, fun h0_ h1_ => (Q_FB1 h0_ h1_), fun h0_ h1_ => (Q_FA1 h0_ h1_), fun h0_ h1_ => (Q_FB2 h0_ h1_), fun h0_ _ => absurd ((hoff 9 (by kernel_rfl)).symm.trans h0_) (by decide), fun h0_ h1_ => (Q_FB3 h0_ h1_), fun h0_ _ => absurd ((hoff 13 (by kernel_rfl)).symm.trans h0_) (by decide), fun h0_ h1_ => (Q_FB4 h0_ h1_), fun h0_ _ => absurd ((hoff 17 (by kernel_rfl)).symm.trans h0_) (by decide), fun h0_ h1_ h2_ h3_ => (Q_NBB h0_ h1_ h2_ h3_), fun h0_ h1_ h2_ => (Q_NAB h0_ h1_ h2_), fun _ h1_ => absurd ((hoff 9 (by kernel_rfl)).symm.trans h1_) (by decide), fun h0_ => absurd ((hoff 19 (by kernel_rfl)).symm.trans h0_) (by decide), fun h0_ => absurd ((hoff 18 (by kernel_rfl)).symm.trans h0_) (by decide)⟩
    refine steps_cons ?_ ?_
    · rintro b a w' ⟨b1, b2, b3, b4, a1, a2, a3, a4, m18_, ha, Q_HD, Q_FB1, Q_FA1, Q_FB2, Q_FA2, Q_FB3, Q_FA3, Q_FB4, Q_FA4, Q_NBB, Q_NAB, Q_NAA, Q_HE, Q_X18_⟩ hb_ hon hoff
      refine ⟨_, rfl, fun K hK => ?_⟩
      have e9 : a.tmps[9]? = some (b2) := by rw [ha]; exact putSel_on (e := (6, 9, b2)) 4 rfl rfl (hon 6 (by kernel_rfl)) rfl
      have e11 : a.tmps[11]? = some (.slice M.A2 D.l2.length M.c2) := by rw [ha]; exact putSel_on (e := (8, 11, .slice M.A2 D.l2.length M.c2)) 5 rfl rfl (hon 8 (by kernel_rfl)) rfl
      replace ha := Aside0.mk ha
      have HD := Aside0.mk (Q_HD (hoff 19 (by kernel_rfl)))
      have FA1 := Aside0.mk (Q_FA1 (hon 5 (by kernel_rfl)) (hoff 19 (by kernel_rfl)))
      have FB2 := Aside0.mk (Q_FB2 (hon 6 (by kernel_rfl)) hb_)
      have NAB := Aside0.mk (Q_NAB (hon 5 (by kernel_rfl)) (hon 6 (by kernel_rfl)) hb_)
      refine Kd.R_append_rows_step Kd.string (w0 := w) w.heap.size (by rfl) (.tmp 9) (.tmp 11) 24 9 (.string ⟨#[]⟩) 16 rfl Try.underlying24 infoL9 rfl (by decide) (by omega) b2 [] D.l2 M.A2 D.l2.length M.c2 (fun _ => True) (fun _ => False) (eval_of e9) (eval_of e11) FB2.out (HD.out.C HR.out.r2) (fun _ _ h => h) (fun _ h => h.elim) (fun _ _ => trivial) HD.out.bel HD.out.base_le ?hl ?_
      (case hl => have := HF.out.h2; simp only [List.length_nil]; omega)
      intro v1 w1 hr1 _ hg1 hn1
      rw [List.nil_append] at hr1
      refine hK.out _ _ ⟨b1, b2, b3, b4, a1, v1, a3, a4, m18_, (by rw [ha.out]; exact putSel_upk 6 hb_ rfl rfl rfl), fun _ => HD.out.grown2 hg1 (own_ge2 FB2.out (HD.out.box 0 rfl) (HD.out.box 1 rfl) (by decide)), fun _ h1_ => absurd ((hon 5 (by kernel_rfl)).symm.trans h1_) (by decide), fun _ _ => R_far_ne' FA1.out hg1 (NAB.out) (ownerless_string), fun _ h1_ => absurd ((up_self b 9).symm.trans h1_) (by decide), fun _ _ => hr1, fun h0_ h1_ => R_far_types (Q_FB3 h0_ h1_) FB2.out (by decide) hg1 (ownerless_bool), fun h0_ _ => absurd ((hoff 13 (by kernel_rfl)).symm.trans h0_) (by decide), fun h0_ h1_ => R_far_types (Q_FB4 h0_ h1_) FB2.out (by decide) hg1 (ownerless_k54), fun h0_ _ => absurd ((hoff 17 (by kernel_rfl)).symm.trans h0_) (by decide), fun _ _ _ h3_ => absurd ((up_self b 9).symm.trans h3_) (by decide), fun _ _ h2_ => absurd ((up_self b 9).symm.trans h2_) (by decide), fun _ _ => ne_right hn1 NAB.out (own_lt' FA1.out), fun h0_ => absurd ((hoff 19 (by kernel_rfl)).symm.trans h0_) (by decide), fun h0_ => absurd ((hoff 18 (by kernel_rfl)).symm.trans h0_) (by decide)⟩
    refine steps_cons ?_ ?_
    · rintro b a w' ⟨b1, b2, b3, b4, a1, a2, a3, a4, m18_, ha, Q_HD, Q_FB1, Q_FA1, Q_FB2, Q_FA2, Q_FB3, Q_FA3, Q_FB4, Q_FA4, Q_NBB, Q_NAB, Q_NAA, Q_HE, Q_X18_⟩ hb_ hon hoff
      refine ⟨_, rfl, fun K hK => ?_⟩
      replace ha := Aside0.mk ha
      have HD := Aside0.mk (Q_HD (hoff 19 (by kernel_rfl)))
      refine Kd.R_lit_step Kd.bool w.heap.size 4 (by rfl) (N := 13) rfl (xs := ([] : List Bool)) (inner := []) (ok := fun _ => True) (okp := fun _ => True) (w0 := w) ?hr (Reps.none _ _) (fun _ hk => hk) trivial HD.out.bel HD.out.base_le (by simp) ?_
      (case hr => first | (go_simp; done) | (go_simp; rfl))
      intro v1 w1 hr1 _ hg1 hn1
      have hb1 := below_of_none hg1
      refine hK.out _ _ ⟨b1, b2, v1, b4, a1, a2, a3, a4, m18_, (by rw [ha.out]; exact putSel_upk 7 hb_ rfl rfl rfl), fun _ => HD.out.step hb1, fun h0_ h1_ => Kd.R_below (Q_FB1 h0_ h1_) hb1, fun h0_ h1_ => Kd.R_below (Q_FA1 h0_ h1_) hb1, fun h0_ h1_ => Kd.R_below (Q_FB2 h0_ h1_) hb1, fun h0_ h1_ => Kd.R_below (Q_FA2 h0_ h1_) hb1, fun _ _ => hr1, fun h0_ _ => absurd ((hoff 13 (by kernel_rfl)).symm.trans h0_) (by decide), fun h0_ h1_ => Kd.R_below (Q_FB4 h0_ h1_) hb1, fun h0_ _ => absurd ((hoff 17 (by kernel_rfl)).symm.trans h0_) (by decide), fun h0_ h1_ h2_ h3_ => (Q_NBB h0_ h1_ h2_ h3_), fun h0_ h1_ h2_ => (Q_NAB h0_ h1_ h2_), fun h0_ h1_ => (Q_NAA h0_ h1_), fun h0_ => absurd ((hoff 19 (by kernel_rfl)).symm.trans h0_) (by decide), fun h0_ => absurd ((hoff 18 (by kernel_rfl)).symm.trans h0_) (by decide)⟩
    refine steps_cons ?_ ?_
    · rintro b a w' ⟨b1, b2, b3, b4, a1, a2, a3, a4, m18_, ha, Q_HD, Q_FB1, Q_FA1, Q_FB2, Q_FA2, Q_FB3, Q_FA3, Q_FB4, Q_FA4, Q_NBB, Q_NAB, Q_NAA, Q_HE, Q_X18_⟩ hb_ hon hoff
      refine ⟨_, rfl, fun K hK => ?_⟩
      have e14 : a.tmps[14]? = some (.pointer (some ⟨g1, 3, none⟩)) := by rw [ha]; exact (putSel_off rfl).trans rfl
      replace ha := Aside0.mk ha
      have HD := Aside0.mk (Q_HD (hoff 19 (by kernel_rfl)))
      refine value_ (w1 := w') (v := .slice M.A3 D.l3.length M.c3) (by rfl) rfl (HD.out.run_cell 1 rfl 3 rfl rfl (eval_of e14) Try.underlying25 rfl) ?_
      refine hK.out _ _ ⟨b1, b2, b3, b4, a1, a2, a3, a4, m18_, (by rw [ha.out]; exact putSel_upk 8 hb_ rfl rfl rfl), fun _ => HD.out, fun h0_ h1_ => (Q_FB1 h0_ h1_), fun h0_ h1_ => (Q_FA1 h0_ h1_), fun h0_ h1_ => (Q_FB2 h0_ h1_), fun h0_ h1_ => (Q_FA2 h0_ h1_), fun h0_ h1_ => (Q_FB3 h0_ h1_), fun h0_ _ => absurd ((hoff 13 (by kernel_rfl)).symm.trans h0_) (by decide), fun h0_ h1_ => (Q_FB4 h0_ h1_), fun h0_ _ => absurd ((hoff 17 (by kernel_rfl)).symm.trans h0_) (by decide), fun h0_ h1_ h2_ h3_ => (Q_NBB h0_ h1_ h2_ h3_), fun h0_ h1_ h2_ => (Q_NAB h0_ h1_ h2_), fun h0_ h1_ => (Q_NAA h0_ h1_), fun h0_ => absurd ((hoff 19 (by kernel_rfl)).symm.trans h0_) (by decide), fun h0_ => absurd ((hoff 18 (by kernel_rfl)).symm.trans h0_) (by decide)⟩
    refine steps_cons ?_ ?_
    · rintro b a w' ⟨b1, b2, b3, b4, a1, a2, a3, a4, m18_, ha, Q_HD, Q_FB1, Q_FA1, Q_FB2, Q_FA2, Q_FB3, Q_FA3, Q_FB4, Q_FA4, Q_NBB, Q_NAB, Q_NAA, Q_HE, Q_X18_⟩ hb_ hon hoff
      refine ⟨_, rfl, fun K hK => ?_⟩
      have e13 : a.tmps[13]? = some (b3) := by rw [ha]; exact putSel_on (e := (10, 13, b3)) 7 rfl rfl (hon 10 (by kernel_rfl)) rfl
      have e15 : a.tmps[15]? = some (.slice M.A3 D.l3.length M.c3) := by rw [ha]; exact putSel_on (e := (12, 15, .slice M.A3 D.l3.length M.c3)) 8 rfl rfl (hon 12 (by kernel_rfl)) rfl
      replace ha := Aside0.mk ha
      have HD := Aside0.mk (Q_HD (hoff 19 (by kernel_rfl)))
      have FA1 := Aside0.mk (Q_FA1 (hon 5 (by kernel_rfl)) (hoff 19 (by kernel_rfl)))
      have FA2 := Aside0.mk (Q_FA2 (hon 9 (by kernel_rfl)) (hoff 19 (by kernel_rfl)))
      have FB3 := Aside0.mk (Q_FB3 (hon 10 (by kernel_rfl)) hb_)
      have NAA := Aside0.mk (Q_NAA (hon 5 (by kernel_rfl)) (hon 9 (by kernel_rfl)))
      refine Kd.R_append_rows_step Kd.bool (w0 := w) w.heap.size (by rfl) (.tmp 13) (.tmp 15) 25 4 (.bool false) 1 rfl Try.underlying25 infoL4 rfl (by decide) (by omega) b3 [] D.l3 M.A3 D.l3.length M.c3 (fun _ => True) (fun _ => False) (eval_of e13) (eval_of e15) FB3.out (HD.out.C HR.out.r3) (fun _ _ h => h) (fun _ h => h.elim) (fun _ _ => trivial) HD.out.bel HD.out.base_le ?hl ?_
      (case hl => have := HF.out.h3; simp only [List.length_nil]; omega)
      intro v1 w1 hr1 _ hg1 hn1
      rw [List.nil_append] at hr1
      refine hK.out _ _ ⟨b1, b2, b3, b4, a1, a2, v1, a4, m18_, (by rw [ha.out]; exact putSel_upk 9 hb_ rfl rfl rfl), fun _ => HD.out.grown2 hg1 (own_ge2 FB3.out (HD.out.box 0 rfl) (HD.out.box 1 rfl) (by decide)), fun _ h1_ => absurd ((hon 5 (by kernel_rfl)).symm.trans h1_) (by decide), fun _ _ => R_far_types FA1.out FB3.out (by decide) hg1 (ownerless_string), fun _ h1_ => absurd ((hon 9 (by kernel_rfl)).symm.trans h1_) (by decide), fun _ _ => R_far_types FA2.out FB3.out (by decide) hg1 (ownerless_string), fun _ h1_ => absurd ((up_self b 13).symm.trans h1_) (by decide), fun _ _ => hr1, fun h0_ h1_ => R_far_types (Q_FB4 h0_ h1_) FB3.out (by decide) hg1 (ownerless_k54), fun h0_ _ => absurd ((hoff 17 (by kernel_rfl)).symm.trans h0_) (by decide), fun _ _ h2_ _ => absurd ((hon 5 (by kernel_rfl)).symm.trans h2_) (by decide), fun _ _ h2_ => absurd ((hon 9 (by kernel_rfl)).symm.trans h2_) (by decide), fun _ _ => NAA.out, fun h0_ => absurd ((hoff 19 (by kernel_rfl)).symm.trans h0_) (by decide), fun h0_ => absurd ((hoff 18 (by kernel_rfl)).symm.trans h0_) (by decide)⟩
    refine steps_cons ?_ ?_
    · rintro b a w' ⟨b1, b2, b3, b4, a1, a2, a3, a4, m18_, ha, Q_HD, Q_FB1, Q_FA1, Q_FB2, Q_FA2, Q_FB3, Q_FA3, Q_FB4, Q_FA4, Q_NBB, Q_NAB, Q_NAA, Q_HE, Q_X18_⟩ hb_ hon hoff
      refine ⟨_, rfl, fun K hK => ?_⟩
      replace ha := Aside0.mk ha
      have HD := Aside0.mk (Q_HD (hoff 19 (by kernel_rfl)))
      refine Kd.R_lit_step k54 w.heap.size 54 (by rfl) (N := 17) rfl (xs := ([] : List S54)) (inner := []) (ok := fun _ => True) (okp := fun _ => True) (w0 := w) ?hr (Reps.none _ _) (fun _ hk => hk) trivial HD.out.bel HD.out.base_le (by simp) ?_
      (case hr => first | (go_simp; done) | (go_simp; rfl))
      intro v1 w1 hr1 _ hg1 hn1
      have hb1 := below_of_none hg1
      refine hK.out _ _ ⟨b1, b2, b3, v1, a1, a2, a3, a4, m18_, (by rw [ha.out]; exact putSel_upk 10 hb_ rfl rfl rfl), fun _ => HD.out.step hb1, fun h0_ h1_ => Kd.R_below (Q_FB1 h0_ h1_) hb1, fun h0_ h1_ => Kd.R_below (Q_FA1 h0_ h1_) hb1, fun h0_ h1_ => Kd.R_below (Q_FB2 h0_ h1_) hb1, fun h0_ h1_ => Kd.R_below (Q_FA2 h0_ h1_) hb1, fun h0_ h1_ => Kd.R_below (Q_FB3 h0_ h1_) hb1, fun h0_ h1_ => Kd.R_below (Q_FA3 h0_ h1_) hb1, fun _ _ => hr1, fun h0_ _ => absurd ((hoff 17 (by kernel_rfl)).symm.trans h0_) (by decide), fun h0_ h1_ h2_ h3_ => (Q_NBB h0_ h1_ h2_ h3_), fun h0_ h1_ h2_ => (Q_NAB h0_ h1_ h2_), fun h0_ h1_ => (Q_NAA h0_ h1_), fun h0_ => absurd ((hoff 19 (by kernel_rfl)).symm.trans h0_) (by decide), fun h0_ => absurd ((hoff 18 (by kernel_rfl)).symm.trans h0_) (by decide)⟩
    refine steps_cons ?_ ?_
    · rintro b a w' ⟨b1, b2, b3, b4, a1, a2, a3, a4, m18_, ha, Q_HD, Q_FB1, Q_FA1, Q_FB2, Q_FA2, Q_FB3, Q_FA3, Q_FB4, Q_FA4, Q_NBB, Q_NAB, Q_NAA, Q_HE, Q_X18_⟩ hb_ hon hoff
      refine ⟨_, rfl, fun K hK => ?_⟩
      have e18 : a.tmps[18]? = some (.pointer (some ⟨g1, 4, none⟩)) := by rw [ha]; exact (putSel_off rfl).trans rfl
      replace ha := Aside0.mk ha
      have HD := Aside0.mk (Q_HD (hoff 19 (by kernel_rfl)))
      refine value_ (w1 := w') (v := .slice M.A4 D.l4.length M.c4) (by rfl) rfl (HD.out.run_cell 1 rfl 4 rfl rfl (eval_of e18) Try.underlying26 rfl) ?_
      refine hK.out _ _ ⟨b1, b2, b3, b4, a1, a2, a3, a4, m18_, (by rw [ha.out]; exact putSel_upk 11 hb_ rfl rfl rfl), fun _ => HD.out, fun h0_ h1_ => (Q_FB1 h0_ h1_), fun h0_ h1_ => (Q_FA1 h0_ h1_), fun h0_ h1_ => (Q_FB2 h0_ h1_), fun h0_ h1_ => (Q_FA2 h0_ h1_), fun h0_ h1_ => (Q_FB3 h0_ h1_), fun h0_ h1_ => (Q_FA3 h0_ h1_), fun h0_ h1_ => (Q_FB4 h0_ h1_), fun h0_ _ => absurd ((hoff 17 (by kernel_rfl)).symm.trans h0_) (by decide), fun h0_ h1_ h2_ h3_ => (Q_NBB h0_ h1_ h2_ h3_), fun h0_ h1_ h2_ => (Q_NAB h0_ h1_ h2_), fun h0_ h1_ => (Q_NAA h0_ h1_), fun h0_ => absurd ((hoff 19 (by kernel_rfl)).symm.trans h0_) (by decide), fun h0_ => absurd ((hoff 18 (by kernel_rfl)).symm.trans h0_) (by decide)⟩
    refine steps_cons ?_ ?_
    · rintro b a w' ⟨b1, b2, b3, b4, a1, a2, a3, a4, m18_, ha, Q_HD, Q_FB1, Q_FA1, Q_FB2, Q_FA2, Q_FB3, Q_FA3, Q_FB4, Q_FA4, Q_NBB, Q_NAB, Q_NAA, Q_HE, Q_X18_⟩ hb_ hon hoff
      refine ⟨_, rfl, fun K hK => ?_⟩
      have e17 : a.tmps[17]? = some (b4) := by rw [ha]; exact putSel_on (e := (14, 17, b4)) 10 rfl rfl (hon 14 (by kernel_rfl)) rfl
      have e19 : a.tmps[19]? = some (.slice M.A4 D.l4.length M.c4) := by rw [ha]; exact putSel_on (e := (16, 19, .slice M.A4 D.l4.length M.c4)) 11 rfl rfl (hon 16 (by kernel_rfl)) rfl
      replace ha := Aside0.mk ha
      have HD := Aside0.mk (Q_HD (hoff 19 (by kernel_rfl)))
      have FA1 := Aside0.mk (Q_FA1 (hon 5 (by kernel_rfl)) (hoff 19 (by kernel_rfl)))
      have FA2 := Aside0.mk (Q_FA2 (hon 9 (by kernel_rfl)) (hoff 19 (by kernel_rfl)))
      have FA3 := Aside0.mk (Q_FA3 (hon 13 (by kernel_rfl)) (hoff 19 (by kernel_rfl)))
      have FB4 := Aside0.mk (Q_FB4 (hon 14 (by kernel_rfl)) hb_)
      have NAA := Aside0.mk (Q_NAA (hon 5 (by kernel_rfl)) (hon 9 (by kernel_rfl)))
      refine Kd.R_append_rows_step k54 (w0 := w) w.heap.size (by rfl) (.tmp 17) (.tmp 19) 26 54 (.agg #[.bool false, .int .i64 0, .string ⟨#[]⟩]) 32 rfl Try.underlying26 infoL54 rfl (by decide) (by omega) b4 [] D.l4 M.A4 D.l4.length M.c4 (fun _ => True) (fun _ => False) (eval_of e17) (eval_of e19) FB4.out (HD.out.C HR.out.r4) (fun _ _ h => h) (fun _ h => h.elim) (fun _ _ => trivial) HD.out.bel HD.out.base_le ?hl ?_
      (case hl => have := HF.out.h4; simp only [List.length_nil]; omega)
      intro v1 w1 hr1 _ hg1 hn1
      rw [List.nil_append] at hr1
      refine hK.out _ _ ⟨b1, b2, b3, b4, a1, a2, a3, v1, m18_, (by rw [ha.out]; exact putSel_upk 12 hb_ rfl rfl rfl), fun _ => HD.out.grown2 hg1 (own_ge2 FB4.out (HD.out.box 0 rfl) (HD.out.box 1 rfl) (by decide)), fun _ h1_ => absurd ((hon 5 (by kernel_rfl)).symm.trans h1_) (by decide), fun _ _ => R_far_types FA1.out FB4.out (by decide) hg1 (ownerless_string), fun _ h1_ => absurd ((hon 9 (by kernel_rfl)).symm.trans h1_) (by decide), fun _ _ => R_far_types FA2.out FB4.out (by decide) hg1 (ownerless_string), fun _ h1_ => absurd ((hon 13 (by kernel_rfl)).symm.trans h1_) (by decide), fun _ _ => R_far_types FA3.out FB4.out (by decide) hg1 (ownerless_bool), fun _ h1_ => absurd ((up_self b 17).symm.trans h1_) (by decide), fun _ _ => hr1, fun _ _ h2_ _ => absurd ((hon 5 (by kernel_rfl)).symm.trans h2_) (by decide), fun _ _ h2_ => absurd ((hon 9 (by kernel_rfl)).symm.trans h2_) (by decide), fun _ _ => NAA.out, fun h0_ => absurd ((hoff 19 (by kernel_rfl)).symm.trans h0_) (by decide), fun h0_ => absurd ((hoff 18 (by kernel_rfl)).symm.trans h0_) (by decide)⟩
    refine steps_cons ?_ ?_
    · rintro b a w' ⟨b1, b2, b3, b4, a1, a2, a3, a4, m18_, ha, Q_HD, Q_FB1, Q_FA1, Q_FB2, Q_FA2, Q_FB3, Q_FA3, Q_FB4, Q_FA4, Q_NBB, Q_NAB, Q_NAA, Q_HE, Q_X18_⟩ hb_ hon hoff
      refine ⟨_, rfl, fun K hK => ?_⟩
      have e4 : a.tmps[4]? = some (.int .i64 D.st) := by rw [ha]; exact putSel_on (e := (1, 4, .int .i64 D.st)) 0 rfl rfl (hon 1 (by kernel_rfl)) rfl
      have e8 : a.tmps[8]? = some (a1) := by rw [ha]; exact putSel_on (e := (5, 8, a1)) 3 rfl rfl (hon 5 (by kernel_rfl)) rfl
      have e12 : a.tmps[12]? = some (a2) := by rw [ha]; exact putSel_on (e := (9, 12, a2)) 6 rfl rfl (hon 9 (by kernel_rfl)) rfl
      have e16 : a.tmps[16]? = some (a3) := by rw [ha]; exact putSel_on (e := (13, 16, a3)) 9 rfl rfl (hon 13 (by kernel_rfl)) rfl
      have e20 : a.tmps[20]? = some (a4) := by rw [ha]; exact putSel_on (e := (17, 20, a4)) 12 rfl rfl (hon 17 (by kernel_rfl)) rfl
      replace ha := Aside0.mk ha
      have HD := Aside0.mk (Q_HD (hoff 19 (by kernel_rfl)))
      have FA1 := Aside0.mk (Q_FA1 (hon 5 (by kernel_rfl)) (hoff 19 (by kernel_rfl)))
      have FA2 := Aside0.mk (Q_FA2 (hon 9 (by kernel_rfl)) (hoff 19 (by kernel_rfl)))
      have FA3 := Aside0.mk (Q_FA3 (hon 13 (by kernel_rfl)) (hoff 19 (by kernel_rfl)))
      have FA4 := Aside0.mk (Q_FA4 (hon 17 (by kernel_rfl)) (hoff 19 (by kernel_rfl)))
      have NAA := Aside0.mk (Q_NAA (hon 5 (by kernel_rfl)) (hon 9 (by kernel_rfl)))
      obtain ⟨p1, q1, rfl⟩ := Kd.R_slice FA1.out
      obtain ⟨p2, q2, rfl⟩ := Kd.R_slice FA2.out
      obtain ⟨p3, q3, rfl⟩ := Kd.R_slice FA3.out
      obtain ⟨p4, q4, rfl⟩ := Kd.R_slice FA4.out
      refine value_ (w1 := w') (v := .agg #[.int .i64 D.st, (.slice p1 D.l1.length q1), (.slice p2 D.l2.length q2), (.slice p3 D.l3.length q3), (.slice p4 D.l4.length q4)]) (by rfl) rfl ?_ ?_
      · go_simp
        (try simp only [i64_w])
        try rfl
      refine hK.out _ _ ⟨b1, b2, b3, b4, (.slice p1 D.l1.length q1), (.slice p2 D.l2.length q2), (.slice p3 D.l3.length q3), (.slice p4 D.l4.length q4), (.agg #[.int .i64 D.st, (.slice p1 D.l1.length q1), (.slice p2 D.l2.length q2), (.slice p3 D.l3.length q3), (.slice p4 D.l4.length q4)]), (by rw [ha.out]; exact putSel_upk 13 hb_ rfl rfl rfl), fun _ => HD.out, fun _ h1_ => absurd ((hon 5 (by kernel_rfl)).symm.trans h1_) (by decide), fun _ _ => FA1.out, fun _ h1_ => absurd ((hon 9 (by kernel_rfl)).symm.trans h1_) (by decide), fun _ _ => FA2.out, fun _ h1_ => absurd ((hon 13 (by kernel_rfl)).symm.trans h1_) (by decide), fun _ _ => FA3.out, fun _ h1_ => absurd ((hon 17 (by kernel_rfl)).symm.trans h1_) (by decide), fun _ _ => FA4.out, fun _ _ h2_ _ => absurd ((hon 5 (by kernel_rfl)).symm.trans h2_) (by decide), fun _ _ h2_ => absurd ((hon 9 (by kernel_rfl)).symm.trans h2_) (by decide), fun _ _ => NAA.out, fun h0_ => absurd ((hoff 19 (by kernel_rfl)).symm.trans h0_) (by decide), fun _ => rfl⟩
    refine steps_cons ?_ ?_
    · rintro b a w' ⟨b1, b2, b3, b4, a1, a2, a3, a4, m18_, ha, Q_HD, Q_FB1, Q_FA1, Q_FB2, Q_FA2, Q_FB3, Q_FA3, Q_FB4, Q_FA4, Q_NBB, Q_NAB, Q_NAA, Q_HE, Q_X18_⟩ hb_ hon hoff
      refine ⟨_, rfl, fun K hK => ?_⟩
      have e2 : a.tmps[2]? = some (.pointer (some ⟨g2, 0, none⟩)) := by rw [ha]; exact (putSel_off rfl).trans rfl
      have e21 : a.tmps[21]? = some (m18_) := by rw [ha]; exact putSel_on (e := (18, 21, m18_)) 13 rfl rfl (hon 18 (by kernel_rfl)) rfl
      rw [Q_X18_ (hon 18 (by kernel_rfl))] at e21
      replace ha := Aside0.mk ha
      have HD := Aside0.mk (Q_HD hb_)
      have FA1 := Aside0.mk (Q_FA1 (hon 5 (by kernel_rfl)) hb_)
      have FA2 := Aside0.mk (Q_FA2 (hon 9 (by kernel_rfl)) hb_)
      have FA3 := Aside0.mk (Q_FA3 (hon 13 (by kernel_rfl)) hb_)
      have FA4 := Aside0.mk (Q_FA4 (hon 17 (by kernel_rfl)) hb_)
      have NAA := Aside0.mk (Q_NAA (hon 5 (by kernel_rfl)) (hon 9 (by kernel_rfl)))
      have ho : (#[.int .i64 D.st, a1, a2, a3, a4] : Array Value).all (·.oneCell') = true := by
        obtain ⟨_, _, h1⟩ := Kd.R_slice FA1.out
        obtain ⟨_, _, h2⟩ := Kd.R_slice FA2.out
        obtain ⟨_, _, h3⟩ := Kd.R_slice FA3.out
        obtain ⟨_, _, h4⟩ := Kd.R_slice FA4.out
        rw [h1, h2, h3, h4]
        simp [Value.oneCell']
      refine skip_ (by rfl) rfl (HD.out.run_st 0 rfl rfl (eval_of e2) _ (eval_of e21) hs28 rfl ho) ?_
      refine hK.out _ _ ⟨b1, b2, b3, b4, a1, a2, a3, a4, m18_, (by rw [ha.out]; exact putSel_none (v := undef) rfl), fun h0_ => absurd ((up_self b 19).symm.trans h0_) (by decide), fun _ h1_ => absurd ((hon 5 (by kernel_rfl)).symm.trans h1_) (by decide), fun _ h1_ => absurd ((up_self b 19).symm.trans h1_) (by decide), fun _ h1_ => absurd ((hon 9 (by kernel_rfl)).symm.trans h1_) (by decide), fun _ h1_ => absurd ((up_self b 19).symm.trans h1_) (by decide), fun _ h1_ => absurd ((hon 13 (by kernel_rfl)).symm.trans h1_) (by decide), fun _ h1_ => absurd ((up_self b 19).symm.trans h1_) (by decide), fun _ h1_ => absurd ((hon 17 (by kernel_rfl)).symm.trans h1_) (by decide), fun _ h1_ => absurd ((up_self b 19).symm.trans h1_) (by decide), fun _ _ h2_ _ => absurd ((hon 5 (by kernel_rfl)).symm.trans h2_) (by decide), fun _ _ h2_ => absurd ((hon 9 (by kernel_rfl)).symm.trans h2_) (by decide), fun _ _ => NAA.out, fun _ => ⟨HD.out.set_row 0 rfl _, R_set_far FA1.out (HD.out.box 0 rfl) (by decide) _ ownerless_string, R_set_far FA2.out (HD.out.box 0 rfl) (by decide) _ ownerless_string, R_set_far FA3.out (HD.out.box 0 rfl) (by decide) _ ownerless_bool, R_set_far FA4.out (HD.out.box 0 rfl) (by decide) _ ownerless_k54⟩, Q_X18_⟩
    exact steps_nil
  · rintro b a w' hall ⟨b1, b2, b3, b4, a1, a2, a3, a4, m18_, ha, Q_HD, Q_FB1, Q_FA1, Q_FB2, Q_FA2, Q_FB3, Q_FA3, Q_FB4, Q_FA4, Q_NBB, Q_NAB, Q_NAA, Q_HE, Q_X18_⟩
    clear HD
    have hb1_ := hall 1 (by kernel_rfl)
    have hb2_ := hall 2 (by kernel_rfl)
    have hb4_ := hall 4 (by kernel_rfl)
    have hb5_ := hall 5 (by kernel_rfl)
    have hb6_ := hall 6 (by kernel_rfl)
    have hb8_ := hall 8 (by kernel_rfl)
    have hb9_ := hall 9 (by kernel_rfl)
    have hb10_ := hall 10 (by kernel_rfl)
    have hb12_ := hall 12 (by kernel_rfl)
    have hb13_ := hall 13 (by kernel_rfl)
    have hb14_ := hall 14 (by kernel_rfl)
    have hb16_ := hall 16 (by kernel_rfl)
    have hb17_ := hall 17 (by kernel_rfl)
    have hb18_ := hall 18 (by kernel_rfl)
    have hb19_ := hall 19 (by kernel_rfl)
    subst ha
    obtain rfl := Q_X18_ hb18_
    simp only [putSel, hb1_, hb2_, hb4_, hb5_, hb6_, hb8_, hb9_, hb10_, hb12_, hb13_, hb14_, hb16_, hb17_, hb18_, hb19_, if_true, Act.put, List.setIfInBounds_toArray, List.set_cons_zero, List.set_cons_succ]
    clear Q_HD
    clear Q_FB1
    clear Q_FA1
    clear Q_FB2
    clear Q_FA2
    clear Q_FB3
    clear Q_FA3
    clear Q_FB4
    clear Q_FA4
    clear Q_NBB
    clear Q_NAB
    have NAA := Aside0.mk (Q_NAA hb5_ hb9_)
    clear Q_NAA
    have HE := Aside0.mk (Q_HE hb19_)
    clear Q_HE
    clear hall hb1_ hb2_ hb4_ hb5_ hb6_ hb8_ hb9_ hb10_ hb12_ hb13_ hb14_ hb16_ hb17_ hb18_ hb19_
    obtain ⟨HE1, o1, o2, o3, o4⟩ := HE.out
    go_wp2
    refine bodyPost_ret (results_cell_row rfl _ _ g2 28 _ (0, 0) _ rfl (HE1.box 0 rfl) Try.underlying28 rfl (by kernel_rfl)) rfl ?_
    have hn : ∀ k, a1.ownBlock = some k → some k ≠ a2.ownBlock := fun k hk => atom_of NAA.out hk
    have hn' : ∀ k, a2.ownBlock = some k → some k ≠ a1.ownBlock := fun k hk => atom_of' NAA.out hk
    obtain ⟨A1, c1, rfl⟩ := Kd.R_slice o1
    obtain ⟨A2, c2, rfl⟩ := Kd.R_slice o2
    obtain ⟨A3, c3, rfl⟩ := Kd.R_slice o3
    obtain ⟨A4, c4, rfl⟩ := Kd.R_slice o4
    refine ⟨⟨A1, c1, A2, c2, A3, c3, A4, c4⟩, rfl, ⟨R_base o1 (fun k hk => (own_ge o1 k hk).1) (fun k hk => ⟨own_lt' o1 k hk, hn k hk⟩), R_base o2 (fun k hk => (own_ge o2 k hk).1) (fun k hk => ⟨own_lt' o2 k hk, hn' k hk⟩), R_base o3 (fun k hk => (own_ge o3 k hk).1) (fun k hk => own_lt' o3 k hk), R_base54 o4 (fun k hk => (own_ge o4 k hk).1) (fun k hk => own_lt' o4 k hk)⟩, HE1.bel⟩
theorem gives_to {w w' : World} {e : Ending} {D : Dd} (h : Gives D w e w') : ∃ v1_ v2_ v3_ v4_ : Value, e = .returned (.agg #[.int .i64 D.st, v1_, v2_, v3_, v4_]) ∧ Kd.R Kd.string 9 w' w.heap.size (fun k_ => some k_ ≠ (v2_ : Value).ownBlock) v1_ D.l1 ∧ Kd.R Kd.string 9 w' w.heap.size (fun k_ => some k_ ≠ (v1_ : Value).ownBlock) v2_ D.l2 ∧ Kd.R Kd.bool 4 w' w.heap.size (fun _ => True) v3_ D.l3 ∧ Kd.R k54 54 w' w.heap.size (fun _ => True) v4_ D.l4 ∧ Below w.heap.size w w' := by
  obtain ⟨M, he, ho, hb⟩ := h
  exact ⟨M.s1 D, M.s2 D, M.s3 D, M.s4 D, he, Kd.R_mono ho.o1 fun _ h => h.2, Kd.R_mono ho.o2 fun _ h => h.2, Kd.R_mono ho.o3 fun _ _ => trivial, Kd.R_mono ho.o4 fun _ _ => trivial, hb⟩
end Go.Proofs.Ytkgpnloghmbmlaa.Hd
namespace Go.Proofs.Ytkgpnloghmbmlaa.Print
open Go.RowKit Go.Proofs.YtkgpnloghmbmlaaW.PrintWords Go.Proofs.Ytkgpnloghmbmlaa.Hd
def spec_l3Copy.f (a0_0 : Int) (l0_1 l0_2 : List ByteArray) (l0_3 : List Bool) (l0_4 : List S54) : Option (Int × List ByteArray × List ByteArray × List Bool × List S54) :=
  if l0_1.length ≤ 1048576 ∧ l0_2.length ≤ 1048576 ∧ l0_3.length ≤ 1048576 ∧ l0_4.length ≤ 1048576 then some (a0_0, l0_1, l0_2, l0_3, l0_4) else none
theorem spec_l3Copy.calls (a0_0 : Int) (A0_1 : Option Addr) (c0_1 : Nat) (l0_1 : List ByteArray) (A0_2 : Option Addr) (c0_2 : Nat) (l0_2 : List ByteArray) (A0_3 : Option Addr) (c0_3 : Nat) (l0_3 : List Bool) (A0_4 : Option Addr) (c0_4 : Nat) (l0_4 : List (S54)) (r1 : Int) (r2 : List ByteArray) (r3 : List ByteArray) (r4 : List Bool) (r5 : List (S54)) (w : World) (hr0_1 : Kd.C Kd.string w A0_1 l0_1.length l0_1) (hc0_1 : l0_1.length ≤ c0_1) (hr0_2 : Kd.C Kd.string w A0_2 l0_2.length l0_2) (hc0_2 : l0_2.length ≤ c0_2) (hr0_3 : Kd.C Kd.bool w A0_3 l0_3.length l0_3) (hc0_3 : l0_3.length ≤ c0_3) (hr0_4 : Kd.C k54 w A0_4 l0_4.length l0_4) (hc0_4 : l0_4.length ≤ c0_4) (h : spec_l3Copy.f a0_0 l0_1 l0_2 l0_3 l0_4 = some (r1, r2, r3, r4, r5)) :
    Calls Try.prog 80 #[.agg #[.int .i64 a0_0, .slice A0_1 l0_1.length c0_1, .slice A0_2 l0_2.length c0_2, .slice A0_3 l0_3.length c0_3, .slice A0_4 l0_4.length c0_4]] w fun e w' => ∃ v1_ v2_ v3_ v4_ : Value, e = .returned (.agg #[.int .i64 r1, v1_, v2_, v3_, v4_]) ∧ Kd.R Kd.string 9 w' w.heap.size (fun k_ => some k_ ≠ (v2_ : Value).ownBlock) v1_ r2 ∧ Kd.R Kd.string 9 w' w.heap.size (fun k_ => some k_ ≠ (v1_ : Value).ownBlock) v2_ r3 ∧ Kd.R Kd.bool 4 w' w.heap.size (fun _ => True) v3_ r4 ∧ Kd.R k54 54 w' w.heap.size (fun _ => True) v4_ r5 ∧ Below w.heap.size w w' := by
  unfold spec_l3Copy.f at h
  split at h
  · rename_i hf
    simp only [Option.some.injEq, Prod.mk.injEq] at h
    obtain ⟨rfl, rfl, rfl, rfl, rfl⟩ := h
    exact (l3Copy_call (M := ⟨A0_1, c0_1, A0_2, c0_2, A0_3, c0_3, A0_4, c0_4⟩) (D := ⟨a0_0, l0_1, l0_2, l0_3, l0_4⟩) ⟨hf.1, hf.2.1, hf.2.2.1, hf.2.2.2⟩ ⟨hr0_1, hc0_1, hr0_2, hc0_2, hr0_3, hc0_3, hr0_4, hc0_4⟩).mono fun e w' h => gives_to h
  · cases h
end Go.Proofs.Ytkgpnloghmbmlaa.Print
namespace Go.Proofs.Ytkgpnloghmbmlaa.Print
open Go.RowKit Go.Proofs.YtkgpnloghmbmlaaW.PrintWords Go.Proofs.YtkgpnloghmbmlaaW.PrintLast Go.Proofs.YtkgpnloghmbmlaaW.PrintMore
attribute [local go_sem] max2_int min2_int max_two min_two max_three min_three max_four min_four   -- for this text's walks alone
set_option linter.unusedVariables false
set_option linter.unusedSimpArgs false
def spec_DiskFlush.f (k : Nat) (a0_0 : Int) (l0_1 : List ByteArray) (l0_2 : List ByteArray) (l0_3 : List Bool) (l0_4 : List (S54)) : Option (Int × List ByteArray × List ByteArray × List Bool × (List (S54))) := (spec_DiskOk.f k a0_0 l0_1 l0_2 l0_3 l0_4).bind fun t509 => (if t509 = true then ((spec_l3Copy.f a0_0 l0_1 l0_2 l0_3 l0_4).bind fun bt510 => ((spec_l3Flush.f k bt510.1 bt510.2.1 bt510.2.2.1 bt510.2.2.2.1 bt510.2.2.2.2).bind fun bt523 => (some (bt523.1, bt523.2.1, bt523.2.2.1, bt523.2.2.2.1, bt523.2.2.2.2)))) else (some (0, ([] : List ByteArray), ([] : List ByteArray), ([] : List Bool), ([] : List (S54)))))
theorem spec_DiskFlush.mono : ∀ a0 a1 a2 a3 a4 k, LeO (spec_DiskFlush.f k a0 a1 a2 a3 a4) (spec_DiskFlush.f (k + 1) a0 a1 a2 a3 a4) := by
  intro a0 a1 a2 a3 a4 k
  unfold spec_DiskFlush.f
  repeat' first
      | (with_reducible exact spec_DiskOk.mono _ _ _ _ _ _)
      | (with_reducible exact spec_l3Flush.mono _ _ _ _ _ _)
      | (with_reducible exact LeO.refl _)
      | (with_reducible exact LeO.none _)
      | (with_reducible refine LeO.ite ?_ ?_)
      | (with_reducible refine LeO.bind ?_ (fun _ => ?_))
      | exact spec_DiskOk.mono _ _ _ _ _ _
      | exact spec_l3Flush.mono _ _ _ _ _ _
      | exact LeO.none _
      | refine LeO.ite ?_ ?_
      | refine LeO.bind ?_ (fun _ => ?_)
set_option maxHeartbeats 8000000 in
set_option maxRecDepth 100000 in
theorem spec_DiskFlush.calls (k : Nat) (a0_0 : Int) (A0_1 : Option Addr) (c0_1 : Nat) (l0_1 : List ByteArray) (A0_2 : Option Addr) (c0_2 : Nat) (l0_2 : List ByteArray) (A0_3 : Option Addr) (c0_3 : Nat) (l0_3 : List Bool) (A0_4 : Option Addr) (c0_4 : Nat) (l0_4 : List (S54)) (r1 : Int) (r2 : List ByteArray) (r3 : List ByteArray) (r4 : List Bool) (r5 : List (S54)) (w : World) (hr0_1 : Kd.C Kd.string w A0_1 l0_1.length l0_1) (hc0_1 : l0_1.length ≤ c0_1) (hr0_2 : Kd.C Kd.string w A0_2 l0_2.length l0_2) (hc0_2 : l0_2.length ≤ c0_2) (hr0_3 : Kd.C Kd.bool w A0_3 l0_3.length l0_3) (hc0_3 : l0_3.length ≤ c0_3) (hr0_4 : Kd.C k54 w A0_4 l0_4.length l0_4) (hc0_4 : l0_4.length ≤ c0_4) (h : spec_DiskFlush.f k a0_0 l0_1 l0_2 l0_3 l0_4 = some (r1, r2, r3, r4, r5)) :
    Calls Try.prog 36 #[.agg #[.int .i64 a0_0, .slice A0_1 l0_1.length c0_1, .slice A0_2 l0_2.length c0_2, .slice A0_3 l0_3.length c0_3, .slice A0_4 l0_4.length c0_4]] w fun e w' => ∃ v1_ v2_ v3_ v4_ : Value, e = .returned (.agg #[.int .i64 r1, v1_, v2_, v3_, v4_]) ∧ Kd.R Kd.string 9 w' w.heap.size (fun k_ => some k_ ≠ (v2_ : Value).ownBlock) v1_ r2 ∧ Kd.R Kd.string 9 w' w.heap.size (fun k_ => some k_ ≠ (v1_ : Value).ownBlock) v2_ r3 ∧ Kd.R Kd.bool 4 w' w.heap.size (fun _ => True) v3_ r4 ∧ Kd.R k54 54 w' w.heap.size (fun _ => True) v4_ r5 ∧ Below w.heap.size w w' := by
  have hu28 := Try.underlying28
  have HR0_1 := Aside0.mk hr0_1
  have HC0_1 := Aside0.mk hc0_1
  clear hr0_1 hc0_1
  have HR0_2 := Aside0.mk hr0_2
  have HC0_2 := Aside0.mk hc0_2
  clear hr0_2 hc0_2
  have HR0_3 := Aside0.mk hr0_3
  have HC0_3 := Aside0.mk hc0_3
  clear hr0_3 hc0_3
  have HR0_4 := Aside0.mk hr0_4
  have HC0_4 := Aside0.mk hc0_4
  clear hr0_4 hc0_4
  have HB := Aside0.mk (Below.refl w.heap.size w)
  have H : ((spec_DiskOk.f k a0_0 l0_1 l0_2 l0_3 l0_4).bind fun t509 => (if t509 = true then ((spec_l3Copy.f a0_0 l0_1 l0_2 l0_3 l0_4).bind fun bt510 => ((spec_l3Flush.f k bt510.1 bt510.2.1 bt510.2.2.1 bt510.2.2.2.1 bt510.2.2.2.2).bind fun bt523 => (some (bt523.1, bt523.2.1, bt523.2.2.1, bt523.2.2.2.1, bt523.2.2.2.2)))) else (some (0, ([] : List ByteArray), ([] : List ByteArray), ([] : List Bool), ([] : List (S54)))))) = some (r1, r2, r3, r4, r5) := h
  clear h
  replace H := Option.bind_eq_some_iff.mp H
  obtain ⟨t509, A20, H⟩ := H
  replace H : (if t509 = true then ((spec_l3Copy.f a0_0 l0_1 l0_2 l0_3 l0_4).bind fun bt510 => ((spec_l3Flush.f k bt510.1 bt510.2.1 bt510.2.2.1 bt510.2.2.2.1 bt510.2.2.2.2).bind fun bt523 => (some (bt523.1, bt523.2.1, bt523.2.2.1, bt523.2.2.2.1, bt523.2.2.2.2)))) else (some (0, ([] : List ByteArray), ([] : List ByteArray), ([] : List Bool), ([] : List (S54))))) = some (r1, r2, r3, r4, r5) := H
  have A2 := Aside0.mk A20
  clear A20
  by_cases c3 : t509 = true
  · subst c3
    have H1 : ((spec_l3Copy.f a0_0 l0_1 l0_2 l0_3 l0_4).bind fun bt510 => ((spec_l3Flush.f k bt510.1 bt510.2.1 bt510.2.2.1 bt510.2.2.2.1 bt510.2.2.2.2).bind fun bt523 => (some (bt523.1, bt523.2.1, bt523.2.2.1, bt523.2.2.2.1, bt523.2.2.2.2)))) = some (r1, r2, r3, r4, r5) := by rw [if_pos rfl] at H; exact H
    clear H
    have H := H1
    clear H1
    replace H := Option.bind_eq_some_iff.mp H
    obtain ⟨⟨t510, t511, t514, t517, t520⟩, A40, H⟩ := H
    replace H : ((spec_l3Flush.f k t510 t511 t514 t517 t520).bind fun bt523 => (some (bt523.1, bt523.2.1, bt523.2.2.1, bt523.2.2.2.1, bt523.2.2.2.2))) = some (r1, r2, r3, r4, r5) := H
    have A4 := Aside0.mk A40
    clear A40
    replace H := Option.bind_eq_some_iff.mp H
    obtain ⟨⟨t523, t524, t527, t530, t533⟩, A50, H⟩ := H
    replace H : (some (t523, t524, t527, t530, t533)) = some (r1, r2, r3, r4, r5) := H
    have A5 := Aside0.mk A50
    clear A50
    simp only [Option.some.injEq, Prod.mk.injEq] at H
    obtain ⟨rfl, rfl, rfl, rfl, rfl⟩ := H
    go_enter Try.func36, Try.ntmps36
    go_wp2_with (first | ((with_reducible refine gate_dst (N := 1) rfl ?_); refine box_event ?hg (N := 1) ?hd (cs := #[.int .i64 a0_0, .slice A0_1 l0_1.length c0_1, .slice A0_2 l0_2.length c0_2, .slice A0_3 l0_3.length c0_3, .slice A0_4 l0_4.length c0_4]) (t := 28) ?hr ?_; (case hd => rfl); (case hg => rfl); (case hr => first | (go_simp; done) | (go_simp; rfl)); intro gb507 hg w6 hbox hb; have n0_ := Aside0.mk (below_step (by repeat (first | (with_reducible first | exact HB.out | apply below_alloc | apply pw_below_drewN | apply below_drew1) | exact HB.out)) hb); have n1_ := Aside0.mk (hbox); have n2_ := Aside0.mk ((by rw [hg]; exact (below_size (by repeat (first | (with_reducible first | exact HB.out | apply below_alloc | apply pw_below_drewN | apply below_drew1) | exact HB.out))) : w.heap.size ≤ gb507)); have n3_ := Aside0.mk ((by rw [hg]; exact (below_size (by repeat (first | (with_reducible first | exact HB.out | apply below_alloc | apply pw_below_drewN | apply below_drew1) | exact HB.out))) : w.heap.size ≤ gb507)); clear HB; have HB := n0_; have BK507 := n1_; have GW507 := n2_; have GE507 := n3_; clear n0_ n1_ n2_ n3_; clear hb hbox hg) | ((with_reducible refine gate_dst (N := 2) rfl ?_); refine box_event ?hg (N := 2) ?hd (cs := #[.int .i64 0, .slice none 0 0, .slice none 0 0, .slice none 0 0, .slice none 0 0]) (t := 28) ?hr ?_; (case hd => rfl); (case hg => rfl); (case hr => first | (go_simp; done) | (go_simp; rfl)); intro gb508 hg w7 hbox hb; have n0_ := Aside0.mk (blk_below (g := gb507) (o := .cells #[.int .i64 a0_0, .slice A0_1 l0_1.length c0_1, .slice A0_2 l0_2.length c0_2, .slice A0_3 l0_3.length c0_3, .slice A0_4 l0_4.length c0_4] 28 (0, 0)) (by (with_reducible repeat (first | refine blk_drewN ?_ _ | refine blk_drew ?_ | refine blk_alloc ?_ _)); exact BK507.out) hb); have n1_ := Aside0.mk (below_step (by repeat (first | (with_reducible first | exact HB.out | apply below_alloc | apply pw_below_drewN | apply below_drew1 | refine below_set ?_ GE507.out) | exact HB.out)) hb); have n2_ := Aside0.mk (hbox); have n3_ := Aside0.mk ((by rw [hg]; exact (below_size (by repeat (first | (with_reducible first | exact HB.out | apply below_alloc | apply pw_below_drewN | apply below_drew1 | refine below_set ?_ GE507.out) | exact HB.out))) : w.heap.size ≤ gb508)); have n4_ := Aside0.mk ((by rw [hg]; exact (below_size (by repeat (first | (with_reducible first | exact HB.out | apply below_alloc | apply pw_below_drewN | apply below_drew1 | refine below_set ?_ GE507.out) | exact HB.out))) : w.heap.size ≤ gb508)); have n5_ := Aside0.mk ((by rw [hg]; exact Nat.ne_of_lt (blk_lt (g := gb507) (o := .cells #[.int .i64 a0_0, .slice A0_1 l0_1.length c0_1, .slice A0_2 l0_2.length c0_2, .slice A0_3 l0_3.length c0_3, .slice A0_4 l0_4.length c0_4] 28 (0, 0)) (by (with_reducible repeat (first | refine blk_drewN ?_ _ | refine blk_drew ?_ | refine blk_alloc ?_ _)); exact BK507.out)) : gb507 ≠ gb508)); have n6_ := Aside0.mk ((by rw [hg]; exact Nat.ne_of_gt (blk_lt (g := gb507) (o := .cells #[.int .i64 a0_0, .slice A0_1 l0_1.length c0_1, .slice A0_2 l0_2.length c0_2, .slice A0_3 l0_3.length c0_3, .slice A0_4 l0_4.length c0_4] 28 (0, 0)) (by (with_reducible repeat (first | refine blk_drewN ?_ _ | refine blk_drew ?_ | refine blk_alloc ?_ _)); exact BK507.out)) : gb508 ≠ gb507)); clear BK507; clear HB; have BK507 := n0_; have HB := n1_; have BK508 := n2_; have GW508 := n3_; have GE508 := n4_; have NB507_508 := n5_; have NB508_507 := n6_; clear n0_ n1_ n2_ n3_ n4_ n5_ n6_; clear hb hbox hg; have hnb8 := NB507_508.out; have hnc8 := NB508_507.out; have hcz9_0 : w7.cell? ⟨gb507, 0, none⟩ = some (.int .i64 a0_0) := (blk_cell BK507.out 0).trans rfl; have hcz9_1 : w7.cell? ⟨gb507, 1, none⟩ = some (.slice A0_1 l0_1.length c0_1) := (blk_cell BK507.out 1).trans rfl; have hcz9_2 : w7.cell? ⟨gb507, 2, none⟩ = some (.slice A0_2 l0_2.length c0_2) := (blk_cell BK507.out 2).trans rfl; have hcz9_3 : w7.cell? ⟨gb507, 3, none⟩ = some (.slice A0_3 l0_3.length c0_3) := (blk_cell BK507.out 3).trans rfl; have hcz9_4 : w7.cell? ⟨gb507, 4, none⟩ = some (.slice A0_4 l0_4.length c0_4) := (blk_cell BK507.out 4).trans rfl; have hfz9_0 := blk_frozen BK507.out 0; have hfz9_1 := blk_frozen BK507.out 1; have hfz9_2 := blk_frozen BK507.out 2; have hfz9_3 := blk_frozen BK507.out 3; have hfz9_4 := blk_frozen BK507.out 4) | ((with_reducible refine gate_callee (f := 26) rfl ?_); refine goesL_ (some 4) rfl rfl Try.func26 (by kernel_rfl) rfl #[.agg #[.int .i64 a0_0, .slice A0_1 l0_1.length c0_1, .slice A0_2 l0_2.length c0_2, .slice A0_3 l0_3.length c0_3, .slice A0_4 l0_4.length c0_4]] rfl (by (try simp only [List.map_toArray, List.map_cons, List.map_nil]); first | done | rfl | (simp only [List.length_drop, List.length_take]; rfl)) ?_; (with_reducible refine (spec_DiskOk.calls k a0_0 _ _ l0_1 _ _ l0_2 _ _ l0_3 _ _ l0_4 true _ ?side1 ?side2 ?side3 ?side4 ?side5 ?side6 ?side7 ?side8 A2.out).mono ?_); (case side1 => repeat (first | exact (Kd.C_below HR0_1.out HB.out) | (with_reducible refine Kd.C_alloc ?_ _) | (with_reducible refine Kd.C_drewN ?_ _) | (with_reducible refine Kd.C_drew ?_))); (case side2 => exact HC0_1.out); (case side3 => repeat (first | exact (Kd.C_below HR0_2.out HB.out) | (with_reducible refine Kd.C_alloc ?_ _) | (with_reducible refine Kd.C_drewN ?_ _) | (with_reducible refine Kd.C_drew ?_))); (case side4 => exact HC0_2.out); (case side5 => repeat (first | exact (Kd.C_below HR0_3.out HB.out) | (with_reducible refine Kd.C_alloc ?_ _) | (with_reducible refine Kd.C_drewN ?_ _) | (with_reducible refine Kd.C_drew ?_))); (case side6 => exact HC0_3.out); (case side7 => repeat (first | exact (Kd.C_below HR0_4.out HB.out) | (with_reducible refine Kd.C_alloc ?_ _) | (with_reducible refine Kd.C_drewN ?_ _) | (with_reducible refine Kd.C_drew ?_))); (case side8 => exact HC0_4.out); rintro e w10 ⟨rfl, hb⟩; refine ⟨_, rfl, ?_⟩; have n0_ := Aside0.mk (blk_below (g := gb507) (o := .cells #[.int .i64 a0_0, .slice A0_1 l0_1.length c0_1, .slice A0_2 l0_2.length c0_2, .slice A0_3 l0_3.length c0_3, .slice A0_4 l0_4.length c0_4] 28 (0, 0)) (by (with_reducible repeat (first | refine blk_drewN ?_ _ | refine blk_drew ?_ | refine blk_alloc ?_ _)); exact BK507.out) hb); have n1_ := Aside0.mk (blk_below (g := gb508) (o := .cells #[.int .i64 0, .slice none 0 0, .slice none 0 0, .slice none 0 0, .slice none 0 0] 28 (0, 0)) (by (with_reducible repeat (first | refine blk_drewN ?_ _ | refine blk_drew ?_ | refine blk_alloc ?_ _)); exact BK508.out) hb); have n2_ := Aside0.mk (below_step (by repeat (first | (with_reducible first | exact HB.out | apply below_alloc | apply pw_below_drewN | apply below_drew1 | refine below_set ?_ GE507.out | refine below_set ?_ GE508.out) | exact HB.out)) hb); clear BK507; clear BK508; clear HB; have BK507 := n0_; have BK508 := n1_; have HB := n2_; clear n0_ n1_ n2_; (try clear hb); (try clear hb2); (try clear hk); (try clear hi); have hcz11_0 : w10.cell? ⟨gb507, 0, none⟩ = some (.int .i64 a0_0) := (blk_cell BK507.out 0).trans rfl; have hcz11_1 : w10.cell? ⟨gb507, 1, none⟩ = some (.slice A0_1 l0_1.length c0_1) := (blk_cell BK507.out 1).trans rfl; have hcz11_2 : w10.cell? ⟨gb507, 2, none⟩ = some (.slice A0_2 l0_2.length c0_2) := (blk_cell BK507.out 2).trans rfl; have hcz11_3 : w10.cell? ⟨gb507, 3, none⟩ = some (.slice A0_3 l0_3.length c0_3) := (blk_cell BK507.out 3).trans rfl; have hcz11_4 : w10.cell? ⟨gb507, 4, none⟩ = some (.slice A0_4 l0_4.length c0_4) := (blk_cell BK507.out 4).trans rfl; have hfz11_0 := blk_frozen BK507.out 0; have hfz11_1 := blk_frozen BK507.out 1; have hfz11_2 := blk_frozen BK507.out 2; have hfz11_3 := blk_frozen BK507.out 3; have hfz11_4 := blk_frozen BK507.out 4) | ((with_reducible refine gate_callee (f := 80) rfl ?_); refine goesL_ (some 8) rfl rfl Try.func80 (by kernel_rfl) rfl #[.agg #[.int .i64 a0_0, .slice A0_1 l0_1.length c0_1, .slice A0_2 l0_2.length c0_2, .slice A0_3 l0_3.length c0_3, .slice A0_4 l0_4.length c0_4]] rfl (by (try simp only [List.map_toArray, List.map_cons, List.map_nil]); first | done | rfl | (simp only [List.length_drop, List.length_take]; rfl)) ?_; (with_reducible refine (spec_l3Copy.calls a0_0 _ _ l0_1 _ _ l0_2 _ _ l0_3 _ _ l0_4 t510 t511 t514 t517 t520 _ ?side1 ?side2 ?side3 ?side4 ?side5 ?side6 ?side7 ?side8 A4.out).mono ?_); (case side1 => repeat (first | exact (Kd.C_below HR0_1.out HB.out) | (with_reducible refine Kd.C_alloc ?_ _) | (with_reducible refine Kd.C_drewN ?_ _) | (with_reducible refine Kd.C_drew ?_))); (case side2 => exact HC0_1.out); (case side3 => repeat (first | exact (Kd.C_below HR0_2.out HB.out) | (with_reducible refine Kd.C_alloc ?_ _) | (with_reducible refine Kd.C_drewN ?_ _) | (with_reducible refine Kd.C_drew ?_))); (case side4 => exact HC0_2.out); (case side5 => repeat (first | exact (Kd.C_below HR0_3.out HB.out) | (with_reducible refine Kd.C_alloc ?_ _) | (with_reducible refine Kd.C_drewN ?_ _) | (with_reducible refine Kd.C_drew ?_))); (case side6 => exact HC0_3.out); (case side7 => repeat (first | exact (Kd.C_below HR0_4.out HB.out) | (with_reducible refine Kd.C_alloc ?_ _) | (with_reducible refine Kd.C_drewN ?_ _) | (with_reducible refine Kd.C_drew ?_))); (case side8 => exact HC0_4.out); rintro e w12 ⟨v512, v515, v518, v521, rfl, ho0, ho1, ho2, ho3, hb⟩; refine ⟨_, rfl, ?_⟩; have n0_ := Aside0.mk (Kd.R_lower ho0 (below_size (by repeat (first | (with_reducible first | exact HB.out | apply below_alloc | apply pw_below_drewN | apply below_drew1 | refine below_set ?_ GE507.out | refine below_set ?_ GE508.out) | exact HB.out)))); have n1_ := Aside0.mk (Kd.R_lower ho1 (below_size (by repeat (first | (with_reducible first | exact HB.out | apply below_alloc | apply pw_below_drewN | apply below_drew1 | refine below_set ?_ GE507.out | refine below_set ?_ GE508.out) | exact HB.out)))); have n2_ := Aside0.mk (Kd.R_lower ho2 (below_size (by repeat (first | (with_reducible first | exact HB.out | apply below_alloc | apply pw_below_drewN | apply below_drew1 | refine below_set ?_ GE507.out | refine below_set ?_ GE508.out) | exact HB.out)))); have n3_ := Aside0.mk (Kd.R_lower ho3 (below_size (by repeat (first | (with_reducible first | exact HB.out | apply below_alloc | apply pw_below_drewN | apply below_drew1 | refine below_set ?_ GE507.out | refine below_set ?_ GE508.out) | exact HB.out)))); have n4_ := Aside0.mk (blk_below (g := gb507) (o := .cells #[.int .i64 a0_0, .slice A0_1 l0_1.length c0_1, .slice A0_2 l0_2.length c0_2, .slice A0_3 l0_3.length c0_3, .slice A0_4 l0_4.length c0_4] 28 (0, 0)) (by (with_reducible repeat (first | refine blk_drewN ?_ _ | refine blk_drew ?_ | refine blk_alloc ?_ _)); exact BK507.out) hb); have n5_ := Aside0.mk (blk_below (g := gb508) (o := .cells #[.int .i64 0, .slice none 0 0, .slice none 0 0, .slice none 0 0, .slice none 0 0] 28 (0, 0)) (by (with_reducible repeat (first | refine blk_drewN ?_ _ | refine blk_drew ?_ | refine blk_alloc ?_ _)); exact BK508.out) hb); have n6_ := Aside0.mk (below_step (by repeat (first | (with_reducible first | exact HB.out | apply below_alloc | apply pw_below_drewN | apply below_drew1 | refine below_set ?_ GE507.out | refine below_set ?_ GE508.out) | exact HB.out)) hb); clear BK507; clear BK508; clear HB; have HO513 := n0_; have HO516 := n1_; have HO519 := n2_; have HO522 := n3_; have BK507 := n4_; have BK508 := n5_; have HB := n6_; clear n0_ n1_ n2_ n3_ n4_ n5_ n6_; (try clear hb); (try clear hb2); (try clear hk); (try clear hi); (try clear ho0); (try clear ho1); (try clear ho2); (try clear ho3); obtain ⟨Ao13, co13, eo13⟩ := Kd.R_slice HO513.out; subst eo13; obtain ⟨Ao14, co14, eo14⟩ := Kd.R_slice HO516.out; subst eo14; obtain ⟨Ao15, co15, eo15⟩ := Kd.R_slice HO519.out; subst eo15; obtain ⟨Ao16, co16, eo16⟩ := Kd.R_slice HO522.out; subst eo16) | ((with_reducible refine gate_callee (f := 79) rfl ?_); refine goesL_ (some 9) rfl rfl Try.func79 (by kernel_rfl) rfl #[.agg #[.int .i64 t510, .slice Ao13 t511.length co13, .slice Ao14 t514.length co14, .slice Ao15 t517.length co15, .slice Ao16 t520.length co16]] rfl (by (try simp only [List.map_toArray, List.map_cons, List.map_nil]); first | done | rfl | (simp only [List.length_drop, List.length_take]; rfl)) ?_; (with_reducible refine (spec_l3Flush.calls k t510 (fun k_ => some k_ = (.slice Ao13 t511.length co13 : Value).ownBlock) (.slice Ao13 t511.length co13) t511 (fun k_ => some k_ = (.slice Ao14 t514.length co14 : Value).ownBlock) (.slice Ao14 t514.length co14) t514 (fun k_ => some k_ = (.slice Ao15 t517.length co15 : Value).ownBlock) (.slice Ao15 t517.length co15) t517 (fun k_ => some k_ = (.slice Ao16 t520.length co16 : Value).ownBlock) (.slice Ao16 t520.length co16) t520 t523 t524 t527 t530 t533 w _ ?side1 ?side2 ?side3 ?side4 ?side5 ?side6 ?side7 A5.out).mono ?_); (case side1 => repeat (first | (with_reducible first | exact HB.out | apply below_alloc | apply pw_below_drewN | apply below_drew1 | refine below_set ?_ GE507.out | refine below_set ?_ GE508.out) | exact HB.out)); (case side2 => exact Kd.R_tight rfl HO513.out); (case side3 => exact fun k_ e_ => (HO513.out.1 k_ e_.symm)); (case side4 => exact Kd.R_tight rfl HO516.out); (case side5 => exact fun k_ e_ => (HO516.out.1 k_ e_.symm)); (case side6 => exact Kd.R_tight rfl HO519.out); (case side7 => exact Kd.R_tight rfl HO522.out); rintro e w17 ⟨v525, v528, v531, v534, rfl, ho0, ho1, ho2, ho3, hb, hkp⟩; refine ⟨_, rfl, ?_⟩; have n0_ := Aside0.mk (blk_kept (by (with_reducible repeat (first | refine blk_drewN ?_ _ | refine blk_drew ?_ | refine blk_alloc ?_ _)); exact BK507.out) hkp (fun hs_ => Or.elim hs_ (fun e_ => (fun e_ => (Kd.R_ne HO513.out BK507.out (by decide)) e_) e_) (fun e_ => Or.elim e_ (fun e_ => (fun e_ => (Kd.R_ne HO516.out BK507.out (by decide)) e_) e_) (fun e_ => Or.elim e_ (fun e_ => (fun e_ => (Kd.R_ne HO519.out BK507.out (by decide)) e_) e_) (fun e_ => (fun e_ => (Kd.R_ne HO522.out BK507.out (by decide)) e_) e_))))); have n1_ := Aside0.mk (blk_kept (by (with_reducible repeat (first | refine blk_drewN ?_ _ | refine blk_drew ?_ | refine blk_alloc ?_ _)); exact BK508.out) hkp (fun hs_ => Or.elim hs_ (fun e_ => (fun e_ => (Kd.R_ne HO513.out BK508.out (by decide)) e_) e_) (fun e_ => Or.elim e_ (fun e_ => (fun e_ => (Kd.R_ne HO516.out BK508.out (by decide)) e_) e_) (fun e_ => Or.elim e_ (fun e_ => (fun e_ => (Kd.R_ne HO519.out BK508.out (by decide)) e_) e_) (fun e_ => (fun e_ => (Kd.R_ne HO522.out BK508.out (by decide)) e_) e_))))); have n2_ := Aside0.mk (Kd.R_mono (ok' := fun k_ => some k_ ≠ (v528 : Value).ownBlock) ho0 (fun k_ hk_ => hk_.2)); have n3_ := Aside0.mk (Kd.R_mono (ok' := fun k_ => some k_ ≠ (v525 : Value).ownBlock) ho1 (fun k_ hk_ => hk_.2)); have n4_ := Aside0.mk (Kd.R_mono (ok' := fun k_ => True) ho2 (fun k_ hk_ => trivial)); have n5_ := Aside0.mk (Kd.R_mono (ok' := fun k_ => True) ho3 (fun k_ hk_ => trivial)); have n6_ := Aside0.mk (hb); clear BK507; clear BK508; clear HB; clear HO513; clear HO516; clear HO519; clear HO522; have BK507 := n0_; have BK508 := n1_; have HO526 := n2_; have HO529 := n3_; have HO532 := n4_; have HO535 := n5_; have HB := n6_; clear n0_ n1_ n2_ n3_ n4_ n5_ n6_; (try clear hb); (try clear hkp); (try clear ho0); (try clear ho1); (try clear ho2); (try clear ho3); have hcz18_0 : w17.cell? ⟨gb508, 0, none⟩ = some (.int .i64 0) := (blk_cell BK508.out 0).trans rfl; have hcz18_1 : w17.cell? ⟨gb508, 1, none⟩ = some (.slice none 0 0) := (blk_cell BK508.out 1).trans rfl; have hcz18_2 : w17.cell? ⟨gb508, 2, none⟩ = some (.slice none 0 0) := (blk_cell BK508.out 2).trans rfl; have hcz18_3 : w17.cell? ⟨gb508, 3, none⟩ = some (.slice none 0 0) := (blk_cell BK508.out 3).trans rfl; have hcz18_4 : w17.cell? ⟨gb508, 4, none⟩ = some (.slice none 0 0) := (blk_cell BK508.out 4).trans rfl; have hfz18_0 := blk_frozen BK508.out 0; have hfz18_1 := blk_frozen BK508.out 1; have hfz18_2 := blk_frozen BK508.out 2; have hfz18_3 := blk_frozen BK508.out 3; have hfz18_4 := blk_frozen BK508.out 4; obtain ⟨Ao19, co19, eo19⟩ := Kd.R_slice HO526.out; subst eo19; obtain ⟨Ao20, co20, eo20⟩ := Kd.R_slice HO529.out; subst eo20; obtain ⟨Ao21, co21, eo21⟩ := Kd.R_slice HO532.out; subst eo21; obtain ⟨Ao22, co22, eo22⟩ := Kd.R_slice HO535.out; subst eo22))
    refine bodyPost_ret (results_cell_row rfl _ _ gb508 28 #[.int .i64 t523, .slice Ao19 t524.length co19, .slice Ao20 t527.length co20, .slice Ao21 t530.length co21, .slice Ao22 t533.length co22] (0, 0) _ rfl (by (with_reducible repeat (first | refine blk_drewN ?_ _ | refine blk_drew ?_ | refine blk_alloc ?_ _)); refine blk_put (cs := #[.int .i64 t523, .slice Ao19 t524.length co19, .slice Ao20 t527.length co20, .slice Ao21 t530.length co21, .slice none 0 0]) ?_ 4 _ rfl; (with_reducible repeat (first | refine blk_drewN ?_ _ | refine blk_drew ?_ | refine blk_alloc ?_ _)); refine blk_put (cs := #[.int .i64 t523, .slice Ao19 t524.length co19, .slice Ao20 t527.length co20, .slice none 0 0, .slice none 0 0]) ?_ 3 _ rfl; (with_reducible repeat (first | refine blk_drewN ?_ _ | refine blk_drew ?_ | refine blk_alloc ?_ _)); refine blk_put (cs := #[.int .i64 t523, .slice Ao19 t524.length co19, .slice none 0 0, .slice none 0 0, .slice none 0 0]) ?_ 2 _ rfl; (with_reducible repeat (first | refine blk_drewN ?_ _ | refine blk_drew ?_ | refine blk_alloc ?_ _)); refine blk_put (cs := #[.int .i64 t523, .slice none 0 0, .slice none 0 0, .slice none 0 0, .slice none 0 0]) ?_ 1 _ rfl; (with_reducible repeat (first | refine blk_drewN ?_ _ | refine blk_drew ?_ | refine blk_alloc ?_ _)); refine blk_put (cs := #[.int .i64 0, .slice none 0 0, .slice none 0 0, .slice none 0 0, .slice none 0 0]) ?_ 0 _ rfl; (with_reducible repeat (first | refine blk_drewN ?_ _ | refine blk_drew ?_ | refine blk_alloc ?_ _)); exact BK508.out) Try.underlying28 rfl (by kernel_rfl)) rfl ?_
    exact ⟨_, _, _, _, by first | rfl | (simp [errW_none, errW_some] <;> rfl) | (simp [*, errW_none, errW_some] <;> rfl), by (with_reducible repeat (first | apply Kd.R_alloc | apply Kd.R_drewN | apply Kd.R_drew)); exact Kd.R_mono (Kd.R_far (p := ⟨gb508, 4, none⟩) (Kd.R_far (p := ⟨gb508, 3, none⟩) (Kd.R_far (p := ⟨gb508, 2, none⟩) (Kd.R_far (p := ⟨gb508, 1, none⟩) (Kd.R_far (p := ⟨gb508, 0, none⟩) (Kd.R_types HO526.out BK508.out (by decide)) (fun _ hk => hk.2) (.int .i64 t523)) (fun _ hk => hk.2) (.slice Ao19 t524.length co19)) (fun _ hk => hk.2) (.slice Ao20 t527.length co20)) (fun _ hk => hk.2) (.slice Ao21 t530.length co21)) (fun _ hk => hk.2) (.slice Ao22 t533.length co22)) (fun _ hk => hk.1), by (with_reducible repeat (first | apply Kd.R_alloc | apply Kd.R_drewN | apply Kd.R_drew)); exact Kd.R_mono (Kd.R_far (p := ⟨gb508, 4, none⟩) (Kd.R_far (p := ⟨gb508, 3, none⟩) (Kd.R_far (p := ⟨gb508, 2, none⟩) (Kd.R_far (p := ⟨gb508, 1, none⟩) (Kd.R_far (p := ⟨gb508, 0, none⟩) (Kd.R_types HO529.out BK508.out (by decide)) (fun _ hk => hk.2) (.int .i64 t523)) (fun _ hk => hk.2) (.slice Ao19 t524.length co19)) (fun _ hk => hk.2) (.slice Ao20 t527.length co20)) (fun _ hk => hk.2) (.slice Ao21 t530.length co21)) (fun _ hk => hk.2) (.slice Ao22 t533.length co22)) (fun _ hk => hk.1), by (with_reducible repeat (first | apply Kd.R_alloc | apply Kd.R_drewN | apply Kd.R_drew)); exact Kd.R_mono (Kd.R_far (p := ⟨gb508, 4, none⟩) (Kd.R_far (p := ⟨gb508, 3, none⟩) (Kd.R_far (p := ⟨gb508, 2, none⟩) (Kd.R_far (p := ⟨gb508, 1, none⟩) (Kd.R_far (p := ⟨gb508, 0, none⟩) (Kd.R_types HO532.out BK508.out (by decide)) (fun _ hk => hk.2) (.int .i64 t523)) (fun _ hk => hk.2) (.slice Ao19 t524.length co19)) (fun _ hk => hk.2) (.slice Ao20 t527.length co20)) (fun _ hk => hk.2) (.slice Ao21 t530.length co21)) (fun _ hk => hk.2) (.slice Ao22 t533.length co22)) (fun _ hk => trivial), by (with_reducible repeat (first | apply Kd.R_alloc | apply Kd.R_drewN | apply Kd.R_drew)); exact Kd.R_mono (Kd.R_far (p := ⟨gb508, 4, none⟩) (Kd.R_far (p := ⟨gb508, 3, none⟩) (Kd.R_far (p := ⟨gb508, 2, none⟩) (Kd.R_far (p := ⟨gb508, 1, none⟩) (Kd.R_far (p := ⟨gb508, 0, none⟩) (Kd.R_types HO535.out BK508.out (by decide)) (fun _ hk => hk.2) (.int .i64 t523)) (fun _ hk => hk.2) (.slice Ao19 t524.length co19)) (fun _ hk => hk.2) (.slice Ao20 t527.length co20)) (fun _ hk => hk.2) (.slice Ao21 t530.length co21)) (fun _ hk => hk.2) (.slice Ao22 t533.length co22)) (fun _ hk => trivial), by repeat (first | (with_reducible first | exact HB.out | apply below_alloc | apply pw_below_drewN | apply below_drew1 | refine below_set ?_ GE507.out | refine below_set ?_ GE508.out) | exact HB.out)⟩
  · replace c3 := Bool.eq_false_iff.mpr c3
    subst c3
    have H1 : (some (0, ([] : List ByteArray), ([] : List ByteArray), ([] : List Bool), ([] : List (S54)))) = some (r1, r2, r3, r4, r5) := by rw [if_neg (show ¬ (false = true) by decide)] at H; exact H
    clear H
    have H := H1
    clear H1
    simp only [Option.some.injEq, Prod.mk.injEq] at H
    obtain ⟨rfl, rfl, rfl, rfl, rfl⟩ := H
    go_enter Try.func36, Try.ntmps36
    go_wp2_with (first | ((with_reducible refine gate_dst (N := 1) rfl ?_); refine box_event ?hg (N := 1) ?hd (cs := #[.int .i64 a0_0, .slice A0_1 l0_1.length c0_1, .slice A0_2 l0_2.length c0_2, .slice A0_3 l0_3.length c0_3, .slice A0_4 l0_4.length c0_4]) (t := 28) ?hr ?_; (case hd => rfl); (case hg => rfl); (case hr => first | (go_simp; done) | (go_simp; rfl)); intro gb507 hg w23 hbox hb; have n0_ := Aside0.mk (below_step (by repeat (first | (with_reducible first | exact HB.out | apply below_alloc | apply pw_below_drewN | apply below_drew1) | exact HB.out)) hb); have n1_ := Aside0.mk (hbox); have n2_ := Aside0.mk ((by rw [hg]; exact (below_size (by repeat (first | (with_reducible first | exact HB.out | apply below_alloc | apply pw_below_drewN | apply below_drew1) | exact HB.out))) : w.heap.size ≤ gb507)); have n3_ := Aside0.mk ((by rw [hg]; exact (below_size (by repeat (first | (with_reducible first | exact HB.out | apply below_alloc | apply pw_below_drewN | apply below_drew1) | exact HB.out))) : w.heap.size ≤ gb507)); clear HB; have HB := n0_; have BK507 := n1_; have GW507 := n2_; have GE507 := n3_; clear n0_ n1_ n2_ n3_; clear hb hbox hg) | ((with_reducible refine gate_dst (N := 2) rfl ?_); refine box_event ?hg (N := 2) ?hd (cs := #[.int .i64 0, .slice none 0 0, .slice none 0 0, .slice none 0 0, .slice none 0 0]) (t := 28) ?hr ?_; (case hd => rfl); (case hg => rfl); (case hr => first | (go_simp; done) | (go_simp; rfl)); intro gb508 hg w24 hbox hb; have n0_ := Aside0.mk (blk_below (g := gb507) (o := .cells #[.int .i64 a0_0, .slice A0_1 l0_1.length c0_1, .slice A0_2 l0_2.length c0_2, .slice A0_3 l0_3.length c0_3, .slice A0_4 l0_4.length c0_4] 28 (0, 0)) (by (with_reducible repeat (first | refine blk_drewN ?_ _ | refine blk_drew ?_ | refine blk_alloc ?_ _)); exact BK507.out) hb); have n1_ := Aside0.mk (below_step (by repeat (first | (with_reducible first | exact HB.out | apply below_alloc | apply pw_below_drewN | apply below_drew1 | refine below_set ?_ GE507.out) | exact HB.out)) hb); have n2_ := Aside0.mk (hbox); have n3_ := Aside0.mk ((by rw [hg]; exact (below_size (by repeat (first | (with_reducible first | exact HB.out | apply below_alloc | apply pw_below_drewN | apply below_drew1 | refine below_set ?_ GE507.out) | exact HB.out))) : w.heap.size ≤ gb508)); have n4_ := Aside0.mk ((by rw [hg]; exact (below_size (by repeat (first | (with_reducible first | exact HB.out | apply below_alloc | apply pw_below_drewN | apply below_drew1 | refine below_set ?_ GE507.out) | exact HB.out))) : w.heap.size ≤ gb508)); have n5_ := Aside0.mk ((by rw [hg]; exact Nat.ne_of_lt (blk_lt (g := gb507) (o := .cells #[.int .i64 a0_0, .slice A0_1 l0_1.length c0_1, .slice A0_2 l0_2.length c0_2, .slice A0_3 l0_3.length c0_3, .slice A0_4 l0_4.length c0_4] 28 (0, 0)) (by (with_reducible repeat (first | refine blk_drewN ?_ _ | refine blk_drew ?_ | refine blk_alloc ?_ _)); exact BK507.out)) : gb507 ≠ gb508)); have n6_ := Aside0.mk ((by rw [hg]; exact Nat.ne_of_gt (blk_lt (g := gb507) (o := .cells #[.int .i64 a0_0, .slice A0_1 l0_1.length c0_1, .slice A0_2 l0_2.length c0_2, .slice A0_3 l0_3.length c0_3, .slice A0_4 l0_4.length c0_4] 28 (0, 0)) (by (with_reducible repeat (first | refine blk_drewN ?_ _ | refine blk_drew ?_ | refine blk_alloc ?_ _)); exact BK507.out)) : gb508 ≠ gb507)); clear BK507; clear HB; have BK507 := n0_; have HB := n1_; have BK508 := n2_; have GW508 := n3_; have GE508 := n4_; have NB507_508 := n5_; have NB508_507 := n6_; clear n0_ n1_ n2_ n3_ n4_ n5_ n6_; clear hb hbox hg; have hnb25 := NB507_508.out; have hnc25 := NB508_507.out; have hcz26_0 : w24.cell? ⟨gb507, 0, none⟩ = some (.int .i64 a0_0) := (blk_cell BK507.out 0).trans rfl; have hcz26_1 : w24.cell? ⟨gb507, 1, none⟩ = some (.slice A0_1 l0_1.length c0_1) := (blk_cell BK507.out 1).trans rfl; have hcz26_2 : w24.cell? ⟨gb507, 2, none⟩ = some (.slice A0_2 l0_2.length c0_2) := (blk_cell BK507.out 2).trans rfl; have hcz26_3 : w24.cell? ⟨gb507, 3, none⟩ = some (.slice A0_3 l0_3.length c0_3) := (blk_cell BK507.out 3).trans rfl; have hcz26_4 : w24.cell? ⟨gb507, 4, none⟩ = some (.slice A0_4 l0_4.length c0_4) := (blk_cell BK507.out 4).trans rfl; have hfz26_0 := blk_frozen BK507.out 0; have hfz26_1 := blk_frozen BK507.out 1; have hfz26_2 := blk_frozen BK507.out 2; have hfz26_3 := blk_frozen BK507.out 3; have hfz26_4 := blk_frozen BK507.out 4) | ((with_reducible refine gate_callee (f := 26) rfl ?_); refine goesL_ (some 4) rfl rfl Try.func26 (by kernel_rfl) rfl #[.agg #[.int .i64 a0_0, .slice A0_1 l0_1.length c0_1, .slice A0_2 l0_2.length c0_2, .slice A0_3 l0_3.length c0_3, .slice A0_4 l0_4.length c0_4]] rfl (by (try simp only [List.map_toArray, List.map_cons, List.map_nil]); first | done | rfl | (simp only [List.length_drop, List.length_take]; rfl)) ?_; (with_reducible refine (spec_DiskOk.calls k a0_0 _ _ l0_1 _ _ l0_2 _ _ l0_3 _ _ l0_4 false _ ?side1 ?side2 ?side3 ?side4 ?side5 ?side6 ?side7 ?side8 A2.out).mono ?_); (case side1 => repeat (first | exact (Kd.C_below HR0_1.out HB.out) | (with_reducible refine Kd.C_alloc ?_ _) | (with_reducible refine Kd.C_drewN ?_ _) | (with_reducible refine Kd.C_drew ?_))); (case side2 => exact HC0_1.out); (case side3 => repeat (first | exact (Kd.C_below HR0_2.out HB.out) | (with_reducible refine Kd.C_alloc ?_ _) | (with_reducible refine Kd.C_drewN ?_ _) | (with_reducible refine Kd.C_drew ?_))); (case side4 => exact HC0_2.out); (case side5 => repeat (first | exact (Kd.C_below HR0_3.out HB.out) | (with_reducible refine Kd.C_alloc ?_ _) | (with_reducible refine Kd.C_drewN ?_ _) | (with_reducible refine Kd.C_drew ?_))); (case side6 => exact HC0_3.out); (case side7 => repeat (first | exact (Kd.C_below HR0_4.out HB.out) | (with_reducible refine Kd.C_alloc ?_ _) | (with_reducible refine Kd.C_drewN ?_ _) | (with_reducible refine Kd.C_drew ?_))); (case side8 => exact HC0_4.out); rintro e w27 ⟨rfl, hb⟩; refine ⟨_, rfl, ?_⟩; have n0_ := Aside0.mk (blk_below (g := gb507) (o := .cells #[.int .i64 a0_0, .slice A0_1 l0_1.length c0_1, .slice A0_2 l0_2.length c0_2, .slice A0_3 l0_3.length c0_3, .slice A0_4 l0_4.length c0_4] 28 (0, 0)) (by (with_reducible repeat (first | refine blk_drewN ?_ _ | refine blk_drew ?_ | refine blk_alloc ?_ _)); exact BK507.out) hb); have n1_ := Aside0.mk (blk_below (g := gb508) (o := .cells #[.int .i64 0, .slice none 0 0, .slice none 0 0, .slice none 0 0, .slice none 0 0] 28 (0, 0)) (by (with_reducible repeat (first | refine blk_drewN ?_ _ | refine blk_drew ?_ | refine blk_alloc ?_ _)); exact BK508.out) hb); have n2_ := Aside0.mk (below_step (by repeat (first | (with_reducible first | exact HB.out | apply below_alloc | apply pw_below_drewN | apply below_drew1 | refine below_set ?_ GE507.out | refine below_set ?_ GE508.out) | exact HB.out)) hb); clear BK507; clear BK508; clear HB; have BK507 := n0_; have BK508 := n1_; have HB := n2_; clear n0_ n1_ n2_; (try clear hb); (try clear hb2); (try clear hk); (try clear hi); have hcz28_0 : w27.cell? ⟨gb508, 0, none⟩ = some (.int .i64 0) := (blk_cell BK508.out 0).trans rfl; have hcz28_1 : w27.cell? ⟨gb508, 1, none⟩ = some (.slice none 0 0) := (blk_cell BK508.out 1).trans rfl; have hcz28_2 : w27.cell? ⟨gb508, 2, none⟩ = some (.slice none 0 0) := (blk_cell BK508.out 2).trans rfl; have hcz28_3 : w27.cell? ⟨gb508, 3, none⟩ = some (.slice none 0 0) := (blk_cell BK508.out 3).trans rfl; have hcz28_4 : w27.cell? ⟨gb508, 4, none⟩ = some (.slice none 0 0) := (blk_cell BK508.out 4).trans rfl; have hfz28_0 := blk_frozen BK508.out 0; have hfz28_1 := blk_frozen BK508.out 1; have hfz28_2 := blk_frozen BK508.out 2; have hfz28_3 := blk_frozen BK508.out 3; have hfz28_4 := blk_frozen BK508.out 4))
    refine bodyPost_ret (results_cell_row rfl _ _ gb508 28 #[.int .i64 0, .slice none 0 0, .slice none 0 0, .slice none 0 0, .slice none 0 0] (0, 0) _ rfl (by (with_reducible repeat (first | refine blk_drewN ?_ _ | refine blk_drew ?_ | refine blk_alloc ?_ _)); refine blk_put (cs := #[.int .i64 0, .slice none 0 0, .slice none 0 0, .slice none 0 0, .slice none 0 0]) ?_ 4 _ rfl; (with_reducible repeat (first | refine blk_drewN ?_ _ | refine blk_drew ?_ | refine blk_alloc ?_ _)); refine blk_put (cs := #[.int .i64 0, .slice none 0 0, .slice none 0 0, .slice none 0 0, .slice none 0 0]) ?_ 3 _ rfl; (with_reducible repeat (first | refine blk_drewN ?_ _ | refine blk_drew ?_ | refine blk_alloc ?_ _)); refine blk_put (cs := #[.int .i64 0, .slice none 0 0, .slice none 0 0, .slice none 0 0, .slice none 0 0]) ?_ 2 _ rfl; (with_reducible repeat (first | refine blk_drewN ?_ _ | refine blk_drew ?_ | refine blk_alloc ?_ _)); refine blk_put (cs := #[.int .i64 0, .slice none 0 0, .slice none 0 0, .slice none 0 0, .slice none 0 0]) ?_ 1 _ rfl; (with_reducible repeat (first | refine blk_drewN ?_ _ | refine blk_drew ?_ | refine blk_alloc ?_ _)); refine blk_put (cs := #[.int .i64 0, .slice none 0 0, .slice none 0 0, .slice none 0 0, .slice none 0 0]) ?_ 0 _ rfl; (with_reducible repeat (first | refine blk_drewN ?_ _ | refine blk_drew ?_ | refine blk_alloc ?_ _)); exact BK508.out) Try.underlying28 rfl (by kernel_rfl)) rfl ?_
    exact ⟨_, _, _, _, by first | rfl | (simp [errW_none, errW_some] <;> rfl) | (simp [*, errW_none, errW_some] <;> rfl), by first | exact Kd.R_nil _ _ _ _ _ | exact Kd.N_nil _ _ _ _ _ | exact Kd.V_nil _ _ _ _ _ | exact Kd.Q_nil _ _ _ _ _ | exact Kd.S_nil _ _ _ _ _, by first | exact Kd.R_nil _ _ _ _ _ | exact Kd.N_nil _ _ _ _ _ | exact Kd.V_nil _ _ _ _ _ | exact Kd.Q_nil _ _ _ _ _ | exact Kd.S_nil _ _ _ _ _, by first | exact Kd.R_nil _ _ _ _ _ | exact Kd.N_nil _ _ _ _ _ | exact Kd.V_nil _ _ _ _ _ | exact Kd.Q_nil _ _ _ _ _ | exact Kd.S_nil _ _ _ _ _, by first | exact Kd.R_nil _ _ _ _ _ | exact Kd.N_nil _ _ _ _ _ | exact Kd.V_nil _ _ _ _ _ | exact Kd.Q_nil _ _ _ _ _ | exact Kd.S_nil _ _ _ _ _, by repeat (first | (with_reducible first | exact HB.out | apply below_alloc | apply pw_below_drewN | apply below_drew1 | refine below_set ?_ GE507.out | refine below_set ?_ GE508.out) | exact HB.out)⟩
end Go.Proofs.Ytkgpnloghmbmlaa.Print
namespace Go.Proofs.Ytkgpnloghmbmlaa.Print
open Go.RowKit Go.Proofs.YtkgpnloghmbmlaaW.PrintWords Go.Proofs.YtkgpnloghmbmlaaW.PrintLast Go.Proofs.YtkgpnloghmbmlaaW.PrintMore
attribute [local go_sem] max2_int min2_int max_two min_two max_three min_three max_four min_four   -- for this text's walks alone
set_option linter.unusedVariables false
set_option linter.unusedSimpArgs false
end Go.Proofs.Ytkgpnloghmbmlaa.Print
namespace Go.Proofs.Ytkgpnloghmbmlaa.Print
open Go.RowKit Go.Proofs.YtkgpnloghmbmlaaW.PrintWords Go.Proofs.YtkgpnloghmbmlaaW.PrintLast Go.Proofs.YtkgpnloghmbmlaaW.PrintMore
attribute [local go_sem] max2_int min2_int max_two min_two max_three min_three max_four min_four   -- for this text's walks alone
set_option linter.unusedVariables false
set_option linter.unusedSimpArgs false
end Go.Proofs.Ytkgpnloghmbmlaa.Print
namespace Go.Proofs.Ytkgpnloghmbmlaa.Print
open Go.RowKit Go.Proofs.YtkgpnloghmbmlaaW.PrintWords Go.Proofs.YtkgpnloghmbmlaaW.PrintLast Go.Proofs.YtkgpnloghmbmlaaW.PrintMore Go.Proofs.Ytkgpnloghmbmlaa.Drv
set_option linter.unusedVariables false
set_option linter.unusedSimpArgs false
def comeSp (p : S54) (sp : List Bool) : List Bool := if p.f0 = true then sp else sp.set p.f1.toNat false
def comeSl (p : S54) (sl : List ByteArray) : List ByteArray := if p.f0 = true then sl else sl.set p.f1.toNat p.f2
def comeRg (p : S54) (rg : List ByteArray) : List ByteArray := if p.f0 = true then rg.set p.f1.toNat p.f2 else rg
set_option maxHeartbeats 4000000 in
set_option maxRecDepth 100000 in
theorem come_ring (g : Nat) (st : Int) (sp : List Bool) (sl rg : List ByteArray) (ns : List (Nat × Pt)) (n : Nat) (tx : ByteArray) (w : World) (hD : Drv w g st sp sl rg ns) (hn : n < 2) :
    Calls Try.prog 100 #[.pointer (some ⟨g, 0, none⟩), .agg #[.bool true, .int .i64 (n : Int), .string tx]] w fun e w' => e = .returned (.tuple #[]) ∧ Drv w' g st sp sl (rg.set n tx) ns ∧ Below g w w' ∧ KeepBut w w' g none := by
  have hu80 := Try.underlying80
  have hu54 := Try.underlying54
  have hu77 := Try.underlying77
  have HGS := Aside0.mk (blk_lt hD.blk)
  have HGL := Aside0.mk (Nat.le_of_lt (blk_lt hD.blk))
  have HD := Aside0.mk hD
  have HN := Aside0.mk hn
  have HA0 := Aside0.mk (eq_true (show (0 : Int) ≤ (n : Int) by omega))
  have HA1 := Aside0.mk (eq_true (show (n : Int) < 2 by omega))
  clear hD hn
  have HK0 := Aside0.mk (KeepBut.refl w g none)
  have HB := Aside0.mk (Below.refl g w)
  go_enter Try.func100, Try.ntmps100
  go_wp2_with (first | ((with_reducible refine gate_dst (N := 3) rfl ?_); refine box_event ?hg (N := 3) ?hd (cs := #[.bool true, .int .i64 (n : Int), .string tx]) (t := 54) ?hr ?_; (case hd => rfl); (case hg => rfl); (case hr => first | (go_simp; done) | (go_simp; rfl)); intro gp hg w1 hbox hb; have n0_ := Aside0.mk (hb.mono HGL.out); have n1_ := Aside0.mk hbox; have n2_ := Aside0.mk (Drv.below (g := g) (st := st) (sp := sp) (sl := sl) (rg := rg) (ns := ns) (by (with_reducible repeat (first | refine drv_drewN ?_ _ | refine drv_drew ?_)); exact HD.out) hb); have HNE : Aside0 (g < gp) := ⟨by rw [hg]; exact HGS.out⟩; have HK := Aside0.mk (KeepBut.trans HK0.out (KeepBut.of_below hb g none) (.inl rfl)); clear HB HD HK0; have HB := n0_; have BK := n1_; have HD := n2_; clear n0_ n1_ n2_ hb hbox hg; have hcz_0 : w1.cell? ⟨gp, 0, none⟩ = some (.bool true) := (blk_cell BK.out 0).trans rfl; have hcz_1 : w1.cell? ⟨gp, 1, none⟩ = some (.int .i64 (n : Int)) := (blk_cell BK.out 1).trans rfl; have hcz_2 : w1.cell? ⟨gp, 2, none⟩ = some (.string tx) := (blk_cell BK.out 2).trans rfl))
  have nb_ := Aside0.mk (below_drew1 HB.out)
  have nd_ := Aside0.mk (drv_drew HD.out)
  have nk_ := Aside0.mk (blk_drew BK.out)
  have nj_ := Aside0.mk (keep_drew HK.out)
  clear HB HD BK HK
  have HK := nj_
  clear nj_
  have HB := nb_
  have HD := nd_
  have BK := nk_
  clear nb_ nd_ nk_
  refine start_ (n := 9) (S := fun w' => w'.cell? ⟨gp, 1, none⟩ = some (.int .i64 (n : Int)) ∧ w'.cell? ⟨gp, 2, none⟩ = some (.string tx)) (ds := [8]) #[false, false, false, false, false, false, false, false, false] (by kernel_rfl) rfl rfl ⟨(blk_cell BK.out 1).trans rfl, (blk_cell BK.out 2).trans rfl⟩ (fun hHeld => ?_)
  generalize w1.drew = w2 at HB HD BK HK hHeld ⊢
  refine pure_ (i := 0) (N := (some 6)) (v := ?_) (a' := ?_) #[true, false, false, false, false, false, false, false, false] rfl rfl (by kernel_rfl) (fun _ _ _ h => h) (Or.inl ⟨by rfl, ?_⟩) ?_ ?_
  rotate_left
  · intro w'
    go_simp
    with_reducible rfl
  rotate_left
  · simp only [Act.put, List.setIfInBounds_toArray, List.set_cons_zero, List.set_cons_succ]
    rfl
  refine pure_ (i := 1) (N := (some 7)) (v := ?_) (a' := ?_) #[true, true, false, false, false, false, false, false, false] rfl rfl (by kernel_rfl) (fun _ _ _ h => h) (Or.inl ⟨by rfl, ?_⟩) ?_ ?_
  rotate_left
  · intro w'
    go_simp
    with_reducible rfl
  rotate_left
  · simp only [Act.put, List.setIfInBounds_toArray, List.set_cons_zero, List.set_cons_succ]
    rfl
  refine take_ (i := 2) (N := (some 8)) (v := ?_) (a' := ?_) #[true, true, true, false, false, false, false, false, false] rfl rfl (by kernel_rfl) (fun _ _ _ h => h) (Or.inl ⟨by rfl, ?_⟩) hHeld ?_ ?_
  rotate_left
  · intro w' hS_
    obtain ⟨s1_, s2_⟩ := hS_
    go_simp
    with_reducible rfl
  rotate_left
  · simp only [Act.put, List.setIfInBounds_toArray, List.set_cons_zero, List.set_cons_succ]
    rfl
  refine pure_ (i := 3) (N := (some 9)) (v := ?_) (a' := ?_) #[true, true, true, true, false, false, false, false, false] rfl rfl (by kernel_rfl) (fun _ _ _ h => h) (Or.inl ⟨by rfl, ?_⟩) ?_ ?_
  rotate_left
  · intro w'
    go_simp
    with_reducible rfl
  rotate_left
  · simp only [Act.put, List.setIfInBounds_toArray, List.set_cons_zero, List.set_cons_succ]
    rfl
  refine take_ (i := 4) (N := (some 10)) (v := ?_) (a' := ?_) #[true, true, true, true, true, false, false, false, false] rfl rfl (by kernel_rfl) (fun _ _ _ h => h) (Or.inl ⟨by rfl, ?_⟩) hHeld ?_ ?_
  rotate_left
  · intro w' hS_
    obtain ⟨s1_, s2_⟩ := hS_
    go_simp
    with_reducible rfl
  rotate_left
  · simp only [Act.put, List.setIfInBounds_toArray, List.set_cons_zero, List.set_cons_succ]
    rfl
  refine pure_ (i := 5) (N := (some 11)) (v := ?_) (a' := ?_) #[true, true, true, true, true, true, false, false, false] rfl rfl (by kernel_rfl) (fun _ _ _ h => h) (Or.inl ⟨by rfl, ?_⟩) ?_ ?_
  rotate_left
  · intro w'
    go_simp
    with_reducible rfl
  rotate_left
  · simp only [Act.put, List.setIfInBounds_toArray, List.set_cons_zero, List.set_cons_succ]
    rfl
  refine pure_ (i := 6) (N := (some 12)) (v := ?_) (a' := ?_) #[true, true, true, true, true, true, true, false, false] rfl rfl (by kernel_rfl) (fun _ _ _ h => h) (Or.inl ⟨by rfl, ?_⟩) ?_ ?_
  rotate_left
  · intro w'
    go_simp
    with_reducible rfl
  rotate_left
  · simp only [Act.put, List.setIfInBounds_toArray, List.set_cons_zero, List.set_cons_succ]
    rfl
  refine pure_ (i := 7) (N := (some 13)) (v := ?_) (a' := ?_) #[true, true, true, true, true, true, true, true, false] rfl rfl (by kernel_rfl) (fun _ _ _ h => h) (Or.inl ⟨by rfl, ?_⟩) ?_ ?_
  rotate_left
  · intro w'
    have ha0_ := HA0.out
    have ha1_ := HA1.out
    go_simp
    first | with_reducible rfl | rfl
  rotate_left
  · simp only [Act.put, List.setIfInBounds_toArray, List.set_cons_zero, List.set_cons_succ]
    rfl
  refine last_ (i := 8) (N := none) #[true, true, true, true, true, true, true, true, true] rfl rfl (by kernel_rfl) (by decide) (fun K hK => ?_)
  have hc_ : w2.cell? ⟨g, 25 + n, none⟩ = some (.string (rg.getD n ByteArray.empty)) := (blk_cell HD.out.blk (25 + n)).trans (dc_rg HD.out.lsp HD.out.lsl HD.out.lrg HN.out)
  have hf_ : w2.frozen? ⟨g, 25 + n, none⟩ = false := blk_frozen HD.out.blk (25 + n)
  refine skip_ (w1 := w2.setCell ⟨g, 25 + n, none⟩ (.string tx)) (by rfl) rfl ?_ ?_
  · first | (go_simp; done) | (go_simp; rfl)
  refine hK.out _ _ ?_
  clear hK K
  refine done_ (by kernel_rfl) ?_
  go_wp2
  refine bodyPost_ret (results_none rfl _ _ _) rfl ?_
  exact ⟨rfl, HD.out.putRing HN.out tx, HB.out.setCell (p := ⟨g, 25 + n, none⟩) (Nat.le_refl _) _, KeepBut.set_ HK.out _ _⟩
set_option maxHeartbeats 4000000 in
set_option maxRecDepth 100000 in
theorem come_slot (g : Nat) (st : Int) (sp : List Bool) (sl rg : List ByteArray) (ns : List (Nat × Pt)) (n : Nat) (tx : ByteArray) (w : World) (hD : Drv w g st sp sl rg ns) (hn : n < 12) :
    Calls Try.prog 100 #[.pointer (some ⟨g, 0, none⟩), .agg #[.bool false, .int .i64 (n : Int), .string tx]] w fun e w' => e = .returned (.tuple #[]) ∧ Drv w' g st (sp.set n false) (sl.set n tx) rg ns ∧ Below g w w' ∧ KeepBut w w' g none := by
  have hu80 := Try.underlying80
  have hu75 := Try.underlying75
  have hu54 := Try.underlying54
  have hu76 := Try.underlying76
  have hu73 := Try.underlying73
  have HGS := Aside0.mk (blk_lt hD.blk)
  have HGL := Aside0.mk (Nat.le_of_lt (blk_lt hD.blk))
  have HD := Aside0.mk hD
  have HN := Aside0.mk hn
  have HA0 := Aside0.mk (eq_true (show (0 : Int) ≤ (n : Int) by omega))
  have HA1 := Aside0.mk (eq_true (show (n : Int) < 12 by omega))
  clear hD hn
  have HK0 := Aside0.mk (KeepBut.refl w g none)
  have HB := Aside0.mk (Below.refl g w)
  go_enter Try.func100, Try.ntmps100
  go_wp2_with (first | ((with_reducible refine gate_dst (N := 3) rfl ?_); refine box_event ?hg (N := 3) ?hd (cs := #[.bool false, .int .i64 (n : Int), .string tx]) (t := 54) ?hr ?_; (case hd => rfl); (case hg => rfl); (case hr => first | (go_simp; done) | (go_simp; rfl)); intro gp hg w1 hbox hb; have n0_ := Aside0.mk (hb.mono HGL.out); have n1_ := Aside0.mk hbox; have n2_ := Aside0.mk (Drv.below (g := g) (st := st) (sp := sp) (sl := sl) (rg := rg) (ns := ns) (by (with_reducible repeat (first | refine drv_drewN ?_ _ | refine drv_drew ?_)); exact HD.out) hb); have HNE : Aside0 (g < gp) := ⟨by rw [hg]; exact HGS.out⟩; have HK := Aside0.mk (KeepBut.trans HK0.out (KeepBut.of_below hb g none) (.inl rfl)); clear HB HD HK0; have HB := n0_; have BK := n1_; have HD := n2_; clear n0_ n1_ n2_ hb hbox hg; have hcz_0 : w1.cell? ⟨gp, 0, none⟩ = some (.bool false) := (blk_cell BK.out 0).trans rfl; have hcz_1 : w1.cell? ⟨gp, 1, none⟩ = some (.int .i64 (n : Int)) := (blk_cell BK.out 1).trans rfl; have hcz_2 : w1.cell? ⟨gp, 2, none⟩ = some (.string tx) := (blk_cell BK.out 2).trans rfl))
  have nb_ := Aside0.mk (below_drew1 HB.out)
  have nd_ := Aside0.mk (drv_drew HD.out)
  have nk_ := Aside0.mk (blk_drew BK.out)
  have nj_ := Aside0.mk (keep_drew HK.out)
  clear HB HD BK HK
  have HK := nj_
  clear nj_
  have HB := nb_
  have HD := nd_
  have BK := nk_
  clear nb_ nd_ nk_
  refine start_ (n := 17) (S := fun w' => w'.cell? ⟨gp, 1, none⟩ = some (.int .i64 (n : Int)) ∧ w'.cell? ⟨gp, 2, none⟩ = some (.string tx)) (ds := [16]) #[false, false, false, false, false, false, false, false, false, false, false, false, false, false, false, false, false] (by kernel_rfl) rfl rfl ⟨(blk_cell BK.out 1).trans rfl, (blk_cell BK.out 2).trans rfl⟩ (fun hHeld => ?_)
  generalize w1.drew = w2 at HB HD BK HK hHeld ⊢
  refine pure_ (i := 0) (N := (some 14)) (v := ?_) (a' := ?_) #[true, false, false, false, false, false, false, false, false, false, false, false, false, false, false, false, false] rfl rfl (by kernel_rfl) (fun _ _ _ h => h) (Or.inl ⟨by rfl, ?_⟩) ?_ ?_
  rotate_left
  · intro w'
    go_simp
    with_reducible rfl
  rotate_left
  · simp only [Act.put, List.setIfInBounds_toArray, List.set_cons_zero, List.set_cons_succ]
    rfl
  refine pure_ (i := 1) (N := (some 15)) (v := ?_) (a' := ?_) #[true, true, false, false, false, false, false, false, false, false, false, false, false, false, false, false, false] rfl rfl (by kernel_rfl) (fun _ _ _ h => h) (Or.inl ⟨by rfl, ?_⟩) ?_ ?_
  rotate_left
  · intro w'
    go_simp
    with_reducible rfl
  rotate_left
  · simp only [Act.put, List.setIfInBounds_toArray, List.set_cons_zero, List.set_cons_succ]
    rfl
  refine take_ (i := 2) (N := (some 16)) (v := ?_) (a' := ?_) #[true, true, true, false, false, false, false, false, false, false, false, false, false, false, false, false, false] rfl rfl (by kernel_rfl) (fun _ _ _ h => h) (Or.inl ⟨by rfl, ?_⟩) hHeld ?_ ?_
  rotate_left
  · intro w' hS_
    obtain ⟨s1_, s2_⟩ := hS_
    go_simp
    with_reducible rfl
  rotate_left
  · simp only [Act.put, List.setIfInBounds_toArray, List.set_cons_zero, List.set_cons_succ]
    rfl
  refine pure_ (i := 3) (N := (some 17)) (v := ?_) (a' := ?_) #[true, true, true, true, false, false, false, false, false, false, false, false, false, false, false, false, false] rfl rfl (by kernel_rfl) (fun _ _ _ h => h) (Or.inl ⟨by rfl, ?_⟩) ?_ ?_
  rotate_left
  · intro w'
    go_simp
    with_reducible rfl
  rotate_left
  · simp only [Act.put, List.setIfInBounds_toArray, List.set_cons_zero, List.set_cons_succ]
    rfl
  refine pure_ (i := 4) (N := (some 18)) (v := ?_) (a' := ?_) #[true, true, true, true, true, false, false, false, false, false, false, false, false, false, false, false, false] rfl rfl (by kernel_rfl) (fun _ _ _ h => h) (Or.inl ⟨by rfl, ?_⟩) ?_ ?_
  rotate_left
  · intro w'
    go_simp
    with_reducible rfl
  rotate_left
  · simp only [Act.put, List.setIfInBounds_toArray, List.set_cons_zero, List.set_cons_succ]
    rfl
  refine take_ (i := 5) (N := (some 19)) (v := ?_) (a' := ?_) #[true, true, true, true, true, true, false, false, false, false, false, false, false, false, false, false, false] rfl rfl (by kernel_rfl) (fun _ _ _ h => h) (Or.inl ⟨by rfl, ?_⟩) hHeld ?_ ?_
  rotate_left
  · intro w' hS_
    obtain ⟨s1_, s2_⟩ := hS_
    go_simp
    with_reducible rfl
  rotate_left
  · simp only [Act.put, List.setIfInBounds_toArray, List.set_cons_zero, List.set_cons_succ]
    rfl
  refine pure_ (i := 6) (N := (some 20)) (v := ?_) (a' := ?_) #[true, true, true, true, true, true, true, false, false, false, false, false, false, false, false, false, false] rfl rfl (by kernel_rfl) (fun _ _ _ h => h) (Or.inl ⟨by rfl, ?_⟩) ?_ ?_
  rotate_left
  · intro w'
    go_simp
    with_reducible rfl
  rotate_left
  · simp only [Act.put, List.setIfInBounds_toArray, List.set_cons_zero, List.set_cons_succ]
    rfl
  refine take_ (i := 7) (N := (some 21)) (v := ?_) (a' := ?_) #[true, true, true, true, true, true, true, true, false, false, false, false, false, false, false, false, false] rfl rfl (by kernel_rfl) (fun _ _ _ h => h) (Or.inl ⟨by rfl, ?_⟩) hHeld ?_ ?_
  rotate_left
  · intro w' hS_
    obtain ⟨s1_, s2_⟩ := hS_
    go_simp
    with_reducible rfl
  rotate_left
  · simp only [Act.put, List.setIfInBounds_toArray, List.set_cons_zero, List.set_cons_succ]
    rfl
  refine pure_ (i := 8) (N := (some 22)) (v := ?_) (a' := ?_) #[true, true, true, true, true, true, true, true, true, false, false, false, false, false, false, false, false] rfl rfl (by kernel_rfl) (fun _ _ _ h => h) (Or.inl ⟨by rfl, ?_⟩) ?_ ?_
  rotate_left
  · intro w'
    go_simp
    with_reducible rfl
  rotate_left
  · simp only [Act.put, List.setIfInBounds_toArray, List.set_cons_zero, List.set_cons_succ]
    rfl
  refine pure_ (i := 9) (N := (some 23)) (v := ?_) (a' := ?_) #[true, true, true, true, true, true, true, true, true, true, false, false, false, false, false, false, false] rfl rfl (by kernel_rfl) (fun _ _ _ h => h) (Or.inl ⟨by rfl, ?_⟩) ?_ ?_
  rotate_left
  · intro w'
    go_simp
    with_reducible rfl
  rotate_left
  · simp only [Act.put, List.setIfInBounds_toArray, List.set_cons_zero, List.set_cons_succ]
    rfl
  refine pure_ (i := 10) (N := (some 24)) (v := ?_) (a' := ?_) #[true, true, true, true, true, true, true, true, true, true, true, false, false, false, false, false, false] rfl rfl (by kernel_rfl) (fun _ _ _ h => h) (Or.inl ⟨by rfl, ?_⟩) ?_ ?_
  rotate_left
  · intro w'
    have ha0_ := HA0.out
    have ha1_ := HA1.out
    go_simp
    first | with_reducible rfl | rfl
  rotate_left
  · simp only [Act.put, List.setIfInBounds_toArray, List.set_cons_zero, List.set_cons_succ]
    rfl
  refine pure_ (i := 12) (N := (some 25)) (v := ?_) (a' := ?_) #[true, true, true, true, true, true, true, true, true, true, true, false, true, false, false, false, false] rfl rfl (by kernel_rfl) (fun _ _ _ h => h) (Or.inl ⟨by rfl, ?_⟩) ?_ ?_
  rotate_left
  · intro w'
    go_simp
    with_reducible rfl
  rotate_left
  · simp only [Act.put, List.setIfInBounds_toArray, List.set_cons_zero, List.set_cons_succ]
    rfl
  refine pure_ (i := 13) (N := (some 26)) (v := ?_) (a' := ?_) #[true, true, true, true, true, true, true, true, true, true, true, false, true, true, false, false, false] rfl rfl (by kernel_rfl) (fun _ _ _ h => h) (Or.inl ⟨by rfl, ?_⟩) ?_ ?_
  rotate_left
  · intro w'
    go_simp
    with_reducible rfl
  rotate_left
  · simp only [Act.put, List.setIfInBounds_toArray, List.set_cons_zero, List.set_cons_succ]
    rfl
  refine pure_ (i := 14) (N := (some 27)) (v := ?_) (a' := ?_) #[true, true, true, true, true, true, true, true, true, true, true, false, true, true, true, false, false] rfl rfl (by kernel_rfl) (fun _ _ _ h => h) (Or.inl ⟨by rfl, ?_⟩) ?_ ?_
  rotate_left
  · intro w'
    go_simp
    with_reducible rfl
  rotate_left
  · simp only [Act.put, List.setIfInBounds_toArray, List.set_cons_zero, List.set_cons_succ]
    rfl
  refine one_ (i := 11) (N := none) #[true, true, true, true, true, true, true, true, true, true, true, true, true, true, true, false, false] rfl rfl (by kernel_rfl) (by decide) (fun K hK => ?_)
  have hc_ : w2.cell? ⟨g, 13 + n, none⟩ = some (.string (sl.getD n ByteArray.empty)) := (blk_cell HD.out.blk (13 + n)).trans (dc_sl HD.out.lsp HD.out.lsl HN.out)
  have hf_ : w2.frozen? ⟨g, 13 + n, none⟩ = false := blk_frozen HD.out.blk (13 + n)
  refine skip_ (w1 := w2.setCell ⟨g, 13 + n, none⟩ (.string tx)) (by rfl) rfl ?_ ?_
  · first | (go_simp; done) | (go_simp; rfl)
  have nk_ : Aside0 ((w2.setCell ⟨g, 13 + n, none⟩ (.string tx)).heap[gp]? = some (.cells #[.bool false, .int .i64 (n : Int), .string tx] 54 (0, 0))) := ⟨blk_far BK.out (by have := HNE.out; show gp ≠ g; omega) _⟩
  have nd_ := Aside0.mk (HD.out.putSlot HN.out tx)
  have nb_ := Aside0.mk (HB.out.setCell (p := ⟨g, 13 + n, none⟩) (Nat.le_refl _) (.string tx))
  have nj_ := Aside0.mk (KeepBut.set_ HK.out (13 + n) (.string tx))
  clear hc_ hf_ BK HD HB HK
  have HK := nj_
  clear nj_
  have BK := nk_
  have HD := nd_
  have HB := nb_
  clear nk_ nd_ nb_ hHeld
  refine hK.out _ _ ⟨(blk_cell BK.out 1).trans rfl, (blk_cell BK.out 2).trans rfl⟩ (fun hHeld => ?_)
  clear hK K
  generalize w2.setCell ⟨g, 13 + n, none⟩ (.string tx) = w3 at BK HD HB HK hHeld ⊢
  refine pure_ (i := 15) (N := (some 28)) (v := ?_) (a' := ?_) #[true, true, true, true, true, true, true, true, true, true, true, true, true, true, true, true, false] rfl rfl (by kernel_rfl) (fun _ _ _ h => h) (Or.inl ⟨by rfl, ?_⟩) ?_ ?_
  rotate_left
  · intro w'
    have ha0_ := HA0.out
    have ha1_ := HA1.out
    go_simp
    first | with_reducible rfl | rfl
  rotate_left
  · simp only [Act.put, List.setIfInBounds_toArray, List.set_cons_zero, List.set_cons_succ]
    rfl
  refine last_ (i := 16) (N := none) #[true, true, true, true, true, true, true, true, true, true, true, true, true, true, true, true, true] rfl rfl (by kernel_rfl) (by decide) (fun K hK => ?_)
  have hc_ : w3.cell? ⟨g, 1 + n, none⟩ = some (.bool (sp.getD n false)) := (blk_cell HD.out.blk (1 + n)).trans (dc_sp HD.out.lsp HN.out)
  have hf_ : w3.frozen? ⟨g, 1 + n, none⟩ = false := blk_frozen HD.out.blk (1 + n)
  refine skip_ (w1 := w3.setCell ⟨g, 1 + n, none⟩ (.bool false)) (by rfl) rfl ?_ ?_
  · first | (go_simp; done) | (go_simp; rfl)
  refine hK.out _ _ ?_
  clear hK K
  refine done_ (by kernel_rfl) ?_
  go_wp2
  go_end0
  exact ⟨rfl, HD.out.putSpoilt HN.out false, HB.out.setCell (p := ⟨g, 1 + n, none⟩) (Nat.le_refl _) _, KeepBut.set_ HK.out _ _⟩
theorem come_calls (g : Nat) (st : Int) (sp : List Bool) (sl rg : List ByteArray) (ns : List (Nat × Pt)) (p : S54) (w : World) (hD : Drv w g st sp sl rg ns) (hp : putB p = true) :
    Calls Try.prog 100 #[.pointer (some ⟨g, 0, none⟩), .agg #[.bool p.f0, .int .i64 p.f1, .string p.f2]] w fun e w' => e = .returned (.tuple #[]) ∧ Drv w' g st (comeSp p sp) (comeSl p sl) (comeRg p rg) ns ∧ Below g w w' ∧ KeepBut w w' g none := by
  obtain ⟨f0, f1, f2⟩ := p
  cases f0 with
  | true =>
    simp only [putB, if_true, decide_eq_true_iff] at hp
    obtain ⟨n, rfl⟩ : ∃ n : Nat, f1 = (n : Int) := ⟨f1.toNat, by omega⟩
    have := come_ring g st sp sl rg ns n f2 w hD (by omega)
    simpa [comeSp, comeSl, comeRg] using this
  | false =>
    simp only [putB, Bool.false_eq_true, if_false, decide_eq_true_iff] at hp
    obtain ⟨n, rfl⟩ : ∃ n : Nat, f1 = (n : Int) := ⟨f1.toNat, by omega⟩
    have := come_slot g st sp sl rg ns n f2 w hD (by omega)
    simpa [comeSp, comeSl, comeRg] using this
end Go.Proofs.Ytkgpnloghmbmlaa.Print
namespace Go.Proofs.Ytkgpnloghmbmlaa.Print
open Go.RowKit Go.Proofs.YtkgpnloghmbmlaaW.PrintWords Go.Proofs.YtkgpnloghmbmlaaW.PrintLast Go.Proofs.YtkgpnloghmbmlaaW.PrintMore Go.Proofs.Ytkgpnloghmbmlaa.Drv
set_option linter.unusedVariables false
set_option linter.unusedSimpArgs false
theorem drv_first {W : World} {g b : Nat} {p : S54} {st : Int} {sp : List Bool} {sl rg : List ByteArray} {rs : List (Nat × Pt)} (h : Drv W g st sp sl rg ((b, p) :: rs)) :
    W.cell? ⟨g, 27, none⟩ = some (.pointer (some ⟨b, 0, none⟩)) ∧ W.cell? ⟨b, 0, none⟩ = some (.bool p.f0) ∧ W.cell? ⟨b, 1, none⟩ = some (.int .i64 p.f1) ∧ W.cell? ⟨b, 2, none⟩ = some (.string p.f2) ∧ W.cell? ⟨b, 3, none⟩ = some (toN rs (.pointer none)) ∧ W.frozen? ⟨g, 27, none⟩ = false := by
  have hn : W.heap[b]? = some (.cells #[.bool p.f0, .int .i64 p.f1, .string p.f2, toN rs (.pointer none)] 112 (0, 0)) := h.seg.2.1
  exact ⟨(blk_cell h.blk 27).trans (dc_fi h.lsp h.lsl h.lrg), (blk_cell hn 0).trans rfl, (blk_cell hn 1).trans rfl, (blk_cell hn 2).trans rfl, (blk_cell hn 3).trans rfl, blk_frozen h.blk 27⟩
def comeAll (ps : List S54) (x : List Bool × List ByteArray × List ByteArray) : List Bool × List ByteArray × List ByteArray := ps.foldl (fun x p => (comeSp p x.1, comeSl p x.2.1, comeRg p x.2.2)) x
set_option maxHeartbeats 4000000 in
set_option maxRecDepth 100000 in
theorem flush_calls (g : Nat) (st : Int) (sp : List Bool) (sl rg : List ByteArray) (ns : List (Nat × Pt)) (w : World) (hD : Drv w g st sp sl rg ns) (hp : ∀ x ∈ ns, putB x.2 = true) :
    Calls Try.prog 78 #[.pointer (some ⟨g, 0, none⟩)] w fun e w' => e = .returned (.tuple #[]) ∧ Drv w' g st (comeAll (ns.map (·.2)) (sp, sl, rg)).1 (comeAll (ns.map (·.2)) (sp, sl, rg)).2.1 (comeAll (ns.map (·.2)) (sp, sl, rg)).2.2 [] ∧ Below g w w' ∧ KeepBut w w' g none := by
  have hu80 := Try.underlying80
  have hu54 := Try.underlying54
  have hu112 := Try.underlying112
  have HD := Aside0.mk hD
  have HP := Aside0.mk hp
  clear hD hp
  have HB := Aside0.mk (Below.refl g w)
  go_enter Try.func78, Try.ntmps78
  go_wp2
  go_loopg [] ns.length (fun kq w' => ∃ (rs : List (Nat × Pt)) (sp1 : List Bool) (sl1 rg1 : List ByteArray), Aside0 (comeAll (rs.map (·.2)) (sp1, sl1, rg1) = comeAll (ns.map (·.2)) (sp, sl, rg)) ∧ Aside0 (rs.length = kq) ∧ Aside0 (∀ x ∈ rs, putB x.2 = true) ∧ Aside0 (Drv w' g st sp1 sl1 rg1 rs) ∧ Aside0 (Below g w w') ∧ Aside0 (KeepBut w w' g none))
  case atStart => exact ⟨ns, sp, sl, rg, ⟨rfl⟩, ⟨rfl⟩, ⟨HP.out⟩, ⟨HD.out⟩, ⟨HB.out⟩, ⟨KeepBut.refl w g none⟩⟩
  case round =>
    clear HD HB
    obtain ⟨rs, sp1, sl1, rg1, HE, HI, HQ, HD, HB, HK⟩ := hrel
    cases rs with
    | nil =>
      have hfi : wr.cell? ⟨g, 27, none⟩ = some (.pointer none) := (blk_cell HD.out.blk 27).trans (dc_fi HD.out.lsp HD.out.lsl HD.out.lrg)
      go_wp2
      go_end0
      exact ⟨rfl, by rw [← HE.out]; exact (by (with_reducible repeat (first | refine drv_drewN ?_ _ | refine drv_drew ?_)); exact HD.out), (by repeat (first | (with_reducible first | exact HB.out | apply pw_below_drewN | apply below_drew1) | exact HB.out)), by (with_reducible repeat (first | apply keep_drewN | apply keep_drew)); exact HK.out⟩
    | cons x rs =>
      obtain ⟨b, p⟩ := x
      have hn := drv_first HD.out
      obtain ⟨q, hnx⟩ : ∃ q, toN rs (.pointer none) = .pointer q := by cases rs <;> exact ⟨_, rfl⟩
      have HNX := Aside0.mk hnx
      have hfi := hn.1
      have hc_0 := hn.2.1
      have hc_1 := hn.2.2.1
      have hc_2 := hn.2.2.2.1
      have HPB := Aside0.mk (HQ.out (b, p) (by simp))
      clear hn hnx
      go_wp2_with (first | (go_at_call 100; refine (come_calls g st sp1 sl1 rg1 ((b, p) :: rs) p _ (by (with_reducible repeat (first | refine drv_drewN ?_ _ | refine drv_drew ?_)); exact HD.out) HPB.out).mono ?_; rintro e w9 ⟨rfl, hd, hb, hk⟩; have nj_ := Aside0.mk (KeepBut.trans (by (with_reducible repeat (first | apply keep_drewN | apply keep_drew)); exact HK.out) hk (.inl rfl)); clear HK hk; have HK := nj_; clear nj_; have hn9 := drv_first hd; have nb_ := Aside0.mk (Below.trans (by repeat (first | (with_reducible first | exact HB.out | apply pw_below_drewN | apply below_drew1) | exact HB.out)) hb); have HD9 := Aside0.mk hd; clear HB HD; have HB := nb_; clear nb_ hd hb; have hfi9 : w9.cell? ⟨g, 27, none⟩ = some (.pointer (some ⟨b, 0, none⟩)) := hn9.1; have hff9 : w9.frozen? ⟨g, 27, none⟩ = false := hn9.2.2.2.2.2; have hnx9 : w9.cell? ⟨b, 3, none⟩ = some (.pointer q) := (HNX.out ▸ hn9.2.2.2.2.1); clear hn9))
      go_roundg (gk - 1)
      case measure => have := HI.out; simp only [List.length_cons] at this; omega
      case rel =>
        exact ⟨rs, comeSp p sp1, comeSl p sl1, comeRg p rg1, ⟨by rw [← HE.out]; rfl⟩, ⟨by have := HI.out; simp only [List.length_cons] at this; omega⟩, ⟨fun x hx => HQ.out x (List.mem_cons_of_mem _ hx)⟩,
          ⟨by (with_reducible repeat (first | refine drv_drewN ?_ _ | refine drv_drew ?_)); rw [← HNX.out]; exact Drv.drop HD9.out⟩, ⟨by repeat (first | exact HB.out | refine Below.setCell (p := ⟨g, 27, none⟩) ?_ (Nat.le_refl g) _ | apply pw_below_drewN | apply below_drew1)⟩, ⟨by (with_reducible repeat (first | apply keep_drewN | apply keep_drew)); exact KeepBut.set_ HK.out _ _⟩⟩
end Go.Proofs.Ytkgpnloghmbmlaa.Print
namespace Go.Proofs.Ytkgpnloghmbmlaa.Print
open Go.RowKit Go.Proofs.YtkgpnloghmbmlaaW.PrintWords Go.Proofs.YtkgpnloghmbmlaaW.PrintLast Go.Proofs.YtkgpnloghmbmlaaW.PrintMore Go.Proofs.Ytkgpnloghmbmlaa.Drv
set_option linter.unusedVariables false
set_option linter.unusedSimpArgs false
set_option maxHeartbeats 4000000 in
set_option maxRecDepth 100000 in
theorem changed_bad (a0_0 : Int) (A0_1 : Option Addr) (c0_1 : Nat) (l0_1 : List ByteArray) (A0_2 : Option Addr) (c0_2 : Nat) (l0_2 : List ByteArray) (A0_3 : Option Addr) (c0_3 : Nat) (l0_3 : List Bool) (A0_4 : Option Addr) (c0_4 : Nat) (l0_4 : List (S54)) (fv : Value) (w : World) (hr0_1 : Kd.C Kd.string w A0_1 l0_1.length l0_1) (hc0_1 : l0_1.length ≤ c0_1) (hr0_2 : Kd.C Kd.string w A0_2 l0_2.length l0_2) (hc0_2 : l0_2.length ≤ c0_2) (hr0_3 : Kd.C Kd.bool w A0_3 l0_3.length l0_3) (hc0_3 : l0_3.length ≤ c0_3) (hr0_4 : Kd.C k54 w A0_4 l0_4.length l0_4) (hc0_4 : l0_4.length ≤ c0_4) (hg : ¬ Good a0_0 l0_1 l0_2 l0_3 l0_4) :
    Calls Try.prog 76 #[.agg #[.int .i64 a0_0, .slice A0_1 l0_1.length c0_1, .slice A0_2 l0_2.length c0_2, .slice A0_3 l0_3.length c0_3, .slice A0_4 l0_4.length c0_4], fv] w fun e w' => ∃ v1_ v2_ v3_ v4_ : Value, e = .returned (.agg #[.int .i64 0, v1_, v2_, v3_, v4_]) ∧ Kd.R Kd.string 9 w' w.heap.size (fun k_ => some k_ ≠ (v2_ : Value).ownBlock) v1_ ([] : List ByteArray) ∧ Kd.R Kd.string 9 w' w.heap.size (fun k_ => some k_ ≠ (v1_ : Value).ownBlock) v2_ ([] : List ByteArray) ∧ Kd.R Kd.bool 4 w' w.heap.size (fun _ => True) v3_ ([] : List Bool) ∧ Kd.R k54 54 w' w.heap.size (fun _ => True) v4_ ([] : List S54) ∧ Below w.heap.size w w' := by
  have hu28 := Try.underlying28
  have HBAD := Aside0.mk (fun (W : World) (hb : Below w.heap.size w W) => readDisk_bad a0_0 A0_1 c0_1 l0_1 A0_2 c0_2 l0_2 A0_3 c0_3 l0_3 A0_4 c0_4 l0_4 W (Kd.C_below hr0_1 hb) hc0_1 (Kd.C_below hr0_2 hb) hc0_2 (Kd.C_below hr0_3 hb) hc0_3 (Kd.C_below hr0_4 hb) hc0_4 hg)
  have HB := Aside0.mk (Below.refl w.heap.size w)
  clear hr0_1 hc0_1 hr0_2 hc0_2 hr0_3 hc0_3 hr0_4 hc0_4 hg
  go_enter Try.func76, Try.ntmps76
  go_wp2_with (first | ((with_reducible refine gate_dst (N := 2) rfl ?_); refine box_event ?hg (N := 2) ?hd (cs := #[.int .i64 a0_0, .slice A0_1 l0_1.length c0_1, .slice A0_2 l0_2.length c0_2, .slice A0_3 l0_3.length c0_3, .slice A0_4 l0_4.length c0_4]) (t := 28) ?hr ?_; (case hd => rfl); (case hg => rfl); (case hr => first | (go_simp; done) | (go_simp; rfl)); intro gb hg w1 hbox hb; have n0_ := Aside0.mk (below_step (by repeat (first | (with_reducible first | exact HB.out | apply below_alloc | apply pw_below_drewN | apply below_drew1) | exact HB.out)) hb); have BD := Aside0.mk hbox; clear HB; have HB := n0_; clear n0_ hb hbox hg; have hcd_0 : w1.cell? ⟨gb, 0, none⟩ = some (.int .i64 a0_0) := (blk_cell BD.out 0).trans rfl; have hcd_1 : w1.cell? ⟨gb, 1, none⟩ = some (.slice A0_1 l0_1.length c0_1) := (blk_cell BD.out 1).trans rfl; have hcd_2 : w1.cell? ⟨gb, 2, none⟩ = some (.slice A0_2 l0_2.length c0_2) := (blk_cell BD.out 2).trans rfl; have hcd_3 : w1.cell? ⟨gb, 3, none⟩ = some (.slice A0_3 l0_3.length c0_3) := (blk_cell BD.out 3).trans rfl; have hcd_4 : w1.cell? ⟨gb, 4, none⟩ = some (.slice A0_4 l0_4.length c0_4) := (blk_cell BD.out 4).trans rfl) | ((with_reducible refine gate_dst (N := 4) rfl ?_); refine box_event ?hg (N := 4) ?hd (cs := #[.int .i64 0, .slice none 0 0, .slice none 0 0, .slice none 0 0, .slice none 0 0]) (t := 28) ?hr ?_; (case hd => rfl); (case hg => rfl); (case hr => first | (go_simp; done) | (go_simp; rfl)); intro gr hg w2 hbox hb; have n0_ := Aside0.mk (below_step (by repeat (first | (with_reducible first | exact HB.out | apply below_alloc | apply pw_below_drewN | apply below_drew1) | exact HB.out)) hb); have BK := Aside0.mk hbox; have HGR : Aside0 (w.heap.size ≤ gr) := ⟨by rw [hg]; exact (below_size (by repeat (first | (with_reducible first | exact HB.out | apply below_alloc | apply pw_below_drewN | apply below_drew1) | exact HB.out)))⟩; have nd_ := Aside0.mk (blk_below (g := gb) (o := .cells #[.int .i64 a0_0, .slice A0_1 l0_1.length c0_1, .slice A0_2 l0_2.length c0_2, .slice A0_3 l0_3.length c0_3, .slice A0_4 l0_4.length c0_4] 28 (0, 0)) (by (with_reducible repeat (first | refine blk_drewN ?_ _ | refine blk_drew ?_ | refine blk_alloc ?_ _)); exact BD.out) hb); clear HB BD; have HB := n0_; have BD := nd_; clear n0_ nd_ hb hbox hg; have hcd_0 : w2.cell? ⟨gb, 0, none⟩ = some (.int .i64 a0_0) := (blk_cell BD.out 0).trans rfl; have hcd_1 : w2.cell? ⟨gb, 1, none⟩ = some (.slice A0_1 l0_1.length c0_1) := (blk_cell BD.out 1).trans rfl; have hcd_2 : w2.cell? ⟨gb, 2, none⟩ = some (.slice A0_2 l0_2.length c0_2) := (blk_cell BD.out 2).trans rfl; have hcd_3 : w2.cell? ⟨gb, 3, none⟩ = some (.slice A0_3 l0_3.length c0_3) := (blk_cell BD.out 3).trans rfl; have hcd_4 : w2.cell? ⟨gb, 4, none⟩ = some (.slice A0_4 l0_4.length c0_4) := (blk_cell BD.out 4).trans rfl) | (go_at_call 52; refine (HBAD.out _ (by repeat (first | (with_reducible first | exact HB.out | apply below_alloc | apply pw_below_drewN | apply below_drew1) | exact HB.out))).mono ?_; rintro e w9 ⟨rfl, hb⟩; have n0_ := Aside0.mk (below_step (by repeat (first | (with_reducible first | exact HB.out | apply below_alloc | apply pw_below_drewN | apply below_drew1) | exact HB.out)) hb); have nk_ := Aside0.mk (blk_below (g := gr) (o := .cells #[.int .i64 0, .slice none 0 0, .slice none 0 0, .slice none 0 0, .slice none 0 0] 28 (0, 0)) (by (with_reducible repeat (first | refine blk_drewN ?_ _ | refine blk_drew ?_ | refine blk_alloc ?_ _)); exact BK.out) hb); clear HB BK; have HB := n0_; have BK := nk_; clear n0_ nk_ hb; have hcz_0 : w9.cell? ⟨gr, 0, none⟩ = some (.int .i64 0) := (blk_cell BK.out 0).trans rfl; have hcz_1 : w9.cell? ⟨gr, 1, none⟩ = some (.slice none 0 0) := (blk_cell BK.out 1).trans rfl; have hcz_2 : w9.cell? ⟨gr, 2, none⟩ = some (.slice none 0 0) := (blk_cell BK.out 2).trans rfl; have hcz_3 : w9.cell? ⟨gr, 3, none⟩ = some (.slice none 0 0) := (blk_cell BK.out 3).trans rfl; have hcz_4 : w9.cell? ⟨gr, 4, none⟩ = some (.slice none 0 0) := (blk_cell BK.out 4).trans rfl; have hfz_0 := blk_frozen BK.out 0; have hfz_1 := blk_frozen BK.out 1; have hfz_2 := blk_frozen BK.out 2; have hfz_3 := blk_frozen BK.out 3; have hfz_4 := blk_frozen BK.out 4))
  have hset : ∀ {W : World} (h : Below w.heap.size w W) (j : Nat) (u : Value), Below w.heap.size w (W.setCell ⟨gr, j, none⟩ u) := fun h j u => below_set h HGR.out
  refine bodyPost_ret (results_cell_row rfl _ _ gr 28 #[.int .i64 0, .slice none 0 0, .slice none 0 0, .slice none 0 0, .slice none 0 0] (0, 0) _ rfl (by
    refine blk_put (cs := #[.int .i64 0, .slice none 0 0, .slice none 0 0, .slice none 0 0, .slice none 0 0]) ?_ 4 _ rfl
    refine blk_put (cs := #[.int .i64 0, .slice none 0 0, .slice none 0 0, .slice none 0 0, .slice none 0 0]) ?_ 3 _ rfl
    refine blk_put (cs := #[.int .i64 0, .slice none 0 0, .slice none 0 0, .slice none 0 0, .slice none 0 0]) ?_ 2 _ rfl
    refine blk_put (cs := #[.int .i64 0, .slice none 0 0, .slice none 0 0, .slice none 0 0, .slice none 0 0]) ?_ 1 _ rfl
    refine blk_put (cs := #[.int .i64 0, .slice none 0 0, .slice none 0 0, .slice none 0 0, .slice none 0 0]) ?_ 0 _ rfl
    exact BK.out) Try.underlying28 rfl (by kernel_rfl)) rfl ?_
  exact ⟨_, _, _, _, rfl, Kd.R_nil _ _ _ _ _, Kd.R_nil _ _ _ _ _, Kd.R_nil _ _ _ _ _, Kd.R_nil _ _ _ _ _, hset (hset (hset (hset (hset HB.out 0 _) 1 _) 2 _) 3 _) 4 _⟩
theorem readDisk_good2 (a0_0 : Int) (A0_1 : Option Addr) (c0_1 : Nat) (l0_1 : List ByteArray) (A0_2 : Option Addr) (c0_2 : Nat) (l0_2 : List ByteArray) (A0_3 : Option Addr) (c0_3 : Nat) (l0_3 : List Bool) (A0_4 : Option Addr) (c0_4 : Nat) (l0_4 : List (S54)) (w : World) (hr0_1 : Kd.C Kd.string w A0_1 l0_1.length l0_1) (hc0_1 : l0_1.length ≤ c0_1) (hr0_2 : Kd.C Kd.string w A0_2 l0_2.length l0_2) (hc0_2 : l0_2.length ≤ c0_2) (hr0_3 : Kd.C Kd.bool w A0_3 l0_3.length l0_3) (hc0_3 : l0_3.length ≤ c0_3) (hr0_4 : Kd.C k54 w A0_4 l0_4.length l0_4) (hc0_4 : l0_4.length ≤ c0_4) (hg : Good a0_0 l0_1 l0_2 l0_3 l0_4) :
    Calls Try.prog 52 #[.agg #[.int .i64 a0_0, .slice A0_1 l0_1.length c0_1, .slice A0_2 l0_2.length c0_2, .slice A0_3 l0_3.length c0_3, .slice A0_4 l0_4.length c0_4]] w fun e w' => ∃ g ns, e = .returned (.tuple #[.pointer (some ⟨g, 0, none⟩), .bool true]) ∧ w.heap.size ≤ g ∧ Drv w' g a0_0 l0_3 l0_1 l0_2 ns ∧ ns.map (·.2) = l0_4 ∧ Below w.heap.size w w' :=
  (readDisk_calls a0_0 A0_1 c0_1 l0_1 A0_2 c0_2 l0_2 A0_3 c0_3 l0_3 A0_4 c0_4 l0_4 w hr0_1 hc0_1 hr0_2 hc0_2 hr0_3 hc0_3 hr0_4 hc0_4).mono fun e w' h => by
    rcases h with h | ⟨_, g, ns, h1, h2, h3, h4, h5⟩
    · exact absurd hg h.1
    · exact ⟨g, ns, h1, h2, h3, h4, h5⟩
set_option maxHeartbeats 4000000 in
set_option maxRecDepth 100000 in
theorem changed_flush (a0_0 : Int) (A0_1 : Option Addr) (c0_1 : Nat) (l0_1 : List ByteArray) (A0_2 : Option Addr) (c0_2 : Nat) (l0_2 : List ByteArray) (A0_3 : Option Addr) (c0_3 : Nat) (l0_3 : List Bool) (A0_4 : Option Addr) (c0_4 : Nat) (l0_4 : List (S54))  (w : World) (hr0_1 : Kd.C Kd.string w A0_1 l0_1.length l0_1) (hc0_1 : l0_1.length ≤ c0_1) (hr0_2 : Kd.C Kd.string w A0_2 l0_2.length l0_2) (hc0_2 : l0_2.length ≤ c0_2) (hr0_3 : Kd.C Kd.bool w A0_3 l0_3.length l0_3) (hc0_3 : l0_3.length ≤ c0_3) (hr0_4 : Kd.C k54 w A0_4 l0_4.length l0_4) (hc0_4 : l0_4.length ≤ c0_4) (hg : Good a0_0 l0_1 l0_2 l0_3 l0_4) (sp2 : List Bool) (sl2 rg2 : List ByteArray) (ws2 : List S54) (hlen : ws2.length ≤ 40)
    (hcl : ∀ (W : World), Below w.heap.size w W → ∀ (g : Nat) (ns : List (Nat × Pt)), Drv W g a0_0 l0_3 l0_1 l0_2 ns → ns.map (·.2) = l0_4 → w.heap.size ≤ g → Calls Try.prog 77 #[.pointer (some ⟨g, 0, none⟩)] W fun e w' => ∃ ns2, e = .returned (.bool true) ∧ Drv w' g a0_0 sp2 sl2 rg2 ns2 ∧ ns2.map (·.2) = ws2 ∧ Below g W w') :
    Calls Try.prog 76 #[.agg #[.int .i64 a0_0, .slice A0_1 l0_1.length c0_1, .slice A0_2 l0_2.length c0_2, .slice A0_3 l0_3.length c0_3, .slice A0_4 l0_4.length c0_4], .func (.func 77) #[] #[]] w fun e w' => ∃ v1_ v2_ v3_ v4_ : Value, e = .returned (.agg #[.int .i64 a0_0, v1_, v2_, v3_, v4_]) ∧ Kd.R Kd.string 9 w' w.heap.size (fun k_ => some k_ ≠ (v2_ : Value).ownBlock) v1_ sl2 ∧ Kd.R Kd.string 9 w' w.heap.size (fun k_ => some k_ ≠ (v1_ : Value).ownBlock) v2_ rg2 ∧ Kd.R Kd.bool 4 w' w.heap.size (fun _ => True) v3_ sp2 ∧ Kd.R k54 54 w' w.heap.size (fun _ => True) v4_ ws2 ∧ Below w.heap.size w w' := by
  have hu28 := Try.underlying28
  have HGD := Aside0.mk (fun (W : World) (hb : Below w.heap.size w W) => readDisk_good2 a0_0 A0_1 c0_1 l0_1 A0_2 c0_2 l0_2 A0_3 c0_3 l0_3 A0_4 c0_4 l0_4 W (Kd.C_below hr0_1 hb) hc0_1 (Kd.C_below hr0_2 hb) hc0_2 (Kd.C_below hr0_3 hb) hc0_3 (Kd.C_below hr0_4 hb) hc0_4 hg)
  have HCL := Aside0.mk hcl
  have HLEN := Aside0.mk hlen
  have HB := Aside0.mk (Below.refl w.heap.size w)
  clear hr0_1 hc0_1 hr0_2 hc0_2 hr0_3 hc0_3 hr0_4 hc0_4 hg hcl hlen
  go_enter Try.func76, Try.ntmps76
  go_wp2_with (first | ((with_reducible refine gate_dst (N := 2) rfl ?_); refine box_event ?hg (N := 2) ?hd (cs := #[.int .i64 a0_0, .slice A0_1 l0_1.length c0_1, .slice A0_2 l0_2.length c0_2, .slice A0_3 l0_3.length c0_3, .slice A0_4 l0_4.length c0_4]) (t := 28) ?hr ?_; (case hd => rfl); (case hg => rfl); (case hr => first | (go_simp; done) | (go_simp; rfl)); intro gb hg w1 hbox hb; have n0_ := Aside0.mk (below_step (by repeat (first | (with_reducible first | exact HB.out | apply below_alloc | apply pw_below_drewN | apply below_drew1) | exact HB.out)) hb); have BD := Aside0.mk hbox; clear HB; have HB := n0_; clear n0_ hb hbox hg; have hcd_0 : w1.cell? ⟨gb, 0, none⟩ = some (.int .i64 a0_0) := (blk_cell BD.out 0).trans rfl; have hcd_1 : w1.cell? ⟨gb, 1, none⟩ = some (.slice A0_1 l0_1.length c0_1) := (blk_cell BD.out 1).trans rfl; have hcd_2 : w1.cell? ⟨gb, 2, none⟩ = some (.slice A0_2 l0_2.length c0_2) := (blk_cell BD.out 2).trans rfl; have hcd_3 : w1.cell? ⟨gb, 3, none⟩ = some (.slice A0_3 l0_3.length c0_3) := (blk_cell BD.out 3).trans rfl; have hcd_4 : w1.cell? ⟨gb, 4, none⟩ = some (.slice A0_4 l0_4.length c0_4) := (blk_cell BD.out 4).trans rfl) | ((with_reducible refine gate_dst (N := 4) rfl ?_); refine box_event ?hg (N := 4) ?hd (cs := #[.int .i64 0, .slice none 0 0, .slice none 0 0, .slice none 0 0, .slice none 0 0]) (t := 28) ?hr ?_; (case hd => rfl); (case hg => rfl); (case hr => first | (go_simp; done) | (go_simp; rfl)); intro gr hg w2 hbox hb; have n0_ := Aside0.mk (below_step (by repeat (first | (with_reducible first | exact HB.out | apply below_alloc | apply pw_below_drewN | apply below_drew1) | exact HB.out)) hb); have BK := Aside0.mk hbox; have HGR : Aside0 (w.heap.size ≤ gr) := ⟨by rw [hg]; exact (below_size (by repeat (first | (with_reducible first | exact HB.out | apply below_alloc | apply pw_below_drewN | apply below_drew1) | exact HB.out)))⟩; have nd_ := Aside0.mk (blk_below (g := gb) (o := .cells #[.int .i64 a0_0, .slice A0_1 l0_1.length c0_1, .slice A0_2 l0_2.length c0_2, .slice A0_3 l0_3.length c0_3, .slice A0_4 l0_4.length c0_4] 28 (0, 0)) (by (with_reducible repeat (first | refine blk_drewN ?_ _ | refine blk_drew ?_ | refine blk_alloc ?_ _)); exact BD.out) hb); clear HB BD; have HB := n0_; have BD := nd_; clear n0_ nd_ hb hbox hg; have hcd_0 : w2.cell? ⟨gb, 0, none⟩ = some (.int .i64 a0_0) := (blk_cell BD.out 0).trans rfl; have hcd_1 : w2.cell? ⟨gb, 1, none⟩ = some (.slice A0_1 l0_1.length c0_1) := (blk_cell BD.out 1).trans rfl; have hcd_2 : w2.cell? ⟨gb, 2, none⟩ = some (.slice A0_2 l0_2.length c0_2) := (blk_cell BD.out 2).trans rfl; have hcd_3 : w2.cell? ⟨gb, 3, none⟩ = some (.slice A0_3 l0_3.length c0_3) := (blk_cell BD.out 3).trans rfl; have hcd_4 : w2.cell? ⟨gb, 4, none⟩ = some (.slice A0_4 l0_4.length c0_4) := (blk_cell BD.out 4).trans rfl) | (go_at_call 52; refine (HGD.out _ (by repeat (first | (with_reducible first | exact HB.out | apply below_alloc | apply pw_below_drewN | apply below_drew1) | exact HB.out))).mono ?_; rintro e w9 ⟨gd, ns, rfl, hgd, hd, hns, hb⟩; have n0_ := Aside0.mk (below_step (by repeat (first | (with_reducible first | exact HB.out | apply below_alloc | apply pw_below_drewN | apply below_drew1) | exact HB.out)) hb); have nk_ := Aside0.mk (blk_below (g := gr) (o := .cells #[.int .i64 0, .slice none 0 0, .slice none 0 0, .slice none 0 0, .slice none 0 0] 28 (0, 0)) (by (with_reducible repeat (first | refine blk_drewN ?_ _ | refine blk_drew ?_ | refine blk_alloc ?_ _)); exact BK.out) hb); have HRD : Aside0 (gr < gd) := ⟨Nat.lt_of_lt_of_le (blk_lt (by (with_reducible repeat (first | refine blk_drewN ?_ _ | refine blk_drew ?_ | refine blk_alloc ?_ _)); exact BK.out)) hgd⟩; have HWD : Aside0 (w.heap.size ≤ gd) := ⟨Nat.le_trans (below_size (by repeat (first | (with_reducible first | exact HB.out | apply below_alloc | apply pw_below_drewN | apply below_drew1) | exact HB.out))) hgd⟩; have HD := Aside0.mk hd; have HNS := Aside0.mk hns; clear HB BK; have HB := n0_; have BK := nk_; clear n0_ nk_ hb hd hns hgd) | (go_at_call 77; refine (HCL.out _ (by repeat (first | (with_reducible first | exact HB.out | apply below_alloc | apply pw_below_drewN | apply below_drew1) | exact HB.out)) gd ns (by (with_reducible repeat (first | refine drv_drewN ?_ _ | refine drv_drew ?_)); exact HD.out) HNS.out HWD.out).mono ?_; rintro e w10 ⟨ns2, rfl, hd, hns2_, hb⟩; have hns := hns2_; clear hns2_; have hwg := HGR.out; have n0_ := Aside0.mk (Below.trans (by repeat (first | (with_reducible first | exact HB.out | apply below_alloc | apply pw_below_drewN | apply below_drew1) | exact HB.out)) (hb.mono (by have h1 := HGR.out; have h2 := HRD.out; omega))); have nk_ : Aside0 (w10.heap[gr]? = some (.cells #[.int .i64 0, .slice none 0 0, .slice none 0 0, .slice none 0 0, .slice none 0 0] 28 (0, 0))) := ⟨(hb.block gr HRD.out).trans (by (with_reducible repeat (first | refine blk_drewN ?_ _ | refine blk_drew ?_ | refine blk_alloc ?_ _)); exact BK.out)⟩; have nd_ := Aside0.mk hd; have HNS2 := Aside0.mk hns; clear HB BK HD HNS; have HB := n0_; have BK := nk_; have HD := nd_; clear n0_ nk_ nd_ hd hns hb hwg) | (go_at_call 50; refine (disk_calls gd a0_0 sp2 sl2 rg2 ns2 _ (by (with_reducible repeat (first | refine drv_drewN ?_ _ | refine drv_drew ?_)); exact HD.out) (by have h1 := HLEN.out; have h2 := congrArg List.length HNS2.out; rw [List.length_map] at h2; omega)).mono ?_; rintro e w12 ⟨v1, v2, v3, v4, rfl, ho1, ho2, ho3, ho4, hb⟩; rw [HNS2.out] at ho4; obtain ⟨A1, c1, rfl⟩ := Kd.R_slice ho1; obtain ⟨A2, c2, rfl⟩ := Kd.R_slice ho2; obtain ⟨A3, c3, rfl⟩ := Kd.R_slice ho3; obtain ⟨A4, c4, rfl⟩ := Kd.R_slice ho4; have n0_ := Aside0.mk (below_step (by repeat (first | (with_reducible first | exact HB.out | apply below_alloc | apply pw_below_drewN | apply below_drew1) | exact HB.out)) hb); have n1_ := Aside0.mk (blk_below (g := gr) (o := .cells #[.int .i64 0, .slice none 0 0, .slice none 0 0, .slice none 0 0, .slice none 0 0] 28 (0, 0)) (by (with_reducible repeat (first | refine blk_drewN ?_ _ | refine blk_drew ?_ | refine blk_alloc ?_ _)); exact BK.out) hb); have HG5 : Aside0 (gr < _) := ⟨blk_lt (by (with_reducible repeat (first | refine blk_drewN ?_ _ | refine blk_drew ?_ | refine blk_alloc ?_ _)); exact BK.out)⟩; have HS5 : Aside0 (w.heap.size ≤ _) := ⟨below_size (by repeat (first | (with_reducible first | exact HB.out | apply below_alloc | apply pw_below_drewN | apply below_drew1) | exact HB.out))⟩; have HO1 := Aside0.mk ho1; have HO2 := Aside0.mk ho2; have HO3 := Aside0.mk ho3; have HO4 := Aside0.mk ho4; clear HB BK; have HB := n0_; have BK := n1_; clear n0_ n1_ ho1 ho2 ho3 ho4 hb; have hcz_0 : w12.cell? ⟨gr, 0, none⟩ = some (.int .i64 0) := (blk_cell BK.out 0).trans rfl; have hcz_1 : w12.cell? ⟨gr, 1, none⟩ = some (.slice none 0 0) := (blk_cell BK.out 1).trans rfl; have hcz_2 : w12.cell? ⟨gr, 2, none⟩ = some (.slice none 0 0) := (blk_cell BK.out 2).trans rfl; have hcz_3 : w12.cell? ⟨gr, 3, none⟩ = some (.slice none 0 0) := (blk_cell BK.out 3).trans rfl; have hcz_4 : w12.cell? ⟨gr, 4, none⟩ = some (.slice none 0 0) := (blk_cell BK.out 4).trans rfl; have hfz_0 := blk_frozen BK.out 0; have hfz_1 := blk_frozen BK.out 1; have hfz_2 := blk_frozen BK.out 2; have hfz_3 := blk_frozen BK.out 3; have hfz_4 := blk_frozen BK.out 4))
  have hset : ∀ {W : World} (h : Below w.heap.size w W) (j : Nat) (u : Value), Below w.heap.size w (W.setCell ⟨gr, j, none⟩ u) := fun h j u => below_set h HGR.out
  refine bodyPost_ret (results_cell_row rfl _ _ gr 28 #[.int .i64 a0_0, .slice A1 sl2.length c1, .slice A2 rg2.length c2, .slice A3 sp2.length c3, .slice A4 ws2.length c4] (0, 0) _ rfl (by
    refine blk_put (cs := #[.int .i64 a0_0, .slice A1 sl2.length c1, .slice A2 rg2.length c2, .slice A3 sp2.length c3, .slice none 0 0]) ?_ 4 _ rfl
    refine blk_put (cs := #[.int .i64 a0_0, .slice A1 sl2.length c1, .slice A2 rg2.length c2, .slice none 0 0, .slice none 0 0]) ?_ 3 _ rfl
    refine blk_put (cs := #[.int .i64 a0_0, .slice A1 sl2.length c1, .slice none 0 0, .slice none 0 0, .slice none 0 0]) ?_ 2 _ rfl
    refine blk_put (cs := #[.int .i64 a0_0, .slice none 0 0, .slice none 0 0, .slice none 0 0, .slice none 0 0]) ?_ 1 _ rfl
    refine blk_put (cs := #[.int .i64 0, .slice none 0 0, .slice none 0 0, .slice none 0 0, .slice none 0 0]) ?_ 0 _ rfl
    exact BK.out) Try.underlying28 rfl (by kernel_rfl)) rfl ?_
  exact ⟨_, _, _, _, rfl, Kd.R_lower (R_setOwn (R_setOwn (R_setOwn (R_setOwn (R_setOwn HO1.out HG5.out 0 _) HG5.out 1 _) HG5.out 2 _) HG5.out 3 _) HG5.out 4 _) HS5.out,
    Kd.R_lower (R_setOwn (R_setOwn (R_setOwn (R_setOwn (R_setOwn HO2.out HG5.out 0 _) HG5.out 1 _) HG5.out 2 _) HG5.out 3 _) HG5.out 4 _) HS5.out,
    Kd.R_lower (R_setOwn (R_setOwn (R_setOwn (R_setOwn (R_setOwn HO3.out HG5.out 0 _) HG5.out 1 _) HG5.out 2 _) HG5.out 3 _) HG5.out 4 _) HS5.out,
    Kd.R_lower (R_setOwn (R_setOwn (R_setOwn (R_setOwn (R_setOwn HO4.out HG5.out 0 _) HG5.out 1 _) HG5.out 2 _) HG5.out 3 _) HG5.out 4 _) HS5.out,
    hset (hset (hset (hset (hset HB.out 0 _) 1 _) 2 _) 3 _) 4 _⟩
end Go.Proofs.Ytkgpnloghmbmlaa.Print
namespace Go.Proofs.Ytkgpnloghmbmlaa.Print
open Go.RowKit Go.Proofs.YtkgpnloghmbmlaaW.PrintWords Go.Proofs.YtkgpnloghmbmlaaW.PrintLast Go.Proofs.YtkgpnloghmbmlaaW.PrintMore Go.Proofs.Ytkgpnloghmbmlaa.Drv
set_option linter.unusedVariables false
set_option linter.unusedSimpArgs false
set_option maxHeartbeats 4000000 in
theorem flushFn (g : Nat) (st : Int) (sp : List Bool) (sl rg : List ByteArray) (ns : List (Nat × Pt)) (w : World) (hD : Drv w g st sp sl rg ns) (hp : ∀ x ∈ ns, putB x.2 = true) :
    Calls Try.prog 77 #[.pointer (some ⟨g, 0, none⟩)] w fun e w' => e = .returned (.bool true) ∧ Drv w' g st (comeAll (ns.map (·.2)) (sp, sl, rg)).1 (comeAll (ns.map (·.2)) (sp, sl, rg)).2.1 (comeAll (ns.map (·.2)) (sp, sl, rg)).2.2 [] ∧ Below g w w' := by
  have HF := Aside0.mk (flush_calls g st sp sl rg ns w hD hp)
  clear hD hp
  go_enter Try.func77, Try.ntmps77
  go_wp2_with (first | (go_at_call 78; refine HF.out.mono ?_; rintro e w9 ⟨rfl, hd, hb, hk⟩; have HD := Aside0.mk hd; have HB := Aside0.mk hb; clear hd hb hk))
  go_ret
  exact ⟨rfl, (by (with_reducible repeat (first | refine drv_drewN ?_ _ | refine drv_drew ?_)); exact HD.out), (by repeat (first | (with_reducible first | exact HB.out | apply pw_below_drewN | apply below_drew1) | exact HB.out))⟩
def impl_DiskFlush.f (a0_0 : Int) (l0_1 l0_2 : List ByteArray) (l0_3 : List Bool) (l0_4 : List S54) : Option (Int × List ByteArray × List ByteArray × List Bool × List S54) :=
  if Good a0_0 l0_1 l0_2 l0_3 l0_4 then some (a0_0, (comeAll l0_4 (l0_3, l0_1, l0_2)).2.1, (comeAll l0_4 (l0_3, l0_1, l0_2)).2.2, (comeAll l0_4 (l0_3, l0_1, l0_2)).1, []) else some (0, [], [], [], [])
set_option maxHeartbeats 4000000 in
set_option maxRecDepth 100000 in
theorem impl_DiskFlush.calls (a0_0 : Int) (A0_1 : Option Addr) (c0_1 : Nat) (l0_1 : List ByteArray) (A0_2 : Option Addr) (c0_2 : Nat) (l0_2 : List ByteArray) (A0_3 : Option Addr) (c0_3 : Nat) (l0_3 : List Bool) (A0_4 : Option Addr) (c0_4 : Nat) (l0_4 : List (S54)) (r1 : Int) (r2 : List ByteArray) (r3 : List ByteArray) (r4 : List Bool) (r5 : List (S54)) (w : World) (hr0_1 : Kd.C Kd.string w A0_1 l0_1.length l0_1) (hc0_1 : l0_1.length ≤ c0_1) (hr0_2 : Kd.C Kd.string w A0_2 l0_2.length l0_2) (hc0_2 : l0_2.length ≤ c0_2) (hr0_3 : Kd.C Kd.bool w A0_3 l0_3.length l0_3) (hc0_3 : l0_3.length ≤ c0_3) (hr0_4 : Kd.C k54 w A0_4 l0_4.length l0_4) (hc0_4 : l0_4.length ≤ c0_4) (h : impl_DiskFlush.f a0_0 l0_1 l0_2 l0_3 l0_4 = some (r1, r2, r3, r4, r5)) :
    Calls Try.prog 35 #[.agg #[.int .i64 a0_0, .slice A0_1 l0_1.length c0_1, .slice A0_2 l0_2.length c0_2, .slice A0_3 l0_3.length c0_3, .slice A0_4 l0_4.length c0_4]] w fun e w' => ∃ v1_ v2_ v3_ v4_ : Value, e = .returned (.agg #[.int .i64 r1, v1_, v2_, v3_, v4_]) ∧ Kd.R Kd.string 9 w' w.heap.size (fun k_ => some k_ ≠ (v2_ : Value).ownBlock) v1_ r2 ∧ Kd.R Kd.string 9 w' w.heap.size (fun k_ => some k_ ≠ (v1_ : Value).ownBlock) v2_ r3 ∧ Kd.R Kd.bool 4 w' w.heap.size (fun _ => True) v3_ r4 ∧ Kd.R k54 54 w' w.heap.size (fun _ => True) v4_ r5 ∧ Below w.heap.size w w' := by
  have key : ∀ (W : World), Below w.heap.size w W → Calls Try.prog 76 #[.agg #[.int .i64 a0_0, .slice A0_1 l0_1.length c0_1, .slice A0_2 l0_2.length c0_2, .slice A0_3 l0_3.length c0_3, .slice A0_4 l0_4.length c0_4], .func (.func 77) #[] #[]] W fun e w' => ∃ v1_ v2_ v3_ v4_ : Value, e = .returned (.agg #[.int .i64 r1, v1_, v2_, v3_, v4_]) ∧ Kd.R Kd.string 9 w' W.heap.size (fun k_ => some k_ ≠ (v2_ : Value).ownBlock) v1_ r2 ∧ Kd.R Kd.string 9 w' W.heap.size (fun k_ => some k_ ≠ (v1_ : Value).ownBlock) v2_ r3 ∧ Kd.R Kd.bool 4 w' W.heap.size (fun _ => True) v3_ r4 ∧ Kd.R k54 54 w' W.heap.size (fun _ => True) v4_ r5 ∧ Below W.heap.size W w' := fun W hb => by
    by_cases hg : Good a0_0 l0_1 l0_2 l0_3 l0_4
    · rw [impl_DiskFlush.f, if_pos hg] at h
      simp only [Option.some.injEq, Prod.mk.injEq] at h
      obtain ⟨rfl, rfl, rfl, rfl, rfl⟩ := h
      refine changed_flush a0_0 A0_1 c0_1 l0_1 A0_2 c0_2 l0_2 A0_3 c0_3 l0_3 A0_4 c0_4 l0_4 W (Kd.C_below hr0_1 hb) hc0_1 (Kd.C_below hr0_2 hb) hc0_2 (Kd.C_below hr0_3 hb) hc0_3 (Kd.C_below hr0_4 hb) hc0_4 hg _ _ _ [] (by simp) (fun W2 _ g ns hD hns _ => ?_)
      have hp : ∀ x ∈ ns, putB x.2 = true := fun x hx => by
        have h1 := hg.wa
        rw [List.any_eq_false] at h1
        have h2 := h1 x.2 (by rw [← hns]; exact List.mem_map_of_mem hx)
        simpa using h2
      refine (flushFn g a0_0 l0_3 l0_1 l0_2 ns W2 hD hp).mono fun e w' hh => ⟨[], hh.1, ?_, rfl, hh.2.2⟩
      have := hh.2.1
      rw [hns] at this
      exact this
    · rw [impl_DiskFlush.f, if_neg hg] at h
      simp only [Option.some.injEq, Prod.mk.injEq] at h
      obtain ⟨rfl, rfl, rfl, rfl, rfl⟩ := h
      exact changed_bad a0_0 A0_1 c0_1 l0_1 A0_2 c0_2 l0_2 A0_3 c0_3 l0_3 A0_4 c0_4 l0_4 _ W (Kd.C_below hr0_1 hb) hc0_1 (Kd.C_below hr0_2 hb) hc0_2 (Kd.C_below hr0_3 hb) hc0_3 (Kd.C_below hr0_4 hb) hc0_4 hg
  have HK := Aside0.mk key
  have HB := Aside0.mk (Below.refl w.heap.size w)
  clear hr0_1 hc0_1 hr0_2 hc0_2 hr0_3 hc0_3 hr0_4 hc0_4 h key
  have hu28 := Try.underlying28
  go_enter Try.func35, Try.ntmps35
  go_wp2_with (first | ((with_reducible refine gate_dst (N := 1) rfl ?_); refine box_event ?hg (N := 1) ?hd (cs := #[.int .i64 a0_0, .slice A0_1 l0_1.length c0_1, .slice A0_2 l0_2.length c0_2, .slice A0_3 l0_3.length c0_3, .slice A0_4 l0_4.length c0_4]) (t := 28) ?hr ?_; (case hd => rfl); (case hg => rfl); (case hr => first | (go_simp; done) | (go_simp; rfl)); intro gb hg w1 hbox hb; have n0_ := Aside0.mk (below_step (by repeat (first | (with_reducible first | exact HB.out | apply below_alloc | apply pw_below_drewN | apply below_drew1) | exact HB.out)) hb); have BD := Aside0.mk hbox; clear HB; have HB := n0_; clear n0_ hb hbox hg; have hcd_0 : w1.cell? ⟨gb, 0, none⟩ = some (.int .i64 a0_0) := (blk_cell BD.out 0).trans rfl; have hcd_1 : w1.cell? ⟨gb, 1, none⟩ = some (.slice A0_1 l0_1.length c0_1) := (blk_cell BD.out 1).trans rfl; have hcd_2 : w1.cell? ⟨gb, 2, none⟩ = some (.slice A0_2 l0_2.length c0_2) := (blk_cell BD.out 2).trans rfl; have hcd_3 : w1.cell? ⟨gb, 3, none⟩ = some (.slice A0_3 l0_3.length c0_3) := (blk_cell BD.out 3).trans rfl; have hcd_4 : w1.cell? ⟨gb, 4, none⟩ = some (.slice A0_4 l0_4.length c0_4) := (blk_cell BD.out 4).trans rfl) | ((with_reducible refine gate_dst (N := 2) rfl ?_); refine box_event ?hg (N := 2) ?hd (cs := #[.int .i64 0, .slice none 0 0, .slice none 0 0, .slice none 0 0, .slice none 0 0]) (t := 28) ?hr ?_; (case hd => rfl); (case hg => rfl); (case hr => first | (go_simp; done) | (go_simp; rfl)); intro gr hg w2 hbox hb; have n0_ := Aside0.mk (below_step (by repeat (first | (with_reducible first | exact HB.out | apply below_alloc | apply pw_below_drewN | apply below_drew1) | exact HB.out)) hb); have BK := Aside0.mk hbox; have HGR : Aside0 (w.heap.size ≤ gr) := ⟨by rw [hg]; exact (below_size (by repeat (first | (with_reducible first | exact HB.out | apply below_alloc | apply pw_below_drewN | apply below_drew1) | exact HB.out)))⟩; have nd_ := Aside0.mk (blk_below (g := gb) (o := .cells #[.int .i64 a0_0, .slice A0_1 l0_1.length c0_1, .slice A0_2 l0_2.length c0_2, .slice A0_3 l0_3.length c0_3, .slice A0_4 l0_4.length c0_4] 28 (0, 0)) (by (with_reducible repeat (first | refine blk_drewN ?_ _ | refine blk_drew ?_ | refine blk_alloc ?_ _)); exact BD.out) hb); clear HB BD; have HB := n0_; have BD := nd_; clear n0_ nd_ hb hbox hg; have hcd_0 : w2.cell? ⟨gb, 0, none⟩ = some (.int .i64 a0_0) := (blk_cell BD.out 0).trans rfl; have hcd_1 : w2.cell? ⟨gb, 1, none⟩ = some (.slice A0_1 l0_1.length c0_1) := (blk_cell BD.out 1).trans rfl; have hcd_2 : w2.cell? ⟨gb, 2, none⟩ = some (.slice A0_2 l0_2.length c0_2) := (blk_cell BD.out 2).trans rfl; have hcd_3 : w2.cell? ⟨gb, 3, none⟩ = some (.slice A0_3 l0_3.length c0_3) := (blk_cell BD.out 3).trans rfl; have hcd_4 : w2.cell? ⟨gb, 4, none⟩ = some (.slice A0_4 l0_4.length c0_4) := (blk_cell BD.out 4).trans rfl) | (go_at_call 76; refine (HK.out _ (by repeat (first | (with_reducible first | exact HB.out | apply below_alloc | apply pw_below_drewN | apply below_drew1) | exact HB.out))).mono ?_; rintro e w12 ⟨v1, v2, v3, v4, rfl, ho1, ho2, ho3, ho4, hb⟩; obtain ⟨A1, c1, rfl⟩ := Kd.R_slice ho1; obtain ⟨A2, c2, rfl⟩ := Kd.R_slice ho2; obtain ⟨A3, c3, rfl⟩ := Kd.R_slice ho3; obtain ⟨A4, c4, rfl⟩ := Kd.R_slice ho4; have n0_ := Aside0.mk (below_step (by repeat (first | (with_reducible first | exact HB.out | apply below_alloc | apply pw_below_drewN | apply below_drew1) | exact HB.out)) hb); have n1_ := Aside0.mk (blk_below (g := gr) (o := .cells #[.int .i64 0, .slice none 0 0, .slice none 0 0, .slice none 0 0, .slice none 0 0] 28 (0, 0)) (by (with_reducible repeat (first | refine blk_drewN ?_ _ | refine blk_drew ?_ | refine blk_alloc ?_ _)); exact BK.out) hb); have HG5 : Aside0 (gr < _) := ⟨blk_lt (by (with_reducible repeat (first | refine blk_drewN ?_ _ | refine blk_drew ?_ | refine blk_alloc ?_ _)); exact BK.out)⟩; have HS5 : Aside0 (w.heap.size ≤ _) := ⟨below_size (by repeat (first | (with_reducible first | exact HB.out | apply below_alloc | apply pw_below_drewN | apply below_drew1) | exact HB.out))⟩; have HO1 := Aside0.mk ho1; have HO2 := Aside0.mk ho2; have HO3 := Aside0.mk ho3; have HO4 := Aside0.mk ho4; clear HB BK; have HB := n0_; have BK := n1_; clear n0_ n1_ ho1 ho2 ho3 ho4 hb; have hcz_0 : w12.cell? ⟨gr, 0, none⟩ = some (.int .i64 0) := (blk_cell BK.out 0).trans rfl; have hcz_1 : w12.cell? ⟨gr, 1, none⟩ = some (.slice none 0 0) := (blk_cell BK.out 1).trans rfl; have hcz_2 : w12.cell? ⟨gr, 2, none⟩ = some (.slice none 0 0) := (blk_cell BK.out 2).trans rfl; have hcz_3 : w12.cell? ⟨gr, 3, none⟩ = some (.slice none 0 0) := (blk_cell BK.out 3).trans rfl; have hcz_4 : w12.cell? ⟨gr, 4, none⟩ = some (.slice none 0 0) := (blk_cell BK.out 4).trans rfl; have hfz_0 := blk_frozen BK.out 0; have hfz_1 := blk_frozen BK.out 1; have hfz_2 := blk_frozen BK.out 2; have hfz_3 := blk_frozen BK.out 3; have hfz_4 := blk_frozen BK.out 4))
  have hset : ∀ {W : World} (h : Below w.heap.size w W) (j : Nat) (u : Value), Below w.heap.size w (W.setCell ⟨gr, j, none⟩ u) := fun h j u => below_set h HGR.out
  refine bodyPost_ret (results_cell_row rfl _ _ gr 28 #[.int .i64 r1, .slice A1 r2.length c1, .slice A2 r3.length c2, .slice A3 r4.length c3, .slice A4 r5.length c4] (0, 0) _ rfl (by
    refine blk_put (cs := #[.int .i64 r1, .slice A1 r2.length c1, .slice A2 r3.length c2, .slice A3 r4.length c3, .slice none 0 0]) ?_ 4 _ rfl
    refine blk_put (cs := #[.int .i64 r1, .slice A1 r2.length c1, .slice A2 r3.length c2, .slice none 0 0, .slice none 0 0]) ?_ 3 _ rfl
    refine blk_put (cs := #[.int .i64 r1, .slice A1 r2.length c1, .slice none 0 0, .slice none 0 0, .slice none 0 0]) ?_ 2 _ rfl
    refine blk_put (cs := #[.int .i64 r1, .slice none 0 0, .slice none 0 0, .slice none 0 0, .slice none 0 0]) ?_ 1 _ rfl
    refine blk_put (cs := #[.int .i64 0, .slice none 0 0, .slice none 0 0, .slice none 0 0, .slice none 0 0]) ?_ 0 _ rfl
    exact BK.out) Try.underlying28 rfl (by kernel_rfl)) rfl ?_
  exact ⟨_, _, _, _, rfl, Kd.R_lower (R_setOwn (R_setOwn (R_setOwn (R_setOwn (R_setOwn HO1.out HG5.out 0 _) HG5.out 1 _) HG5.out 2 _) HG5.out 3 _) HG5.out 4 _) HS5.out,
    Kd.R_lower (R_setOwn (R_setOwn (R_setOwn (R_setOwn (R_setOwn HO2.out HG5.out 0 _) HG5.out 1 _) HG5.out 2 _) HG5.out 3 _) HG5.out 4 _) HS5.out,
    Kd.R_lower (R_setOwn (R_setOwn (R_setOwn (R_setOwn (R_setOwn HO3.out HG5.out 0 _) HG5.out 1 _) HG5.out 2 _) HG5.out 3 _) HG5.out 4 _) HS5.out,
    Kd.R_lower (R_setOwn (R_setOwn (R_setOwn (R_setOwn (R_setOwn HO4.out HG5.out 0 _) HG5.out 1 _) HG5.out 2 _) HG5.out 3 _) HG5.out 4 _) HS5.out,
    hset (hset (hset (hset (hset HB.out 0 _) 1 _) 2 _) 3 _) 4 _⟩
end Go.Proofs.Ytkgpnloghmbmlaa.Print
namespace Go.Proofs.Ytkgpnloghmbmlaa.Hd
open Go.RowKit Go.Proofs.Ytkgpnloghmbmlaa.Print Go.Proofs.YtkgpnloghmbmlaaW.PrintWords Go.Proofs.Ytkgpnloghmbmlaa.Pure Go.Proofs.Ytkgpnloghmbmlaa.Drv
set_option linter.unusedVariables false
set_option linter.unusedSimpArgs false
theorem come_eq {st : Int} {l1 l2 : List ByteArray} {l3 : List Bool} {l4 : List S54} {p : S54} (hp : putB p = true) (h1 : l1.length = 12) (h2 : l2.length = 2) (h3 : l3.length = 12) :
    spec_l3Come.f st l1 l2 l3 l4 p.f0 p.f1 p.f2 = some (st, comeSl p l1, comeRg p l2, comeSp p l3, l4) := by
  unfold putB at hp
  unfold spec_l3Come.f comeSl comeRg comeSp
  by_cases h : p.f0 = true
  · rw [if_pos h, decide_eq_true_iff] at hp
    rw [if_pos h, if_pos h, if_pos h, if_pos h, if_pos (by omega), if_pos (by omega)]
  · rw [if_neg h, decide_eq_true_iff] at hp
    rw [if_neg h, if_neg h, if_neg h, if_neg h, if_pos (by omega), if_pos (by omega), if_pos (by omega)]
theorem come_len {l1 l2 : List ByteArray} {l3 : List Bool} {p : S54} : (comeSl p l1).length = l1.length ∧ (comeRg p l2).length = l2.length ∧ (comeSp p l3).length = l3.length := by
  unfold comeSl comeRg comeSp
  refine ⟨?_, ?_, ?_⟩ <;> split <;> simp
theorem comeAll_len : ∀ (ps : List S54) (x : List Bool × List ByteArray × List ByteArray), (comeAll ps x).1.length = x.1.length ∧ (comeAll ps x).2.1.length = x.2.1.length ∧ (comeAll ps x).2.2.length = x.2.2.length
  | [], x => ⟨rfl, rfl, rfl⟩
  | p :: ps, x => by
    have h := comeAll_len ps (comeSp p x.1, comeSl p x.2.1, comeRg p x.2.2)
    have e := come_len (l1 := x.2.1) (l2 := x.2.2) (l3 := x.1) (p := p)
    exact ⟨h.1.trans e.2.2, h.2.1.trans e.1, h.2.2.trans e.2.1⟩
theorem flush_l0 {st : Int} {l4 : List S54} (hl : l4.length ≤ 1048576) (hp : ∀ x ∈ l4, putB x = true) (d : Nat) : ∀ (i : Nat) (l1 l2 : List ByteArray) (l3 : List Bool), i + d = l4.length → l1.length = 12 → l2.length = 2 → l3.length = 12 →
    Ev (fun k => spec_l3Flush.l0 k (i : Int) st l1 l2 l3 l4) (st, (comeAll (l4.drop i) (l3, l1, l2)).2.1, (comeAll (l4.drop i) (l3, l1, l2)).2.2, (comeAll (l4.drop i) (l3, l1, l2)).1, []) := by
  induction d with
  | zero =>
    intro i l1 l2 l3 hi h1 h2 h3
    rw [List.drop_eq_nil_of_le (by omega)]
    refine Ev.next ?_
    simp only [spec_l3Flush.l0]
    exact Ev.neg (by omega) (Ev.ret rfl)
  | succ d ih =>
    intro i l1 l2 l3 hi h1 h2 h3
    have hlt : i < l4.length := by omega
    have e : wrap64 ((i : Int) + 1) = ((i + 1 : Nat) : Int) := by rw [wrap_ok (by omega)]; omega
    have hx : rd_T54 l4 (i : Int) = l4[i] := by simp [rd_T54, List.getD, hlt]
    have hc := come_len (l1 := l1) (l2 := l2) (l3 := l3) (p := l4[i])
    have hih := ih (i + 1) (comeSl l4[i] l1) (comeRg l4[i] l2) (comeSp l4[i] l3) (by omega) (hc.1.trans h1) (hc.2.1.trans h2) (hc.2.2.trans h3)
    rw [List.drop_eq_getElem_cons hlt]
    refine Ev.next ?_
    simp only [spec_l3Flush.l0, e, hx]
    clear e hx
    exact Ev.pos (by omega) (Ev.pos (by omega) (Ev.take (come_eq (hp _ (List.getElem_mem hlt)) h1 h2 h3) hih))
theorem flush_ev {st : Int} {l1 l2 : List ByteArray} {l3 : List Bool} {l4 : List S54} (hl : l4.length ≤ 1048576) (hp : ∀ x ∈ l4, putB x = true) (h1 : l1.length = 12) (h2 : l2.length = 2) (h3 : l3.length = 12) :
    Ev (fun k => spec_l3Flush.f k st l1 l2 l3 l4) (st, (comeAll l4 (l3, l1, l2)).2.1, (comeAll l4 (l3, l1, l2)).2.2, (comeAll l4 (l3, l1, l2)).1, []) := by
  unfold spec_l3Flush.f
  have h := flush_l0 (st := st) hl hp l4.length 0 l1 l2 l3 (Nat.zero_add _) h1 h2 h3
  rwa [List.drop_zero] at h
theorem good_put {st : Int} {l1 l2 : List ByteArray} {l3 : List Bool} {l4 : List S54} (h : Print.Good st l1 l2 l3 l4) : ∀ x ∈ l4, putB x = true := fun x hx => by
  have h1 := h.wa
  rw [List.any_eq_false] at h1
  simpa using h1 x hx
def GoodD (D : Dd) : Prop := Print.Good D.st D.l1 D.l2 D.l3 D.l4
instance (D : Dd) : Decidable (GoodD D) := by unfold GoodD; infer_instance
def noD : Dd := ⟨0, [], [], [], []⟩
def comeD (D : Dd) : Dd := ⟨D.st, (comeAll D.l4 (D.l3, D.l1, D.l2)).2.1, (comeAll D.l4 (D.l3, D.l1, D.l2)).2.2, (comeAll D.l4 (D.l3, D.l1, D.l2)).1, []⟩
def flushD (D : Dd) : Dd := if GoodD D then comeD D else noD
theorem copy_eq {D : Dd} (hf : FitsD D) : spec_l3Copy.f D.st D.l1 D.l2 D.l3 D.l4 = some (D.st, D.l1, D.l2, D.l3, D.l4) := by
  unfold spec_l3Copy.f
  exact if_pos ⟨hf.h1, hf.h2, hf.h3, hf.h4⟩
theorem fits_no : FitsD noD := ⟨by simp [noD], by simp [noD], by simp [noD], by simp [noD]⟩
theorem comeD_len (D : Dd) : (comeD D).l1.length = D.l1.length ∧ (comeD D).l2.length = D.l2.length ∧ (comeD D).l3.length = D.l3.length := by
  have h := comeAll_len D.l4 (D.l3, D.l1, D.l2)
  exact ⟨h.2.1, h.2.2, h.1⟩
theorem fits_come {D : Dd} (h : FitsD D) : FitsD (comeD D) := by
  have hc := comeD_len D
  exact ⟨by rw [hc.1]; exact h.h1, by rw [hc.2.1]; exact h.h2, by rw [hc.2.2]; exact h.h3, by simp [comeD]⟩
theorem fits_flush {D : Dd} (h : FitsD D) : FitsD (flushD D) := by
  unfold flushD
  split
  · exact fits_come h
  · exact fits_no
theorem implFlush_eq (D : Dd) : impl_DiskFlush.f D.st D.l1 D.l2 D.l3 D.l4 = some ((flushD D).st, (flushD D).l1, (flushD D).l2, (flushD D).l3, (flushD D).l4) := by
  unfold impl_DiskFlush.f flushD
  by_cases h : GoodD D
  · have h' : Print.Good D.st D.l1 D.l2 D.l3 D.l4 := h
    rw [if_pos h', if_pos h]
    rfl
  · have h' : ¬ Print.Good D.st D.l1 D.l2 D.l3 D.l4 := h
    rw [if_neg h', if_neg h]
    rfl
theorem specFlush_ev {D : Dd} (hf : FitsD D) : Ev (fun k => spec_DiskFlush.f k D.st D.l1 D.l2 D.l3 D.l4) ((flushD D).st, (flushD D).l1, (flushD D).l2, (flushD D).l3, (flushD D).l4) := by
  unfold spec_DiskFlush.f
  refine Ev.bind (specDiskOk_ev D.st D.l1 D.l2 D.l3 D.l4 hf.h4) ?_
  by_cases h : GoodD D
  · have h' : Print.Good D.st D.l1 D.l2 D.l3 D.l4 := h
    have hb : goodB D.st D.l1 D.l2 D.l3 D.l4 = true := decide_eq_true h'
    have e : flushD D = comeD D := if_pos h
    rw [e]
    exact Ev.pos hb (Ev.take (copy_eq hf) (Ev.bind (flush_ev hf.h4 (good_put h') h'.sh.2.1 h'.sh.2.2.1 h'.sh.2.2.2.1) (Ev.ret rfl)))
  · have h' : ¬ Print.Good D.st D.l1 D.l2 D.l3 D.l4 := h
    have hb : ¬ goodB D.st D.l1 D.l2 D.l3 D.l4 = true := by simpa [goodB] using h'
    have e : flushD D = noD := if_neg h
    rw [e]
    exact Ev.neg hb (Ev.ret rfl)
theorem implFlush_call {w : World} {M : Mm} {D : Dd} (h : Rd w M D) : Calls Try.prog 35 #[.agg (cD M D)] w (Gives (flushD D) w) :=
  (impl_DiskFlush.calls (hr0_1 := h.r1) (hc0_1 := h.h1) (hr0_2 := h.r2) (hc0_2 := h.h2) (hr0_3 := h.r3) (hc0_3 := h.h3) (hr0_4 := h.r4) (hc0_4 := h.h4) (h := implFlush_eq D)).mono fun e w' hh => gives_of hh
theorem specFlush_call {w : World} {M : Mm} {D : Dd} (hf : FitsD D) (h : Rd w M D) : Calls Try.prog 36 #[.agg (cD M D)] w (Gives (flushD D) w) := by
  obtain ⟨K, hK⟩ := specFlush_ev hf
  exact (spec_DiskFlush.calls (hr0_1 := h.r1) (hc0_1 := h.h1) (hr0_2 := h.r2) (hc0_2 := h.h2) (hr0_3 := h.r3) (hc0_3 := h.h3) (hr0_4 := h.r4) (hc0_4 := h.h4) (h := hK K (Nat.le_refl _))).mono fun e w' hh => gives_of hh
structure Da where
  st : Int
  l1 : List ByteArray
  l2 : List ByteArray
  l3 : List Bool
  l4 : List S65
def cA (M : Mm) (D : Da) : Array Value := #[.int .i64 D.st, .slice M.A1 D.l1.length M.c1, .slice M.A2 D.l2.length M.c2, .slice M.A3 D.l3.length M.c3, .slice M.A4 D.l4.length M.c4]
structure RdA (w : World) (M : Mm) (D : Da) : Prop where
  r1 : Kd.C Kd.string w M.A1 D.l1.length D.l1
  h1 : D.l1.length ≤ M.c1
  r2 : Kd.C Kd.string w M.A2 D.l2.length D.l2
  h2 : D.l2.length ≤ M.c2
  r3 : Kd.C Kd.bool w M.A3 D.l3.length D.l3
  h3 : D.l3.length ≤ M.c3
  r4 : Kd.C k65 w M.A4 D.l4.length D.l4
  h4 : D.l4.length ≤ M.c4
theorem Hd.rdA {w0 w : World} {L : List Part} {M : Mm} {D : Da} (H : Hd w0.heap.size w0 w L) (h : RdA w0 M D) : RdA w M D :=
  ⟨H.C h.r1, h.h1, H.C h.r2, h.h2, H.C h.r3, h.h3, H.C h.r4, h.h4⟩
def toD (D : Da) : Dd := ⟨D.st, D.l1, D.l2, D.l3, pts D.l4⟩
theorem toDisk_call {w : World} {M : Mm} {D : Da} (hf : FitsD (toD D)) (h : RdA w M D) : Calls Try.prog 27 #[.agg (cA M D)] w (Gives (toD D) w) := by
  obtain ⟨K, hK⟩ := toDisk_ev D.st D.l1 D.l2 D.l3 D.l4 ⟨hf.h1, hf.h2, hf.h3, by have := hf.h4; rw [show (toD D).l4 = pts D.l4 from rfl, pts_length] at this; exact this⟩
  exact (laws_toDisk.calls (hr0_1 := h.r1) (hc0_1 := h.h1) (hr0_2 := h.r2) (hc0_2 := h.h2) (hr0_3 := h.r3) (hc0_3 := h.h3) (hr0_4 := h.r4) (hc0_4 := h.h4) (h := hK K (Nat.le_refl _))).mono fun e w' hh => gives_of hh
theorem szDisk_call (D : Da) (n : Int) (hn : 0 ≤ n ∧ n ≤ 1048576) (hw : Take.W39 ⟨D.st, D.l1, D.l2, D.l3, D.l4⟩) : ∃ t : Int, t ≤ 1048576 ∧ (¬ t < 0 → FitsD (toD D)) ∧ ∀ (w : World) (M : Mm), RdA w M D → Calls Try.prog 25 #[.agg (cA M D), .int .i64 n] w fun e w' => e = .returned (.int .i64 t) ∧ Below w.heap.size w w' := by
  obtain ⟨t, h1, ⟨K, hK⟩, h3⟩ := szDisk_ev D.st D.l1 D.l2 D.l3 D.l4 n hn hw
  refine ⟨t, h1, fun ht => ?_, fun w M h => laws_szDisk.calls (hr0_1 := h.r1) (hc0_1 := h.h1) (hr0_2 := h.r2) (hc0_2 := h.h2) (hr0_3 := h.r3) (hc0_3 := h.h3) (hr0_4 := h.r4) (hc0_4 := h.h4) (h := hK K (Nat.le_refl _))⟩
  have hf := h3 ht
  exact ⟨hf.h1, hf.h2, hf.h3, by rw [show (toD D).l4 = pts D.l4 from rfl, pts_length]; exact hf.h4⟩
end Go.Proofs.Ytkgpnloghmbmlaa.Hd
namespace Go.Proofs.Ytkgpnloghmbmlaa.Hd
open Go.RowKit Go.Proofs.Ytkgpnloghmbmlaa.Print Go.Proofs.YtkgpnloghmbmlaaW.PrintWords Go.Proofs.YtkgpnloghmbmlaaW.PrintLast Go.Proofs.YtkgpnloghmbmlaaW.PrintMore Go.Proofs.Ytkgpnloghmbmlaa.Pure
set_option linter.unusedVariables false
set_option linter.unusedSimpArgs false
theorem held_call {w : World} {M : Mm} {D D' : Dd} {m : Nat} (hc : cD M D' = cD M D) (hm : HeldBy D' m) (h : Rd w M D') : Calls Try.prog 24 #[.agg (cD M D), .int .i64 1] w fun e w' => e = .returned (.int .i64 (m : Int)) ∧ Below w.heap.size w w' := by
  rw [← hc]
  exact heldDisk_call hm h
theorem cD_one (M : Mm) (D : Dd) : (cD M D).all (·.oneCell') = true := by simp [cD, Value.oneCell']
theorem sizeE28 : (Try.prog.info? 28).map (·.size) = some 5 := by kernel_rfl
theorem sizeE39 : (Try.prog.info? 39).map (·.size) = some 5 := by kernel_rfl
set_option maxHeartbeats 8000000 in
set_option maxRecDepth 100000 in
theorem law_FnExactDiskFlush (M : Mm) (D : Da) (w : World) (h : RdA w M D) (hw : Take.W39 ⟨D.st, D.l1, D.l2, D.l3, D.l4⟩) : Calls Try.prog 14 #[.agg (cA M D)] w fun e w' => e = .returned (.bool true) ∧ Below w.heap.size w w' := by
  have hs28 := sizeE28
  have hs39 := sizeE39
  have HR := Aside0.mk h
  obtain ⟨t, _, hfit, hsz⟩ := szDisk_call D 1048576 (by omega) hw
  have HSZ := Aside0.mk hsz
  have tk0 : True := trivial
  have H := Aside0.mk (Hd.start w)
  clear h hw hsz
  by_cases ht : t < 0
  · have hlt : decide (t < 0) = true := decide_eq_true ht
    clear ht
    clear hfit
    go_enter Try.func14, Try.ntmps14
    go_wp2_with (first | ((with_reducible refine gate_dst (N := 1) rfl ?_); refine H.out.bx rfl ((cA M D)) 39 ?hr ?_; (case hr => first | (go_simp; done) | (go_simp; rfl)); intro g1 w1 H1; clear H; have H := H1; clear H1; (try simp only [Act.put, List.setIfInBounds_toArray, List.set_cons_zero, List.set_cons_succ])) | ((with_reducible refine gate_dst (N := 11) rfl ?_); refine H.out.ld_row 0 rfl rfl rfl rfl Try.underlying39 rfl hs39 ?_; (try simp only [Act.put, List.setIfInBounds_toArray, List.set_cons_zero, List.set_cons_succ])) | (go_at_call 25; have _tk := tk0; refine (HSZ.out _ _ (H.out.rdA HR.out)).mono ?_; rintro e w13 ⟨rfl, hb⟩; have H1 := Aside0.mk (H.out.step hb); clear hb; clear H; have H := H1; clear H1; clear tk0 _tk; have tk1 : True := trivial))
    go_ret
    exact ⟨rfl, H.out.bel⟩
  · have hlt : decide (t < 0) = false := decide_eq_false ht
    have HF := Aside0.mk (hfit ht)
    have HG := Aside0.mk (fits_flush HF.out)
    clear ht
    clear hfit
    go_enter Try.func14, Try.ntmps14
    go_wp2_with (first | ((with_reducible refine gate_dst (N := 1) rfl ?_); refine H.out.bx rfl ((cA M D)) 39 ?hr ?_; (case hr => first | (go_simp; done) | (go_simp; rfl)); intro g1 w1 H1; clear H; have H := H1; clear H1; (try simp only [Act.put, List.setIfInBounds_toArray, List.set_cons_zero, List.set_cons_succ])) | ((with_reducible refine gate_dst (N := 11) rfl ?_); refine H.out.ld_row 0 rfl rfl rfl rfl Try.underlying39 rfl hs39 ?_; (try simp only [Act.put, List.setIfInBounds_toArray, List.set_cons_zero, List.set_cons_succ])) | (go_at_call 25; have _tk := tk0; refine (HSZ.out _ _ (H.out.rdA HR.out)).mono ?_; rintro e w13 ⟨rfl, hb⟩; have H1 := Aside0.mk (H.out.step hb); clear hb; clear H; have H := H1; clear H1; clear tk0 _tk; have tk1 : True := trivial) | ((with_reducible refine gate_dst (N := 16) rfl ?_); refine H.out.ld_row 0 rfl rfl rfl rfl Try.underlying39 rfl hs39 ?_; (try simp only [Act.put, List.setIfInBounds_toArray, List.set_cons_zero, List.set_cons_succ])) | (go_at_call 27; have _tk := tk1; refine (toDisk_call HF.out (H.out.rdA HR.out)).mono ?_; rintro e w17 ⟨M17, rfl, ho, hb⟩; have O17 := Aside0.mk ho; clear ho; have H1 := Aside0.mk (H.out.made hb); clear hb; clear H; have H := H1; clear H1; clear tk1 _tk; have tk2 : True := trivial) | (go_at_call 36; have _tk := tk2; refine (specFlush_call HF.out (H.out.rd 0 rfl O17.out)).mono ?_; rintro e w18 ⟨M18, rfl, ho, hb⟩; have O18 := Aside0.mk ho; clear ho; have H1 := Aside0.mk (H.out.made hb); clear hb; clear H; have H := H1; clear H1; clear tk2 _tk; have tk3 : True := trivial) | ((with_reducible refine gate_dst (N := 4) rfl ?_); refine H.out.bx rfl (#[.int .i64 0, .slice none 0 0, .slice none 0 0, .slice none 0 0, .slice none 0 0]) 28 ?hr ?_; (case hr => first | (go_simp; done) | (go_simp; rfl)); intro g4 w4 H1; clear H; have H := H1; clear H1; (try simp only [Act.put, List.setIfInBounds_toArray, List.set_cons_zero, List.set_cons_succ])) | ((with_reducible refine gate_store (t := 28) (p := 4) rfl ?_); refine H.out.st_row 0 rfl rfl (x := .tmp 4) (y := .tmp 18) rfl rfl rfl ((cD M18 (flushD (toD D)))) rfl hs28 rfl (cD_one _ _) ?_; intro ws5_4 H1; clear H; have H := H1; clear H1) | ((with_reducible refine gate_dst (N := 19) rfl ?_); refine H.out.ld_row 3 rfl rfl rfl rfl Try.underlying39 rfl hs39 ?_; (try simp only [Act.put, List.setIfInBounds_toArray, List.set_cons_zero, List.set_cons_succ])) | (go_at_call 27; have _tk := tk3; refine (toDisk_call HF.out (H.out.rdA HR.out)).mono ?_; rintro e w20 ⟨M20, rfl, ho, hb⟩; have O20 := Aside0.mk ho; clear ho; have H1 := Aside0.mk (H.out.made hb); clear hb; clear H; have H := H1; clear H1; clear tk3 _tk; have tk4 : True := trivial) | ((with_reducible refine gate_dst (N := 5) rfl ?_); refine H.out.bx rfl (#[.int .i64 0, .slice none 0 0, .slice none 0 0, .slice none 0 0, .slice none 0 0]) 28 ?hr ?_; (case hr => first | (go_simp; done) | (go_simp; rfl)); intro g5 w5 H1; clear H; have H := H1; clear H1; (try simp only [Act.put, List.setIfInBounds_toArray, List.set_cons_zero, List.set_cons_succ])) | ((with_reducible refine gate_store (t := 28) (p := 5) rfl ?_); refine H.out.st_row 0 rfl rfl (x := .tmp 5) (y := .tmp 20) rfl rfl rfl ((cD M20 (toD D))) rfl hs28 rfl (cD_one _ _) ?_; intro ws6_3 H1; clear H; have H := H1; clear H1) | ((with_reducible refine gate_dst (N := 21) rfl ?_); refine H.out.ld_row 0 rfl rfl rfl rfl Try.underlying28 rfl hs28 ?_; (try simp only [Act.put, List.setIfInBounds_toArray, List.set_cons_zero, List.set_cons_succ])) | (go_at_call 35; have _tk := tk4; refine (implFlush_call  (H.out.rd 1 rfl O20.out)).mono ?_; rintro e w22 ⟨M22, rfl, ho, hb⟩; have O22 := Aside0.mk ho; clear ho; have H1 := Aside0.mk (H.out.made hb); clear hb; clear H; have H := H1; clear H1; clear tk4 _tk; have tk5 : True := trivial) | ((with_reducible refine gate_dst (N := 6) rfl ?_); refine H.out.bx rfl (#[.int .i64 0, .slice none 0 0, .slice none 0 0, .slice none 0 0, .slice none 0 0]) 28 ?hr ?_; (case hr => first | (go_simp; done) | (go_simp; rfl)); intro g6 w6 H1; clear H; have H := H1; clear H1; (try simp only [Act.put, List.setIfInBounds_toArray, List.set_cons_zero, List.set_cons_succ])) | ((with_reducible refine gate_store (t := 28) (p := 6) rfl ?_); refine H.out.st_row 0 rfl rfl (x := .tmp 6) (y := .tmp 22) rfl rfl rfl ((cD M22 (flushD (toD D)))) rfl hs28 rfl (cD_one _ _) ?_; intro ws7_3 H1; clear H; have H := H1; clear H1) | ((with_reducible refine gate_dst (N := 23) rfl ?_); refine H.out.ld_row 0 rfl rfl rfl rfl Try.underlying28 rfl hs28 ?_; (try simp only [Act.put, List.setIfInBounds_toArray, List.set_cons_zero, List.set_cons_succ])) | ((with_reducible refine gate_dst (N := 24) rfl ?_); refine H.out.ld_row 4 rfl rfl rfl rfl Try.underlying28 rfl hs28 ?_; (try simp only [Act.put, List.setIfInBounds_toArray, List.set_cons_zero, List.set_cons_succ])) | (go_at_call 22; have _tk := tk5; refine (eqDisk_call HG.out (H.out.rd 1 rfl O22.out) (H.out.rd 5 rfl O18.out)).mono ?_; rintro e w25 ⟨rfl, hb⟩; have H1 := Aside0.mk (H.out.step hb); clear hb; clear H; have H := H1; clear H1; clear tk5 _tk; have tk6 : True := trivial))
    refine start_ (n := 5) (S := fun w' => Hd w.heap.size w w' [.box g6 ((cD M22 (flushD (toD D)))) 28, .same (ws6_3.heap.size) (w22.heap.size) w22, .box g5 ((cD M20 (toD D))) 28, .same (ws5_4.heap.size) (w20.heap.size) w20, .box g4 ((cD M18 (flushD (toD D)))) 28, .same (w17.heap.size) (w18.heap.size) w18, .same (w13.heap.size) (w17.heap.size) w17, .box g1 ((cA M D)) 39]) (ds := []) #[false, false, false, false, false] (by kernel_rfl) rfl rfl (H.out.drew) (fun hHeld => ?_)
    clear H
    generalize World.drew w25 = wd10 at hHeld ⊢
    have H := Aside0.mk hHeld
    refine take_ (i := 0) (N := some 27) (v := .agg ((cD M20 (toD D)))) (a' := ?_) #[true, false, false, false, false] rfl rfl (by kernel_rfl) (fun _ _ _ h => h) (Or.inl ⟨by rfl, fun w' s0 => s0.run_row 2 rfl rfl rfl Try.underlying28 rfl hs28⟩) hHeld ?_ ?_
    rotate_left
    · simp only [Act.put, List.setIfInBounds_toArray, List.set_cons_zero, List.set_cons_succ, i64_w, i32_w]
      rfl
    refine take_ (i := 1) (N := some 28) (v := .agg ((cA M D))) (a' := ?_) #[true, true, false, false, false] rfl rfl (by kernel_rfl) (fun _ _ _ h => h) (Or.inl ⟨by rfl, fun w' s0 => s0.run_row 7 rfl rfl rfl Try.underlying39 rfl hs39⟩) hHeld ?_ ?_
    rotate_left
    · simp only [Act.put, List.setIfInBounds_toArray, List.set_cons_zero, List.set_cons_succ, i64_w, i32_w]
      rfl
    refine one_ (i := 2) (N := some 29) #[true, true, true, false, false] rfl rfl (by kernel_rfl) (by decide) (fun K hK => ?_)
    refine goes_ Try.func27 (by kernel_rfl) rfl #[.agg ((cA M D))] (by rfl) rfl rfl (by (try simp only [List.map_toArray, List.map_cons, List.map_nil]); first | done | rfl) ?_
    refine (toDisk_call HF.out (H.out.rdA HR.out)).mono ?_
    rintro e w29 ⟨M29, rfl, ho, hb⟩
    refine ⟨_, rfl, ?_⟩
    have O29 := Aside0.mk ho
    clear ho
    have H1 := Aside0.mk (H.out.made hb); clear hb; clear H; have H := H1; clear H1
    refine hK.out _ _ (H.out.less) (fun hHeld => ?_)
    clear hK K
    refine norm_ (a' := ?_) ?_ ?_
    rotate_left
    · show Act.put _ (some 29) _ = _
      simp only [Act.put, List.setIfInBounds_toArray, List.set_cons_zero, List.set_cons_succ, i64_w, i32_w]
      rfl
    refine one_ (i := 3) (N := some 30) #[true, true, true, true, false] rfl rfl (by kernel_rfl) (by decide) (fun K hK => ?_)
    refine goes_ Try.func22 (by kernel_rfl) rfl #[.agg ((cD M20 (toD D))), .agg (cD M29 (toD D))] (by rfl) rfl rfl (by (try simp only [List.map_toArray, List.map_cons, List.map_nil]); first | done | rfl) ?_
    refine (eqDisk_call HF.out (H.out.rd 4 rfl O20.out) (H.out.rd 0 rfl O29.out)).mono ?_
    rintro e w30 ⟨rfl, hb⟩
    refine ⟨_, rfl, ?_⟩
    have H1 := Aside0.mk (H.out.step hb); clear hb; clear H; have H := H1; clear H1
    refine hK.out _ _ (H.out.less) (fun hHeld => ?_)
    clear hK K
    refine norm_ (a' := ?_) ?_ ?_
    rotate_left
    · show Act.put _ (some 30) _ = _
      simp only [Act.put, List.setIfInBounds_toArray, List.set_cons_zero, List.set_cons_succ, i64_w, i32_w]
      rfl
    refine pure_ (i := 4) (N := some 31) (v := ?_) (a' := ?_) #[true, true, true, true, true] rfl rfl (by kernel_rfl) (fun _ _ _ h => h) (Or.inl ⟨by rfl, ?_⟩) ?_ ?_
    rotate_left
    · intro w'
      go_simp
      with_reducible rfl
    rotate_left
    · simp only [Act.put, List.setIfInBounds_toArray, List.set_cons_zero, List.set_cons_succ, i64_w, i32_w]
      rfl
    refine done_ (by kernel_rfl) ?_
    go_wp2_with (first | ((with_reducible refine gate_dst (N := 32) rfl ?_); refine H.out.ld_row 3 rfl rfl rfl rfl Try.underlying28 rfl hs28 ?_; (try simp only [Act.put, List.setIfInBounds_toArray, List.set_cons_zero, List.set_cons_succ])) | (go_at_call 23; have _tk := tk6; refine (markDisk_call HF.out H.out.bel (H.out.same_ge 4 rfl) (H.out.own 4 rfl O20.out)).mono ?_; rintro e w34 ⟨m34, D34, rfl, hc, ho, hh, hf, hb, hk⟩; have C34 := Aside0.mk hc; have O34 := Aside0.mk ho; have HH34 := Aside0.mk hh; have c34 : decide ((m34 : Int) < 0) = false := decide_eq_false (by omega); clear ho hc hh hf; have H1 := Aside0.mk (H.out.wrote 4 rfl hb hk); clear hb hk; clear H; have H := H1; clear H1; clear tk6 _tk; have tk7 : True := trivial) | ((with_reducible refine gate_dst (N := 38) rfl ?_); refine gate_guard (by rfl) ?_; dsimp only; refine H.out.ld_row 1 rfl rfl rfl rfl Try.underlying28 rfl hs28 ?_; (try simp only [Act.put, List.setIfInBounds_toArray, List.set_cons_zero, List.set_cons_succ])) | ((with_reducible refine gate_dst (N := 39) rfl ?_); refine gate_guard (by rfl) ?_; dsimp only; refine H.out.ld_row 5 rfl rfl rfl rfl Try.underlying28 rfl hs28 ?_; (try simp only [Act.put, List.setIfInBounds_toArray, List.set_cons_zero, List.set_cons_succ])) | (go_at_call 22; have _tk := tk7; refine (eqDisk_call HG.out (H.out.rd 2 rfl O22.out) (H.out.rd 6 rfl O18.out)).mono ?_; rintro e w40 ⟨rfl, hb⟩; have H1 := Aside0.mk (H.out.step hb); clear hb; clear H; have H := H1; clear H1; clear tk7 _tk; have tk8 : True := trivial) | ((with_reducible refine gate_dst (N := 43) rfl ?_); refine H.out.ld_row 1 rfl rfl rfl rfl Try.underlying28 rfl hs28 ?_; (try simp only [Act.put, List.setIfInBounds_toArray, List.set_cons_zero, List.set_cons_succ])) | (go_at_call 23; have _tk := tk8; refine (markDisk_call HG.out H.out.bel (H.out.same_ge 2 rfl) (H.out.own 2 rfl O22.out)).mono ?_; rintro e w45 ⟨m45, D45, rfl, hc, ho, hh, hf, hb, hk⟩; have C45 := Aside0.mk hc; have O45 := Aside0.mk ho; have HH45 := Aside0.mk hh; have c45 : decide ((m45 : Int) < 0) = false := decide_eq_false (by omega); clear ho hc hh hf; have H1 := Aside0.mk (H.out.wrote 2 rfl hb hk); clear hb hk; clear H; have H := H1; clear H1; clear tk8 _tk; have tk9 : True := trivial) | ((with_reducible refine gate_dst (N := 46) rfl ?_); refine H.out.ld_row 1 rfl rfl rfl rfl Try.underlying28 rfl hs28 ?_; (try simp only [Act.put, List.setIfInBounds_toArray, List.set_cons_zero, List.set_cons_succ])) | (go_at_call 24; have _tk := tk9; refine (held_call C45.out HH45.out (H.out.rd 2 rfl O45.out)).mono ?_; rintro e w48 ⟨rfl, hb⟩; have H1 := Aside0.mk (H.out.step hb); clear hb; clear H; have H := H1; clear H1; clear tk9 _tk; have tk10 : True := trivial) | ((with_reducible refine gate_dst (N := 54) rfl ?_); refine H.out.ld_row 8 rfl rfl rfl rfl Try.underlying39 rfl hs39 ?_; (try simp only [Act.put, List.setIfInBounds_toArray, List.set_cons_zero, List.set_cons_succ])) | (go_at_call 27; have _tk := tk10; refine (toDisk_call HF.out (H.out.rdA HR.out)).mono ?_; rintro e w55 ⟨M55, rfl, ho, hb⟩; have O55 := Aside0.mk ho; clear ho; have H1 := Aside0.mk (H.out.made hb); clear hb; clear H; have H := H1; clear H1; clear tk10 _tk; have tk11 : True := trivial) | (go_at_call 35; have _tk := tk11; refine (implFlush_call  (H.out.rd 0 rfl O55.out)).mono ?_; rintro e w56 ⟨M56, rfl, ho, hb⟩; have O56 := Aside0.mk ho; clear ho; have H1 := Aside0.mk (H.out.made hb); clear hb; clear H; have H := H1; clear H1; clear tk11 _tk; have tk12 : True := trivial) | ((with_reducible refine gate_dst (N := 10) rfl ?_); refine H.out.bx rfl (#[.int .i64 0, .slice none 0 0, .slice none 0 0, .slice none 0 0, .slice none 0 0]) 28 ?hr ?_; (case hr => first | (go_simp; done) | (go_simp; rfl)); intro g10 w10 H1; clear H; have H := H1; clear H1; (try simp only [Act.put, List.setIfInBounds_toArray, List.set_cons_zero, List.set_cons_succ])) | ((with_reducible refine gate_store (t := 28) (p := 10) rfl ?_); refine H.out.st_row 0 rfl rfl (x := .tmp 10) (y := .tmp 56) rfl rfl rfl ((cD M56 (flushD (toD D)))) rfl hs28 rfl (cD_one _ _) ?_; intro ws24_4 H1; clear H; have H := H1; clear H1) | ((with_reducible refine gate_dst (N := 57) rfl ?_); refine H.out.ld_row 0 rfl rfl rfl rfl Try.underlying28 rfl hs28 ?_; (try simp only [Act.put, List.setIfInBounds_toArray, List.set_cons_zero, List.set_cons_succ])) | ((with_reducible refine gate_dst (N := 58) rfl ?_); refine H.out.ld_row 8 rfl rfl rfl rfl Try.underlying28 rfl hs28 ?_; (try simp only [Act.put, List.setIfInBounds_toArray, List.set_cons_zero, List.set_cons_succ])) | (go_at_call 22; have _tk := tk12; refine (eqDisk_call HG.out (H.out.rd 1 rfl O56.out) (H.out.rd 9 rfl O18.out)).mono ?_; rintro e w59 ⟨rfl, hb⟩; have H1 := Aside0.mk (H.out.step hb); clear hb; clear H; have H := H1; clear H1; clear tk12 _tk; have tk13 : True := trivial) | ((with_reducible refine gate_dst (N := 61) rfl ?_); refine H.out.ld_row 4 rfl rfl rfl rfl Try.underlying28 rfl hs28 ?_; (try simp only [Act.put, List.setIfInBounds_toArray, List.set_cons_zero, List.set_cons_succ])) | (go_at_call 24; have _tk := tk13; refine (held_call C45.out HH45.out (H.out.rd 5 rfl O45.out)).mono ?_; rintro e w63 ⟨rfl, hb⟩; have H1 := Aside0.mk (H.out.step hb); clear hb; clear H; have H := H1; clear H1; clear tk13 _tk; have tk14 : True := trivial))
    go_ret
    exact ⟨rfl, H.out.bel⟩
end Go.Proofs.Ytkgpnloghmbmlaa.Hd
namespace Go.Proofs.Ytkgpnloghmbmlaa.fnExactDiskFlush
open Go.ChangeShapes Go.WideShapes Go.ChangeAt Go.RowKit Go.Proofs.Ytkgpnloghmbmlaa.Print Go.Proofs.Ytkgpnloghmbmlaa.Take Go.Proofs.YtkgpnloghmbmlaaW.PrintWords
open Go.ChangeMaps (open_string shut_string)
set_option linter.unusedVariables false
theorem own : ownKnob Try.prog.godebug = none := by kernel_rfl
theorem laidOut : laidOutB Try.prog = true := by kernel_rfl
set_option maxRecDepth 100000 in
theorem lifted (os : Os) (started : os.Started) (H : Type) (enc : TypeId × Value → H) :
    ReturnsInHanded {} Try.checked os 14 .any (Rows.fnExactDiskFlushSpec.pre6 enc Try.prog Try.f14 Rows.fnExactDiskFlushRow.domain false) (Rows.fnExactDiskFlushSpec.post enc Try.prog Try.f14 false true false false) := by
  refine returnsInHanded_of_change_sized (C := Try.checked) own started (by kernel_rfl) Try.func14
    (ChangeSpec.witness6 (enc := enc) (C := Try.checked) false ⟨#[], #[.agg #[.int .i64 0, .slice none 0 0, .slice none 0 0, .slice none 0 0, .slice none 0 0]], []⟩ 8 (by kernel_rfl) (by kernel_rfl) (by kernel_rfl) (by kernel_rfl)) ?_
  intro W base args ds gs before hval0 hW hcnd hsz0 _
  have hsz : (DataW.weightsEach Try.prog (Try.f14.params.toList ++ Rows.fnExactDiskFlushSpec.plain.varTypes Try.prog) (ds ++ gs)).all (· ≤ reachBytes) = true := hsz0
  have hval : ∀ (j : Nat) t v, Try.f14.params[j]? = some t → args[j]? = some v → Value.okWide Try.prog W .any base t v := hval0
  have hW' := hW
  obtain ⟨p, q, hA0, hV, rfl, hfz, hnd⟩ := hW
  have hA : DataW.TrodAll enc Try.prog W 0 (fun _ => true) true Try.f14.params.toList args.toList ds p := hA0
  rw [Try.params14] at hA hval hsz
  obtain ⟨v0, vs0, d0, ds0, p0, q0, hargs, rfl, rfl, h0, r0⟩ := trodAll_cons hA
  obtain ⟨rfl, rfl, rfl⟩ := trodAll_nil r0
  obtain rfl : args = #[v0] := by cases args; simp_all
  obtain ⟨rfl, rfl⟩ := trodVars_none hV
  obtain ⟨b0, rfl, _⟩ := okWide_struct Try.underlying39 (hval 0 39 v0 rfl rfl)
  have k0 := h0
  have lt0 : ∀ x ∈ p0, x.block < W.heap.size := by obtain ⟨m, hm⟩ := k0; exact DataW.trod_lt m _ _ _ hm
  obtain ⟨n0, hf0⟩ := h0
  obtain ⟨y0, hk0, w0⟩ := o39.opens _ _ _ _ _ _ _ _ _ hf0
  obtain ⟨A0_1, c0_1, A0_2, c0_2, A0_3, c0_3, A0_4, c0_4, hcs0, hc0_1, hr0_1, hc0_2, hr0_2, hc0_3, hr0_3, hc0_4, hr0_4⟩ := k39_open hk0
  obtain rfl : b0 = #[.int .i64 y0.f0, .slice A0_1 y0.f1.length c0_1, .slice A0_2 y0.f2.length c0_2, .slice A0_3 y0.f3.length c0_3, .slice A0_4 y0.f4.length c0_4] := by cases b0; simpa [Value.cells] using hcs0
  clear hA0 hval0 hsz0 hsz
  skip
  refine (Hd.law_FnExactDiskFlush ⟨A0_1, c0_1, A0_2, c0_2, A0_3, c0_3, A0_4, c0_4⟩ ⟨y0.f0, y0.f1, y0.f2, y0.f3, y0.f4⟩ W ⟨hr0_1, hc0_1, hr0_2, hc0_2, hr0_3, hc0_3, hr0_4, hc0_4⟩ w0).mono fun e W' ⟨he, bel0⟩ => ?_
  have bel := bel0
  subst he
  exact ⟨_, rfl, _, _, _, [], _, [], hW', trodAll_mk1 (shut_bool Try.underlying4 _), (trodAll_cons_mk (Below.trod laidOut (by kernel_rfl) (of_decide_eq_true (by kernel_rfl)) k0 bel lt0) trodAll_mk0), rfl, bel.frame _, fun h => by cases h⟩
theorem over : Rows.fnExactDiskFlushRow.holds Try.pinned (OpenSpec.ofChange Rows.fnExactDiskFlushSpec) :=
  OpenClaim.holds_of_wide 14 Try.f14 rfl rfl rfl rfl rfl rfl rfl ⟨rfl, rfl, rfl, rfl, rfl⟩ rfl rfl rfl rfl rfl (by kernel_rfl) Try.func14 (by kernel_rfl)
    (of_decide_eq_true (by kernel_rfl)) (by unfold Func.isWrapper; first | (rw [if_pos (by decide +kernel)]; kernel_rfl) | (rw [if_neg (by decide +kernel)]; exact ⟨rfl, rfl⟩))
    (fun os started H enc _ => lifted os started H enc)
theorem proved : Rows.FnExactDiskFlushSaid := over
#print axioms proved
end Go.Proofs.Ytkgpnloghmbmlaa.fnExactDiskFlush
namespace Go.Proofs.Ytkgpnloghmbmlaa
theorem fnExactDiskFlush_holds : Rows.FnExactDiskFlushSaid := fnExactDiskFlush.proved
end Go.Proofs.Ytkgpnloghmbmlaa
