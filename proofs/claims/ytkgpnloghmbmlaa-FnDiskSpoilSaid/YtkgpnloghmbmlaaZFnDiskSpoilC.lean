/- Proved, with what follows on it: the row of the law FnDiskSpoil. Conditions: the row's alone. Texts of this session and words that the kit's print laid for this seat, merged and cut by shrink.py, a program of this session. -/
import Derived.Test.YtkgpnloghmbmlaaZFnDiskSpoilB
namespace Go.Proofs.Ytkgpnloghmbmlaa.Hd
open Go.RowKit Go.Proofs.Ytkgpnloghmbmlaa.Print Go.Proofs.YtkgpnloghmbmlaaW.PrintWords Go.Proofs.YtkgpnloghmbmlaaW.PrintLast Go.Proofs.Ytkgpnloghmbmlaa.Pure
set_option linter.unusedVariables false
set_option linter.unusedSimpArgs false
theorem below_of_none {w w1 : World} (hg : w.grownBy w1 none) : Below w.heap.size w w1 := ⟨hg.os, hg.tape, hg.output, hg.size, fun k hk => hg.block k hk (by simp)⟩
theorem own_new {v : Value} {n : Nat} (h : ∃ b, v.ownBlock = some b ∧ n ≤ b) : ∀ k, v.ownBlock = some k → n ≤ k := fun k hk => by
  obtain ⟨b, hb, hn⟩ := h
  rw [hb] at hk
  injection hk with hk
  omega
theorem own_lt' {α : Type} {d : Kd α} {t b : Nat} {w : World} {ok : Nat → Prop} {v : Value} {xs : List α} (h : d.R t w b ok v xs) : ∀ k, v.ownBlock = some k → k < w.heap.size := fun k hk => by
  obtain ⟨_, inner, ho, _⟩ := h
  exact own_lt ho k hk
def Ownerless {α : Type} (d : Kd α) : Prop := ∀ (w w' : World) (b : Nat) (ok ok' : Nat → Prop) (x : α) (cs : List Value), d.M w b ok x cs → d.M w' b ok' x cs
theorem ownerless_string : Ownerless Kd.string := fun _ _ _ _ _ _ _ h => h
theorem ownerless_bool : Ownerless Kd.bool := fun _ _ _ _ _ _ _ h => h
theorem ownerless_k54 : Ownerless k54 := fun _ _ _ _ _ _ _ h => h
theorem R_own_only {α : Type} {d : Kd α} {t b : Nat} {w w' : World} {ok : Nat → Prop} {v : Value} {xs : List α} (h : d.R t w b ok v xs) (hd : Ownerless d) (hk : ∀ k, v.ownBlock = some k → w'.heap[k]? = w.heap[k]?) : d.R t w' b ok v xs := by
  obtain ⟨h0, inner, ho, hr⟩ := h
  exact ⟨h0, inner, own_move ho hk, hr.imp_ fun _ _ hp => hd _ _ _ _ _ _ _ hp⟩
theorem ne_types {α β : Type} {d : Kd α} {d' : Kd β} {t t' b b' : Nat} {w : World} {ok ok' : Nat → Prop} {v v' : Value} {xs : List α} {ys : List β} (h : d.R t w b ok v xs) (h' : d'.R t' w b' ok' v' ys) (ht : t ≠ t') : ∀ k, v.ownBlock = some k → some k ≠ v'.ownBlock := fun k hk e => by
  obtain ⟨_, _, ho, _⟩ := h
  obtain ⟨_, _, ho', _⟩ := h'
  obtain ⟨c, hc⟩ := own_typed ho k hk
  obtain ⟨c', hc'⟩ := own_typed ho' k e.symm
  rw [hc] at hc'
  injection hc' with hc'
  injection hc' with _ hc'
  exact ht hc'
theorem R_far_types {α β : Type} {d : Kd α} {d' : Kd β} {t t' b b' : Nat} {w w1 : World} {ok ok' : Nat → Prop} {v v' : Value} {xs : List α} {ys : List β} (h : d.R t w b ok v xs) (h' : d'.R t' w b' ok' v' ys) (ht : t ≠ t') (hg : w.grownBy w1 v'.ownBlock) (hd : Ownerless d) : d.R t w1 b ok v xs :=
  R_own_only h hd fun k hk => hg.block k (own_lt' h k hk) (ne_types h h' ht k hk)
theorem R_far_ne {α : Type} {d : Kd α} {t b : Nat} {w w1 : World} {ok : Nat → Prop} {v v' : Value} {xs : List α} (h : d.R t w b ok v xs) (hg : w.grownBy w1 v'.ownBlock) (hn : v'.ownBlock = none ∨ v'.ownBlock ≠ v.ownBlock) (hd : Ownerless d) : d.R t w1 b ok v xs :=
  R_own_only h hd fun k hk => hg.block k (own_lt' h k hk) (atom_of' hn hk)
theorem R_far_ne' {α : Type} {d : Kd α} {t b : Nat} {w w1 : World} {ok : Nat → Prop} {v v' : Value} {xs : List α} (h : d.R t w b ok v xs) (hg : w.grownBy w1 v'.ownBlock) (hn : v.ownBlock = none ∨ v.ownBlock ≠ v'.ownBlock) (hd : Ownerless d) : d.R t w1 b ok v xs :=
  R_own_only h hd fun k hk => hg.block k (own_lt' h k hk) (atom_of hn hk)
theorem ne_left {v v1 u : Value} {n : Nat} (h : v1.ownBlock = v.ownBlock ∨ ∃ b, v1.ownBlock = some b ∧ n ≤ b) (hn : v.ownBlock = none ∨ v.ownBlock ≠ u.ownBlock) (hu : ∀ k, u.ownBlock = some k → k < n) : v1.ownBlock = none ∨ v1.ownBlock ≠ u.ownBlock := by
  rcases h with h | h
  · rw [h]; exact hn
  · exact own_apart' (own_new h) hu
theorem ne_right {v v1 u : Value} {n : Nat} (h : v1.ownBlock = v.ownBlock ∨ ∃ b, v1.ownBlock = some b ∧ n ≤ b) (hn : u.ownBlock = none ∨ u.ownBlock ≠ v.ownBlock) (hu : ∀ k, u.ownBlock = some k → k < n) : u.ownBlock = none ∨ u.ownBlock ≠ v1.ownBlock := by
  rcases h with h | h
  · rw [h]; exact hn
  · exact own_apart hu (own_new h)
theorem own_ge2 {α : Type} {d : Kd α} {t b g g' s s' : Nat} {w : World} {ok : Nat → Prop} {v : Value} {xs : List α} {cs cs' : Array Value} (h : d.R t w b ok v xs) (hg : w.heap[g]? = some (.cells cs s (0, 0))) (hg' : w.heap[g']? = some (.cells cs' s' (0, 0))) (ht : t ≠ s ∧ t ≠ s') : ∀ k, v.ownBlock = some k → b ≤ k ∧ k ≠ g ∧ k ≠ g' := fun k hk => by
  obtain ⟨_, _, ho, _⟩ := h
  obtain ⟨c, hc⟩ := own_typed ho k hk
  refine ⟨own_base ho k hk, ?_, ?_⟩
  · rintro rfl
    rw [hc] at hg
    injection hg with hg
    injection hg with _ hg
    exact ht.1 hg
  · rintro rfl
    rw [hc] at hg'
    injection hg' with hg'
    injection hg' with _ hg'
    exact ht.2 hg'
theorem Hd.grown2 {base : Nat} {w0 w w1 : World} {g g' s s' : Nat} {cs cs' : Array Value} {row : Option Nat} (h : Hd base w0 w [.box g cs s, .box g' cs' s']) (hg : w.grownBy w1 row) (hr : ∀ k, row = some k → base ≤ k ∧ k ≠ g ∧ k ≠ g') : Hd base w0 w1 [.box g cs s, .box g' cs' s'] :=
  h.grown hg fun k hk => ⟨(hr k hk).1, fun p hp => by
    have := hr k hk
    rcases List.mem_cons.1 hp with rfl | hp
    · have : (Part.box g cs s).lo = g := rfl; have : (Part.box g cs s).hi = g + 1 := rfl; omega
    · rcases List.mem_cons.1 hp with rfl | hp
      · have : (Part.box g' cs' s').lo = g' := rfl; have : (Part.box g' cs' s').hi = g' + 1 := rfl; omega
      · cases hp⟩
theorem R_set_far {α : Type} {d : Kd α} {t b g s : Nat} {w : World} {ok : Nat → Prop} {v : Value} {xs : List α} {cs : Array Value} (h : d.R t w b ok v xs) (hg : w.heap[g]? = some (.cells cs s (0, 0))) (ht : t ≠ s) (cs' : Array Value) (hd : Ownerless d) : d.R t (w.setRow g cs') b ok v xs :=
  R_own_only h hd fun k hk => setRow_other w g k cs' fun e => by
    obtain ⟨_, _, ho, _⟩ := h
    obtain ⟨c, hc⟩ := own_typed ho k hk
    subst e
    rw [hc] at hg
    injection hg with hg
    injection hg with _ hg
    exact ht hg
theorem infoL9 : (Try.prog.info? 9).map (fun i => (i.zero, i.size, i.bytes)) = some (some (.string ⟨#[]⟩), 1, 16) := by kernel_rfl
theorem infoL4 : (Try.prog.info? 4).map (fun i => (i.zero, i.size, i.bytes)) = some (some (.bool false), 1, 1) := by kernel_rfl
theorem infoL54 : (Try.prog.info? 54).map (fun i => (i.zero, i.size, i.bytes)) = some (some (.agg #[.bool false, .int .i64 0, .string ⟨#[]⟩]), 3, 32) := by kernel_rfl
theorem sizeL28 : (Try.prog.info? 28).map (·.size) = some 5 := by kernel_rfl
def TC : Bool × List (List Nat × List Nat) := (true, [([], []), ([0], [0]), ([], []), ([], []), ([3], [3]), ([2, 4], [2, 4]), ([], []), ([], []), ([7], [7]), ([6, 8, 5], [6, 8]), ([], []), ([], []), ([11], [11]), ([10, 12, 9], [10, 12]), ([], []), ([], []), ([15], [15]), ([14, 16, 13], [14, 16]), ([1, 5, 9, 13, 17], [1, 5, 9, 13, 17]), ([18, 17, 0, 1, 2, 3, 4, 5, 6, 7, 8, 9, 10, 11, 12, 13, 14, 15, 16, 17, 18], [18])])
def BC : List Nat := [0, 1, 0, 0, 8, 28, 0, 0, 128, 508, 0, 0, 2048, 8188, 0, 0, 32768, 131068, 262143, 524287]
theorem tabC : rtab .any (opsOf Try.f80 1) = TC := by kernel_rfl
theorem bitsC : waitsOk TC.2 BC = true := by kernel_rfl
set_option maxHeartbeats 8000000 in
set_option maxRecDepth 100000 in
theorem l3Copy_call {w : World} {M : Mm} {D : Dd} (hf : FitsD D) (h : Rd w M D) : Calls Try.prog 80 #[.agg (cD M D)] w (Gives D w) := by
  have hu28 := Try.underlying28
  have hs28 := sizeL28
  have HF := Az.mk hf
  have HR := Az.mk h
  have H := Az.mk (Hd.start w)
  clear hf h
  go_enter Try.func80, Try.ntmps80
  go_wp2_with (first | ((with_reducible refine zqg (N := 1) rfl ?_); refine H.out.bx rfl (cD M D) 28 ?hr ?_; (case hr => first | (go_simp; done) | (go_simp; rfl)); intro g1 wa H1; clear H; have H := H1; clear H1) | ((with_reducible refine zqg (N := 2) rfl ?_); refine H.out.bx rfl #[.int .i64 0, .slice none 0 0, .slice none 0 0, .slice none 0 0, .slice none 0 0] 28 ?hr ?_; (case hr => first | (go_simp; done) | (go_simp; rfl)); intro g2 wb H1; clear H; have H := H1; clear H1))
  refine start_ (n := 20) (S := fun w' => True) (ds := []) #[false, false, false, false, false, false, false, false, false, false, false, false, false, false, false, false, false, false, false, false] (by kernel_rfl) rfl rfl trivial (fun hHeld => ?_)
  refine with_tabW tabC bitsC (fun HT_ HW_ => ?_)
  have HD := Az.mk H.out.drew
  clear hHeld H
  generalize wb.drew = wd at HD ⊢
  refine zqp (i := 0) (N := some 3) (v := ?_) (a' := ?_) #[true, false, false, false, false, false, false, false, false, false, false, false, false, false, false, false, false, false, false, false] rfl rfl (by kernel_rfl) (fun _ _ _ h => h) (Or.inl ⟨by rfl, ?_⟩) ?_ ?_
  rotate_left
  · intro w'
    go_simp
    with_reducible rfl
  rotate_left
  · simp only [Act.put, List.setIfInBounds_toArray, List.set_cons_zero, List.set_cons_succ, i64_w, i32_w]
    rfl
  refine zqp (i := 3) (N := some 6) (v := ?_) (a' := ?_) #[true, false, false, true, false, false, false, false, false, false, false, false, false, false, false, false, false, false, false, false] rfl rfl (by kernel_rfl) (fun _ _ _ h => h) (Or.inl ⟨by rfl, ?_⟩) ?_ ?_
  rotate_left
  · intro w'
    go_simp
    with_reducible rfl
  rotate_left
  · simp only [Act.put, List.setIfInBounds_toArray, List.set_cons_zero, List.set_cons_succ, i64_w, i32_w]
    rfl
  refine zqp (i := 7) (N := some 10) (v := ?_) (a' := ?_) #[true, false, false, true, false, false, false, true, false, false, false, false, false, false, false, false, false, false, false, false] rfl rfl (by kernel_rfl) (fun _ _ _ h => h) (Or.inl ⟨by rfl, ?_⟩) ?_ ?_
  rotate_left
  · intro w'
    go_simp
    with_reducible rfl
  rotate_left
  · simp only [Act.put, List.setIfInBounds_toArray, List.set_cons_zero, List.set_cons_succ, i64_w, i32_w]
    rfl
  refine zqp (i := 11) (N := some 14) (v := ?_) (a' := ?_) #[true, false, false, true, false, false, false, true, false, false, false, true, false, false, false, false, false, false, false, false] rfl rfl (by kernel_rfl) (fun _ _ _ h => h) (Or.inl ⟨by rfl, ?_⟩) ?_ ?_
  rotate_left
  · intro w'
    go_simp
    with_reducible rfl
  rotate_left
  · simp only [Act.put, List.setIfInBounds_toArray, List.set_cons_zero, List.set_cons_succ, i64_w, i32_w]
    rfl
  refine zqp (i := 15) (N := some 18) (v := ?_) (a' := ?_) #[true, false, false, true, false, false, false, true, false, false, false, true, false, false, false, true, false, false, false, false] rfl rfl (by kernel_rfl) (fun _ _ _ h => h) (Or.inl ⟨by rfl, ?_⟩) ?_ ?_
  rotate_left
  · intro w'
    go_simp
    with_reducible rfl
  rotate_left
  · simp only [Act.put, List.setIfInBounds_toArray, List.set_cons_zero, List.set_cons_succ, i64_w, i32_w]
    rfl
  refine inv_at [1, 2, 4, 5, 6, 8, 9, 10, 12, 13, 14, 16, 17, 18, 19] (fun a0_ b a w' => ∃ (b1 : Value) (b2 : Value) (b3 : Value) (b4 : Value) (a1 : Value) (a2 : Value) (a3 : Value) (a4 : Value) (m18_ : Value), a = putSel a0_ b [(1, 4, .int .i64 D.st), (2, 5, b1), (4, 7, .slice M.A1 D.l1.length M.c1), (5, 8, a1), (6, 9, b2), (8, 11, .slice M.A2 D.l2.length M.c2), (9, 12, a2), (10, 13, b3), (12, 15, .slice M.A3 D.l3.length M.c3), (13, 16, a3), (14, 17, b4), (16, 19, .slice M.A4 D.l4.length M.c4), (17, 20, a4), (18, 21, m18_)] ∧ (b 19 = false → Hd w.heap.size w w' [.box g2 #[.int .i64 0, .slice none 0 0, .slice none 0 0, .slice none 0 0, .slice none 0 0] 28, .box g1 (cD M D) 28]) ∧ (b 2 = true → b 5 = false → Kd.R Kd.string 9 w' w.heap.size (fun _ => True) b1 ([] : List ByteArray)) ∧ (b 5 = true → b 19 = false → Kd.R Kd.string 9 w' w.heap.size (fun _ => True) a1 D.l1) ∧ (b 6 = true → b 9 = false → Kd.R Kd.string 9 w' w.heap.size (fun _ => True) b2 ([] : List ByteArray)) ∧ (b 9 = true → b 19 = false → Kd.R Kd.string 9 w' w.heap.size (fun _ => True) a2 D.l2) ∧ (b 10 = true → b 13 = false → Kd.R Kd.bool 4 w' w.heap.size (fun _ => True) b3 ([] : List Bool)) ∧ (b 13 = true → b 19 = false → Kd.R Kd.bool 4 w' w.heap.size (fun _ => True) a3 D.l3) ∧ (b 14 = true → b 17 = false → Kd.R k54 54 w' w.heap.size (fun _ => True) b4 ([] : List S54)) ∧ (b 17 = true → b 19 = false → Kd.R k54 54 w' w.heap.size (fun _ => True) a4 D.l4) ∧ (b 2 = true → b 6 = true → b 5 = false → b 9 = false → (b1 : Value).ownBlock = none ∨ (b1 : Value).ownBlock ≠ (b2 : Value).ownBlock) ∧ (b 5 = true → b 6 = true → b 9 = false → (a1 : Value).ownBlock = none ∨ (a1 : Value).ownBlock ≠ (b2 : Value).ownBlock) ∧ (b 5 = true → b 9 = true → (a1 : Value).ownBlock = none ∨ (a1 : Value).ownBlock ≠ (a2 : Value).ownBlock) ∧ (b 19 = true → (Hd w.heap.size w w' [.box g2 #[.int .i64 D.st, a1, a2, a3, a4] 28, .box g1 (cD M D) 28] ∧ Kd.R Kd.string 9 w' w.heap.size (fun _ => True) a1 D.l1 ∧ Kd.R Kd.string 9 w' w.heap.size (fun _ => True) a2 D.l2 ∧ Kd.R Kd.bool 4 w' w.heap.size (fun _ => True) a3 D.l3 ∧ Kd.R k54 54 w' w.heap.size (fun _ => True) a4 D.l4)) ∧ (b 18 = true → (m18_ : Value) = .agg #[.int .i64 D.st, a1, a2, a3, a4])) HT_.out HW_.out (by kernel_rfl) (by kernel_rfl) ?_ ?_ ?_
  · exact ⟨.bool false, .bool false, .bool false, .bool false, .bool false, .bool false, .bool false, .bool false, .bool false, by simp only [putSel, Bool.false_eq_true, if_false], fun _ => HD.out, fun h_ => absurd h_ (by decide), fun h_ => absurd h_ (by decide), fun h_ => absurd h_ (by decide), fun h_ => absurd h_ (by decide), fun h_ => absurd h_ (by decide), fun h_ => absurd h_ (by decide), fun h_ => absurd h_ (by decide), fun h_ => absurd h_ (by decide), fun h_ => absurd h_ (by decide), fun h_ => absurd h_ (by decide), fun h_ => absurd h_ (by decide), fun h_ => absurd h_ (by decide), fun h_ => absurd h_ (by decide)⟩
  · skip
    clear HD
    refine steps_cons ?_ ?_
    · rintro b a w' ⟨b1, b2, b3, b4, a1, a2, a3, a4, m18_, ha, Q_HD, Q_FB1, Q_FA1, Q_FB2, Q_FA2, Q_FB3, Q_FA3, Q_FB4, Q_FA4, Q_NBB, Q_NAB, Q_NAA, Q_HE, Q_X18_⟩ hb_ hon hoff
      refine ⟨_, rfl, fun K hK => ?_⟩
      have e3 : a.tmps[3]? = some (.pointer (some ⟨g1, 0, none⟩)) := by rw [ha]; exact (putSel_off rfl).trans rfl
      replace ha := Az.mk ha
      have HD := Az.mk (Q_HD (hoff 19 (by kernel_rfl)))
      refine value_ (w1 := w') (v := .int .i64 D.st) (by rfl) rfl (HD.out.run_cell 1 rfl 0 rfl rfl (eval_of e3) Try.underlying3 rfl) ?_
      refine hK.out _ _ ⟨b1, b2, b3, b4, a1, a2, a3, a4, m18_, (by rw [ha.out]; exact putSel_upk 0 hb_ rfl rfl rfl), fun _ => HD.out, fun h0_ h1_ => (Q_FB1 h0_ h1_), fun h0_ h1_ => (Q_FA1 h0_ h1_), fun h0_ h1_ => (Q_FB2 h0_ h1_), fun h0_ h1_ => (Q_FA2 h0_ h1_), fun h0_ h1_ => (Q_FB3 h0_ h1_), fun h0_ h1_ => (Q_FA3 h0_ h1_), fun h0_ h1_ => (Q_FB4 h0_ h1_), fun h0_ h1_ => (Q_FA4 h0_ h1_), fun h0_ h1_ h2_ h3_ => (Q_NBB h0_ h1_ h2_ h3_), fun h0_ h1_ h2_ => (Q_NAB h0_ h1_ h2_), fun h0_ h1_ => (Q_NAA h0_ h1_), fun h0_ => absurd ((hoff 19 (by kernel_rfl)).symm.trans h0_) (by decide), fun h0_ => absurd ((hoff 18 (by kernel_rfl)).symm.trans h0_) (by decide)⟩
    refine steps_cons ?_ ?_
    · rintro b a w' ⟨b1, b2, b3, b4, a1, a2, a3, a4, m18_, ha, Q_HD, Q_FB1, Q_FA1, Q_FB2, Q_FA2, Q_FB3, Q_FA3, Q_FB4, Q_FA4, Q_NBB, Q_NAB, Q_NAA, Q_HE, Q_X18_⟩ hb_ hon hoff
      refine ⟨_, rfl, fun K hK => ?_⟩
      replace ha := Az.mk ha
      have HD := Az.mk (Q_HD (hoff 19 (by kernel_rfl)))
      refine Kd.R_lit_step Kd.string w.heap.size 9 (by rfl) (N := 5) rfl (xs := ([] : List ByteArray)) (inner := []) (ok := fun _ => True) (okp := fun _ => True) (w0 := w) ?hr (Reps.none _ _) (fun _ hk => hk) trivial HD.out.bel HD.out.base_le (by simp) ?_
      (case hr => first | (go_simp; done) | (go_simp; rfl))
      intro v1 w1 hr1 _ hg1 hn1
      have hb1 := below_of_none hg1
      refine hK.out _ _ ⟨v1, b2, b3, b4, a1, a2, a3, a4, m18_, (by rw [ha.out]; exact putSel_upk 1 hb_ rfl rfl rfl), fun _ => HD.out.step hb1, fun _ _ => hr1, fun h0_ _ => absurd ((hoff 5 (by kernel_rfl)).symm.trans h0_) (by decide), fun h0_ h1_ => Kd.R_below (Q_FB2 h0_ h1_) hb1, fun h0_ _ => absurd ((hoff 9 (by kernel_rfl)).symm.trans h0_) (by decide), fun h0_ h1_ => Kd.R_below (Q_FB3 h0_ h1_) hb1, fun h0_ _ => absurd ((hoff 13 (by kernel_rfl)).symm.trans h0_) (by decide), fun h0_ h1_ => Kd.R_below (Q_FB4 h0_ h1_) hb1, fun h0_ _ => absurd ((hoff 17 (by kernel_rfl)).symm.trans h0_) (by decide), fun h0_ h1_ h2_ h3_ => own_apart' (own_new hn1) (own_lt' (Q_FB2 h1_ h3_)), fun h0_ _ _ => absurd ((hoff 5 (by kernel_rfl)).symm.trans h0_) (by decide), fun h0_ _ => absurd ((hoff 5 (by kernel_rfl)).symm.trans h0_) (by decide), fun h0_ => absurd ((hoff 19 (by kernel_rfl)).symm.trans h0_) (by decide), fun h0_ => absurd ((hoff 18 (by kernel_rfl)).symm.trans h0_) (by decide)⟩
    refine steps_cons ?_ ?_
    · rintro b a w' ⟨b1, b2, b3, b4, a1, a2, a3, a4, m18_, ha, Q_HD, Q_FB1, Q_FA1, Q_FB2, Q_FA2, Q_FB3, Q_FA3, Q_FB4, Q_FA4, Q_NBB, Q_NAB, Q_NAA, Q_HE, Q_X18_⟩ hb_ hon hoff
      refine ⟨_, rfl, fun K hK => ?_⟩
      have e6 : a.tmps[6]? = some (.pointer (some ⟨g1, 1, none⟩)) := by rw [ha]; exact (putSel_off rfl).trans rfl
      replace ha := Az.mk ha
      have HD := Az.mk (Q_HD (hoff 19 (by kernel_rfl)))
      refine value_ (w1 := w') (v := .slice M.A1 D.l1.length M.c1) (by rfl) rfl (HD.out.run_cell 1 rfl 1 rfl rfl (eval_of e6) Try.underlying24 rfl) ?_
      refine hK.out _ _ ⟨b1, b2, b3, b4, a1, a2, a3, a4, m18_, (by rw [ha.out]; exact putSel_upk 2 hb_ rfl rfl rfl), fun _ => HD.out, fun h0_ h1_ => (Q_FB1 h0_ h1_), fun h0_ _ => absurd ((hoff 5 (by kernel_rfl)).symm.trans h0_) (by decide), fun h0_ h1_ => (Q_FB2 h0_ h1_), fun h0_ _ => absurd ((hoff 9 (by kernel_rfl)).symm.trans h0_) (by decide), fun h0_ h1_ => (Q_FB3 h0_ h1_), fun h0_ _ => absurd ((hoff 13 (by kernel_rfl)).symm.trans h0_) (by decide), fun h0_ h1_ => (Q_FB4 h0_ h1_), fun h0_ _ => absurd ((hoff 17 (by kernel_rfl)).symm.trans h0_) (by decide), fun h0_ h1_ h2_ h3_ => (Q_NBB h0_ h1_ h2_ h3_), fun h0_ _ _ => absurd ((hoff 5 (by kernel_rfl)).symm.trans h0_) (by decide), fun h0_ _ => absurd ((hoff 5 (by kernel_rfl)).symm.trans h0_) (by decide), fun h0_ => absurd ((hoff 19 (by kernel_rfl)).symm.trans h0_) (by decide), fun h0_ => absurd ((hoff 18 (by kernel_rfl)).symm.trans h0_) (by decide)⟩
    refine steps_cons ?_ ?_
    · rintro b a w' ⟨b1, b2, b3, b4, a1, a2, a3, a4, m18_, ha, Q_HD, Q_FB1, Q_FA1, Q_FB2, Q_FA2, Q_FB3, Q_FA3, Q_FB4, Q_FA4, Q_NBB, Q_NAB, Q_NAA, Q_HE, Q_X18_⟩ hb_ hon hoff
      refine ⟨_, rfl, fun K hK => ?_⟩
      have e5 : a.tmps[5]? = some (b1) := by rw [ha]; exact putSel_on (e := (2, 5, b1)) 1 rfl rfl (hon 2 (by kernel_rfl)) rfl
      have e7 : a.tmps[7]? = some (.slice M.A1 D.l1.length M.c1) := by rw [ha]; exact putSel_on (e := (4, 7, .slice M.A1 D.l1.length M.c1)) 2 rfl rfl (hon 4 (by kernel_rfl)) rfl
      replace ha := Az.mk ha
      have HD := Az.mk (Q_HD (hoff 19 (by kernel_rfl)))
      have FB1 := Az.mk (Q_FB1 (hon 2 (by kernel_rfl)) hb_)
      refine Kd.R_append_rows_step Kd.string (w0 := w) w.heap.size (by rfl) (.tmp 5) (.tmp 7) 24 9 (.string ⟨#[]⟩) 16 rfl Try.underlying24 infoL9 rfl (by decide) (by omega) b1 [] D.l1 M.A1 D.l1.length M.c1 (fun _ => True) (fun _ => False) (eval_of e5) (eval_of e7) FB1.out (HD.out.C HR.out.r1) (fun _ _ h => h) (fun _ h => h.elim) (fun _ _ => trivial) HD.out.bel HD.out.base_le ?hl ?_
      (case hl => have := HF.out.h1; simp only [List.length_nil]; omega)
      intro v1 w1 hr1 _ hg1 hn1
      rw [List.nil_append] at hr1
      refine hK.out _ _ ⟨b1, b2, b3, b4, v1, a2, a3, a4, m18_, (by rw [ha.out]; exact putSel_upk 3 hb_ rfl rfl rfl), fun _ => HD.out.grown2 hg1 (own_ge2 FB1.out (HD.out.box 0 rfl) (HD.out.box 1 rfl) (by decide)), fun _ h1_ => absurd ((up_self b 5).symm.trans h1_) (by decide), fun _ _ => hr1, fun h0_ h1_ => R_far_ne (Q_FB2 h0_ h1_) hg1 (Q_NBB (hon 2 (by kernel_rfl)) h0_ hb_ h1_) ownerless_string, fun h0_ _ => absurd ((hoff 9 (by kernel_rfl)).symm.trans h0_) (by decide), fun h0_ h1_ => R_far_types (Q_FB3 h0_ h1_) FB1.out (by decide) hg1 (ownerless_bool), fun h0_ _ => absurd ((hoff 13 (by kernel_rfl)).symm.trans h0_) (by decide), fun h0_ h1_ => R_far_types (Q_FB4 h0_ h1_) FB1.out (by decide) hg1 (ownerless_k54), fun h0_ _ => absurd ((hoff 17 (by kernel_rfl)).symm.trans h0_) (by decide), fun _ _ h2_ _ => absurd ((up_self b 5).symm.trans h2_) (by decide), fun h0_ h1_ h2_ => ne_left hn1 (Q_NBB (hon 2 (by kernel_rfl)) h1_ hb_ h2_) (own_lt' (Q_FB2 h1_ h2_)), fun _ h1_ => absurd ((hoff 9 (by kernel_rfl)).symm.trans h1_) (by decide), fun h0_ => absurd ((hoff 19 (by kernel_rfl)).symm.trans h0_) (by decide), fun h0_ => absurd ((hoff 18 (by kernel_rfl)).symm.trans h0_) (by decide)⟩
    refine steps_cons ?_ ?_
    · rintro b a w' ⟨b1, b2, b3, b4, a1, a2, a3, a4, m18_, ha, Q_HD, Q_FB1, Q_FA1, Q_FB2, Q_FA2, Q_FB3, Q_FA3, Q_FB4, Q_FA4, Q_NBB, Q_NAB, Q_NAA, Q_HE, Q_X18_⟩ hb_ hon hoff
      refine ⟨_, rfl, fun K hK => ?_⟩
      replace ha := Az.mk ha
      have HD := Az.mk (Q_HD (hoff 19 (by kernel_rfl)))
      refine Kd.R_lit_step Kd.string w.heap.size 9 (by rfl) (N := 9) rfl (xs := ([] : List ByteArray)) (inner := []) (ok := fun _ => True) (okp := fun _ => True) (w0 := w) ?hr (Reps.none _ _) (fun _ hk => hk) trivial HD.out.bel HD.out.base_le (by simp) ?_
      (case hr => first | (go_simp; done) | (go_simp; rfl))
      intro v1 w1 hr1 _ hg1 hn1
      have hb1 := below_of_none hg1
      refine hK.out _ _ ⟨b1, v1, b3, b4, a1, a2, a3, a4, m18_, (by rw [ha.out]; exact putSel_upk 4 hb_ rfl rfl rfl), fun _ => HD.out.step hb1, fun h0_ h1_ => Kd.R_below (Q_FB1 h0_ h1_) hb1, fun h0_ h1_ => Kd.R_below (Q_FA1 h0_ h1_) hb1, fun _ _ => hr1, fun h0_ _ => absurd ((hoff 9 (by kernel_rfl)).symm.trans h0_) (by decide), fun h0_ h1_ => Kd.R_below (Q_FB3 h0_ h1_) hb1, fun h0_ _ => absurd ((hoff 13 (by kernel_rfl)).symm.trans h0_) (by decide), fun h0_ h1_ => Kd.R_below (Q_FB4 h0_ h1_) hb1, fun h0_ _ => absurd ((hoff 17 (by kernel_rfl)).symm.trans h0_) (by decide), fun h0_ h1_ h2_ h3_ => own_apart (own_lt' (Q_FB1 h0_ h2_)) (own_new hn1), fun h0_ h1_ h2_ => own_apart (own_lt' (Q_FA1 h0_ (hoff 19 (by kernel_rfl)))) (own_new hn1), fun _ h1_ => absurd ((hoff 9 (by kernel_rfl)).symm.trans h1_) (by decide), fun h0_ => absurd ((hoff 19 (by kernel_rfl)).symm.trans h0_) (by decide), fun h0_ => absurd ((hoff 18 (by kernel_rfl)).symm.trans h0_) (by decide)⟩
    refine steps_cons ?_ ?_
    · rintro b a w' ⟨b1, b2, b3, b4, a1, a2, a3, a4, m18_, ha, Q_HD, Q_FB1, Q_FA1, Q_FB2, Q_FA2, Q_FB3, Q_FA3, Q_FB4, Q_FA4, Q_NBB, Q_NAB, Q_NAA, Q_HE, Q_X18_⟩ hb_ hon hoff
      refine ⟨_, rfl, fun K hK => ?_⟩
      have e10 : a.tmps[10]? = some (.pointer (some ⟨g1, 2, none⟩)) := by rw [ha]; exact (putSel_off rfl).trans rfl
      replace ha := Az.mk ha
      have HD := Az.mk (Q_HD (hoff 19 (by kernel_rfl)))
      refine value_ (w1 := w') (v := .slice M.A2 D.l2.length M.c2) (by rfl) rfl (HD.out.run_cell 1 rfl 2 rfl rfl (eval_of e10) Try.underlying24 rfl) ?_
      refine hK.out _ _ ⟨b1, b2, b3, b4, a1, a2, a3, a4, m18_, (by rw [ha.out]; exact putSel_upk 5 hb_ rfl rfl rfl), fun _ => HD.out, fun h0_ h1_ => (Q_FB1 h0_ h1_), fun h0_ h1_ => (Q_FA1 h0_ h1_), fun h0_ h1_ => (Q_FB2 h0_ h1_), fun h0_ _ => absurd ((hoff 9 (by kernel_rfl)).symm.trans h0_) (by decide), fun h0_ h1_ => (Q_FB3 h0_ h1_), fun h0_ _ => absurd ((hoff 13 (by kernel_rfl)).symm.trans h0_) (by decide), fun h0_ h1_ => (Q_FB4 h0_ h1_), fun h0_ _ => absurd ((hoff 17 (by kernel_rfl)).symm.trans h0_) (by decide), fun h0_ h1_ h2_ h3_ => (Q_NBB h0_ h1_ h2_ h3_), fun h0_ h1_ h2_ => (Q_NAB h0_ h1_ h2_), fun _ h1_ => absurd ((hoff 9 (by kernel_rfl)).symm.trans h1_) (by decide), fun h0_ => absurd ((hoff 19 (by kernel_rfl)).symm.trans h0_) (by decide), fun h0_ => absurd ((hoff 18 (by kernel_rfl)).symm.trans h0_) (by decide)⟩
    refine steps_cons ?_ ?_
    · rintro b a w' ⟨b1, b2, b3, b4, a1, a2, a3, a4, m18_, ha, Q_HD, Q_FB1, Q_FA1, Q_FB2, Q_FA2, Q_FB3, Q_FA3, Q_FB4, Q_FA4, Q_NBB, Q_NAB, Q_NAA, Q_HE, Q_X18_⟩ hb_ hon hoff
      refine ⟨_, rfl, fun K hK => ?_⟩
      have e9 : a.tmps[9]? = some (b2) := by rw [ha]; exact putSel_on (e := (6, 9, b2)) 4 rfl rfl (hon 6 (by kernel_rfl)) rfl
      have e11 : a.tmps[11]? = some (.slice M.A2 D.l2.length M.c2) := by rw [ha]; exact putSel_on (e := (8, 11, .slice M.A2 D.l2.length M.c2)) 5 rfl rfl (hon 8 (by kernel_rfl)) rfl
      replace ha := Az.mk ha
      have HD := Az.mk (Q_HD (hoff 19 (by kernel_rfl)))
      have FA1 := Az.mk (Q_FA1 (hon 5 (by kernel_rfl)) (hoff 19 (by kernel_rfl)))
      have FB2 := Az.mk (Q_FB2 (hon 6 (by kernel_rfl)) hb_)
      have NAB := Az.mk (Q_NAB (hon 5 (by kernel_rfl)) (hon 6 (by kernel_rfl)) hb_)
      refine Kd.R_append_rows_step Kd.string (w0 := w) w.heap.size (by rfl) (.tmp 9) (.tmp 11) 24 9 (.string ⟨#[]⟩) 16 rfl Try.underlying24 infoL9 rfl (by decide) (by omega) b2 [] D.l2 M.A2 D.l2.length M.c2 (fun _ => True) (fun _ => False) (eval_of e9) (eval_of e11) FB2.out (HD.out.C HR.out.r2) (fun _ _ h => h) (fun _ h => h.elim) (fun _ _ => trivial) HD.out.bel HD.out.base_le ?hl ?_
      (case hl => have := HF.out.h2; simp only [List.length_nil]; omega)
      intro v1 w1 hr1 _ hg1 hn1
      rw [List.nil_append] at hr1
      refine hK.out _ _ ⟨b1, b2, b3, b4, a1, v1, a3, a4, m18_, (by rw [ha.out]; exact putSel_upk 6 hb_ rfl rfl rfl), fun _ => HD.out.grown2 hg1 (own_ge2 FB2.out (HD.out.box 0 rfl) (HD.out.box 1 rfl) (by decide)), fun _ h1_ => absurd ((hon 5 (by kernel_rfl)).symm.trans h1_) (by decide), fun _ _ => R_far_ne' FA1.out hg1 (NAB.out) (ownerless_string), fun _ h1_ => absurd ((up_self b 9).symm.trans h1_) (by decide), fun _ _ => hr1, fun h0_ h1_ => R_far_types (Q_FB3 h0_ h1_) FB2.out (by decide) hg1 (ownerless_bool), fun h0_ _ => absurd ((hoff 13 (by kernel_rfl)).symm.trans h0_) (by decide), fun h0_ h1_ => R_far_types (Q_FB4 h0_ h1_) FB2.out (by decide) hg1 (ownerless_k54), fun h0_ _ => absurd ((hoff 17 (by kernel_rfl)).symm.trans h0_) (by decide), fun _ _ _ h3_ => absurd ((up_self b 9).symm.trans h3_) (by decide), fun _ _ h2_ => absurd ((up_self b 9).symm.trans h2_) (by decide), fun _ _ => ne_right hn1 NAB.out (own_lt' FA1.out), fun h0_ => absurd ((hoff 19 (by kernel_rfl)).symm.trans h0_) (by decide), fun h0_ => absurd ((hoff 18 (by kernel_rfl)).symm.trans h0_) (by decide)⟩
    refine steps_cons ?_ ?_
    · rintro b a w' ⟨b1, b2, b3, b4, a1, a2, a3, a4, m18_, ha, Q_HD, Q_FB1, Q_FA1, Q_FB2, Q_FA2, Q_FB3, Q_FA3, Q_FB4, Q_FA4, Q_NBB, Q_NAB, Q_NAA, Q_HE, Q_X18_⟩ hb_ hon hoff
      refine ⟨_, rfl, fun K hK => ?_⟩
      replace ha := Az.mk ha
      have HD := Az.mk (Q_HD (hoff 19 (by kernel_rfl)))
      refine Kd.R_lit_step Kd.bool w.heap.size 4 (by rfl) (N := 13) rfl (xs := ([] : List Bool)) (inner := []) (ok := fun _ => True) (okp := fun _ => True) (w0 := w) ?hr (Reps.none _ _) (fun _ hk => hk) trivial HD.out.bel HD.out.base_le (by simp) ?_
      (case hr => first | (go_simp; done) | (go_simp; rfl))
      intro v1 w1 hr1 _ hg1 hn1
      have hb1 := below_of_none hg1
      refine hK.out _ _ ⟨b1, b2, v1, b4, a1, a2, a3, a4, m18_, (by rw [ha.out]; exact putSel_upk 7 hb_ rfl rfl rfl), fun _ => HD.out.step hb1, fun h0_ h1_ => Kd.R_below (Q_FB1 h0_ h1_) hb1, fun h0_ h1_ => Kd.R_below (Q_FA1 h0_ h1_) hb1, fun h0_ h1_ => Kd.R_below (Q_FB2 h0_ h1_) hb1, fun h0_ h1_ => Kd.R_below (Q_FA2 h0_ h1_) hb1, fun _ _ => hr1, fun h0_ _ => absurd ((hoff 13 (by kernel_rfl)).symm.trans h0_) (by decide), fun h0_ h1_ => Kd.R_below (Q_FB4 h0_ h1_) hb1, fun h0_ _ => absurd ((hoff 17 (by kernel_rfl)).symm.trans h0_) (by decide), fun h0_ h1_ h2_ h3_ => (Q_NBB h0_ h1_ h2_ h3_), fun h0_ h1_ h2_ => (Q_NAB h0_ h1_ h2_), fun h0_ h1_ => (Q_NAA h0_ h1_), fun h0_ => absurd ((hoff 19 (by kernel_rfl)).symm.trans h0_) (by decide), fun h0_ => absurd ((hoff 18 (by kernel_rfl)).symm.trans h0_) (by decide)⟩
    refine steps_cons ?_ ?_
    · rintro b a w' ⟨b1, b2, b3, b4, a1, a2, a3, a4, m18_, ha, Q_HD, Q_FB1, Q_FA1, Q_FB2, Q_FA2, Q_FB3, Q_FA3, Q_FB4, Q_FA4, Q_NBB, Q_NAB, Q_NAA, Q_HE, Q_X18_⟩ hb_ hon hoff
      refine ⟨_, rfl, fun K hK => ?_⟩
      have e14 : a.tmps[14]? = some (.pointer (some ⟨g1, 3, none⟩)) := by rw [ha]; exact (putSel_off rfl).trans rfl
      replace ha := Az.mk ha
      have HD := Az.mk (Q_HD (hoff 19 (by kernel_rfl)))
      refine value_ (w1 := w') (v := .slice M.A3 D.l3.length M.c3) (by rfl) rfl (HD.out.run_cell 1 rfl 3 rfl rfl (eval_of e14) Try.underlying25 rfl) ?_
      refine hK.out _ _ ⟨b1, b2, b3, b4, a1, a2, a3, a4, m18_, (by rw [ha.out]; exact putSel_upk 8 hb_ rfl rfl rfl), fun _ => HD.out, fun h0_ h1_ => (Q_FB1 h0_ h1_), fun h0_ h1_ => (Q_FA1 h0_ h1_), fun h0_ h1_ => (Q_FB2 h0_ h1_), fun h0_ h1_ => (Q_FA2 h0_ h1_), fun h0_ h1_ => (Q_FB3 h0_ h1_), fun h0_ _ => absurd ((hoff 13 (by kernel_rfl)).symm.trans h0_) (by decide), fun h0_ h1_ => (Q_FB4 h0_ h1_), fun h0_ _ => absurd ((hoff 17 (by kernel_rfl)).symm.trans h0_) (by decide), fun h0_ h1_ h2_ h3_ => (Q_NBB h0_ h1_ h2_ h3_), fun h0_ h1_ h2_ => (Q_NAB h0_ h1_ h2_), fun h0_ h1_ => (Q_NAA h0_ h1_), fun h0_ => absurd ((hoff 19 (by kernel_rfl)).symm.trans h0_) (by decide), fun h0_ => absurd ((hoff 18 (by kernel_rfl)).symm.trans h0_) (by decide)⟩
    refine steps_cons ?_ ?_
    · rintro b a w' ⟨b1, b2, b3, b4, a1, a2, a3, a4, m18_, ha, Q_HD, Q_FB1, Q_FA1, Q_FB2, Q_FA2, Q_FB3, Q_FA3, Q_FB4, Q_FA4, Q_NBB, Q_NAB, Q_NAA, Q_HE, Q_X18_⟩ hb_ hon hoff
      refine ⟨_, rfl, fun K hK => ?_⟩
      have e13 : a.tmps[13]? = some (b3) := by rw [ha]; exact putSel_on (e := (10, 13, b3)) 7 rfl rfl (hon 10 (by kernel_rfl)) rfl
      have e15 : a.tmps[15]? = some (.slice M.A3 D.l3.length M.c3) := by rw [ha]; exact putSel_on (e := (12, 15, .slice M.A3 D.l3.length M.c3)) 8 rfl rfl (hon 12 (by kernel_rfl)) rfl
      replace ha := Az.mk ha
      have HD := Az.mk (Q_HD (hoff 19 (by kernel_rfl)))
      have FA1 := Az.mk (Q_FA1 (hon 5 (by kernel_rfl)) (hoff 19 (by kernel_rfl)))
      have FA2 := Az.mk (Q_FA2 (hon 9 (by kernel_rfl)) (hoff 19 (by kernel_rfl)))
      have FB3 := Az.mk (Q_FB3 (hon 10 (by kernel_rfl)) hb_)
      have NAA := Az.mk (Q_NAA (hon 5 (by kernel_rfl)) (hon 9 (by kernel_rfl)))
      refine Kd.R_append_rows_step Kd.bool (w0 := w) w.heap.size (by rfl) (.tmp 13) (.tmp 15) 25 4 (.bool false) 1 rfl Try.underlying25 infoL4 rfl (by decide) (by omega) b3 [] D.l3 M.A3 D.l3.length M.c3 (fun _ => True) (fun _ => False) (eval_of e13) (eval_of e15) FB3.out (HD.out.C HR.out.r3) (fun _ _ h => h) (fun _ h => h.elim) (fun _ _ => trivial) HD.out.bel HD.out.base_le ?hl ?_
      (case hl => have := HF.out.h3; simp only [List.length_nil]; omega)
      intro v1 w1 hr1 _ hg1 hn1
      rw [List.nil_append] at hr1
      refine hK.out _ _ ⟨b1, b2, b3, b4, a1, a2, v1, a4, m18_, (by rw [ha.out]; exact putSel_upk 9 hb_ rfl rfl rfl), fun _ => HD.out.grown2 hg1 (own_ge2 FB3.out (HD.out.box 0 rfl) (HD.out.box 1 rfl) (by decide)), fun _ h1_ => absurd ((hon 5 (by kernel_rfl)).symm.trans h1_) (by decide), fun _ _ => R_far_types FA1.out FB3.out (by decide) hg1 (ownerless_string), fun _ h1_ => absurd ((hon 9 (by kernel_rfl)).symm.trans h1_) (by decide), fun _ _ => R_far_types FA2.out FB3.out (by decide) hg1 (ownerless_string), fun _ h1_ => absurd ((up_self b 13).symm.trans h1_) (by decide), fun _ _ => hr1, fun h0_ h1_ => R_far_types (Q_FB4 h0_ h1_) FB3.out (by decide) hg1 (ownerless_k54), fun h0_ _ => absurd ((hoff 17 (by kernel_rfl)).symm.trans h0_) (by decide), fun _ _ h2_ _ => absurd ((hon 5 (by kernel_rfl)).symm.trans h2_) (by decide), fun _ _ h2_ => absurd ((hon 9 (by kernel_rfl)).symm.trans h2_) (by decide), fun _ _ => NAA.out, fun h0_ => absurd ((hoff 19 (by kernel_rfl)).symm.trans h0_) (by decide), fun h0_ => absurd ((hoff 18 (by kernel_rfl)).symm.trans h0_) (by decide)⟩
    refine steps_cons ?_ ?_
    · rintro b a w' ⟨b1, b2, b3, b4, a1, a2, a3, a4, m18_, ha, Q_HD, Q_FB1, Q_FA1, Q_FB2, Q_FA2, Q_FB3, Q_FA3, Q_FB4, Q_FA4, Q_NBB, Q_NAB, Q_NAA, Q_HE, Q_X18_⟩ hb_ hon hoff
      refine ⟨_, rfl, fun K hK => ?_⟩
      replace ha := Az.mk ha
      have HD := Az.mk (Q_HD (hoff 19 (by kernel_rfl)))
      refine Kd.R_lit_step k54 w.heap.size 54 (by rfl) (N := 17) rfl (xs := ([] : List S54)) (inner := []) (ok := fun _ => True) (okp := fun _ => True) (w0 := w) ?hr (Reps.none _ _) (fun _ hk => hk) trivial HD.out.bel HD.out.base_le (by simp) ?_
      (case hr => first | (go_simp; done) | (go_simp; rfl))
      intro v1 w1 hr1 _ hg1 hn1
      have hb1 := below_of_none hg1
      refine hK.out _ _ ⟨b1, b2, b3, v1, a1, a2, a3, a4, m18_, (by rw [ha.out]; exact putSel_upk 10 hb_ rfl rfl rfl), fun _ => HD.out.step hb1, fun h0_ h1_ => Kd.R_below (Q_FB1 h0_ h1_) hb1, fun h0_ h1_ => Kd.R_below (Q_FA1 h0_ h1_) hb1, fun h0_ h1_ => Kd.R_below (Q_FB2 h0_ h1_) hb1, fun h0_ h1_ => Kd.R_below (Q_FA2 h0_ h1_) hb1, fun h0_ h1_ => Kd.R_below (Q_FB3 h0_ h1_) hb1, fun h0_ h1_ => Kd.R_below (Q_FA3 h0_ h1_) hb1, fun _ _ => hr1, fun h0_ _ => absurd ((hoff 17 (by kernel_rfl)).symm.trans h0_) (by decide), fun h0_ h1_ h2_ h3_ => (Q_NBB h0_ h1_ h2_ h3_), fun h0_ h1_ h2_ => (Q_NAB h0_ h1_ h2_), fun h0_ h1_ => (Q_NAA h0_ h1_), fun h0_ => absurd ((hoff 19 (by kernel_rfl)).symm.trans h0_) (by decide), fun h0_ => absurd ((hoff 18 (by kernel_rfl)).symm.trans h0_) (by decide)⟩
    refine steps_cons ?_ ?_
    · rintro b a w' ⟨b1, b2, b3, b4, a1, a2, a3, a4, m18_, ha, Q_HD, Q_FB1, Q_FA1, Q_FB2, Q_FA2, Q_FB3, Q_FA3, Q_FB4, Q_FA4, Q_NBB, Q_NAB, Q_NAA, Q_HE, Q_X18_⟩ hb_ hon hoff
      refine ⟨_, rfl, fun K hK => ?_⟩
      have e18 : a.tmps[18]? = some (.pointer (some ⟨g1, 4, none⟩)) := by rw [ha]; exact (putSel_off rfl).trans rfl
      replace ha := Az.mk ha
      have HD := Az.mk (Q_HD (hoff 19 (by kernel_rfl)))
      refine value_ (w1 := w') (v := .slice M.A4 D.l4.length M.c4) (by rfl) rfl (HD.out.run_cell 1 rfl 4 rfl rfl (eval_of e18) Try.underlying26 rfl) ?_
      refine hK.out _ _ ⟨b1, b2, b3, b4, a1, a2, a3, a4, m18_, (by rw [ha.out]; exact putSel_upk 11 hb_ rfl rfl rfl), fun _ => HD.out, fun h0_ h1_ => (Q_FB1 h0_ h1_), fun h0_ h1_ => (Q_FA1 h0_ h1_), fun h0_ h1_ => (Q_FB2 h0_ h1_), fun h0_ h1_ => (Q_FA2 h0_ h1_), fun h0_ h1_ => (Q_FB3 h0_ h1_), fun h0_ h1_ => (Q_FA3 h0_ h1_), fun h0_ h1_ => (Q_FB4 h0_ h1_), fun h0_ _ => absurd ((hoff 17 (by kernel_rfl)).symm.trans h0_) (by decide), fun h0_ h1_ h2_ h3_ => (Q_NBB h0_ h1_ h2_ h3_), fun h0_ h1_ h2_ => (Q_NAB h0_ h1_ h2_), fun h0_ h1_ => (Q_NAA h0_ h1_), fun h0_ => absurd ((hoff 19 (by kernel_rfl)).symm.trans h0_) (by decide), fun h0_ => absurd ((hoff 18 (by kernel_rfl)).symm.trans h0_) (by decide)⟩
    refine steps_cons ?_ ?_
    · rintro b a w' ⟨b1, b2, b3, b4, a1, a2, a3, a4, m18_, ha, Q_HD, Q_FB1, Q_FA1, Q_FB2, Q_FA2, Q_FB3, Q_FA3, Q_FB4, Q_FA4, Q_NBB, Q_NAB, Q_NAA, Q_HE, Q_X18_⟩ hb_ hon hoff
      refine ⟨_, rfl, fun K hK => ?_⟩
      have e17 : a.tmps[17]? = some (b4) := by rw [ha]; exact putSel_on (e := (14, 17, b4)) 10 rfl rfl (hon 14 (by kernel_rfl)) rfl
      have e19 : a.tmps[19]? = some (.slice M.A4 D.l4.length M.c4) := by rw [ha]; exact putSel_on (e := (16, 19, .slice M.A4 D.l4.length M.c4)) 11 rfl rfl (hon 16 (by kernel_rfl)) rfl
      replace ha := Az.mk ha
      have HD := Az.mk (Q_HD (hoff 19 (by kernel_rfl)))
      have FA1 := Az.mk (Q_FA1 (hon 5 (by kernel_rfl)) (hoff 19 (by kernel_rfl)))
      have FA2 := Az.mk (Q_FA2 (hon 9 (by kernel_rfl)) (hoff 19 (by kernel_rfl)))
      have FA3 := Az.mk (Q_FA3 (hon 13 (by kernel_rfl)) (hoff 19 (by kernel_rfl)))
      have FB4 := Az.mk (Q_FB4 (hon 14 (by kernel_rfl)) hb_)
      have NAA := Az.mk (Q_NAA (hon 5 (by kernel_rfl)) (hon 9 (by kernel_rfl)))
      refine Kd.R_append_rows_step k54 (w0 := w) w.heap.size (by rfl) (.tmp 17) (.tmp 19) 26 54 (.agg #[.bool false, .int .i64 0, .string ⟨#[]⟩]) 32 rfl Try.underlying26 infoL54 rfl (by decide) (by omega) b4 [] D.l4 M.A4 D.l4.length M.c4 (fun _ => True) (fun _ => False) (eval_of e17) (eval_of e19) FB4.out (HD.out.C HR.out.r4) (fun _ _ h => h) (fun _ h => h.elim) (fun _ _ => trivial) HD.out.bel HD.out.base_le ?hl ?_
      (case hl => have := HF.out.h4; simp only [List.length_nil]; omega)
      intro v1 w1 hr1 _ hg1 hn1
      rw [List.nil_append] at hr1
      refine hK.out _ _ ⟨b1, b2, b3, b4, a1, a2, a3, v1, m18_, (by rw [ha.out]; exact putSel_upk 12 hb_ rfl rfl rfl), fun _ => HD.out.grown2 hg1 (own_ge2 FB4.out (HD.out.box 0 rfl) (HD.out.box 1 rfl) (by decide)), fun _ h1_ => absurd ((hon 5 (by kernel_rfl)).symm.trans h1_) (by decide), fun _ _ => R_far_types FA1.out FB4.out (by decide) hg1 (ownerless_string), fun _ h1_ => absurd ((hon 9 (by kernel_rfl)).symm.trans h1_) (by decide), fun _ _ => R_far_types FA2.out FB4.out (by decide) hg1 (ownerless_string), fun _ h1_ => absurd ((hon 13 (by kernel_rfl)).symm.trans h1_) (by decide), fun _ _ => R_far_types FA3.out FB4.out (by decide) hg1 (ownerless_bool), fun _ h1_ => absurd ((up_self b 17).symm.trans h1_) (by decide), fun _ _ => hr1, fun _ _ h2_ _ => absurd ((hon 5 (by kernel_rfl)).symm.trans h2_) (by decide), fun _ _ h2_ => absurd ((hon 9 (by kernel_rfl)).symm.trans h2_) (by decide), fun _ _ => NAA.out, fun h0_ => absurd ((hoff 19 (by kernel_rfl)).symm.trans h0_) (by decide), fun h0_ => absurd ((hoff 18 (by kernel_rfl)).symm.trans h0_) (by decide)⟩
    refine steps_cons ?_ ?_
    · rintro b a w' ⟨b1, b2, b3, b4, a1, a2, a3, a4, m18_, ha, Q_HD, Q_FB1, Q_FA1, Q_FB2, Q_FA2, Q_FB3, Q_FA3, Q_FB4, Q_FA4, Q_NBB, Q_NAB, Q_NAA, Q_HE, Q_X18_⟩ hb_ hon hoff
      refine ⟨_, rfl, fun K hK => ?_⟩
      have e4 : a.tmps[4]? = some (.int .i64 D.st) := by rw [ha]; exact putSel_on (e := (1, 4, .int .i64 D.st)) 0 rfl rfl (hon 1 (by kernel_rfl)) rfl
      have e8 : a.tmps[8]? = some (a1) := by rw [ha]; exact putSel_on (e := (5, 8, a1)) 3 rfl rfl (hon 5 (by kernel_rfl)) rfl
      have e12 : a.tmps[12]? = some (a2) := by rw [ha]; exact putSel_on (e := (9, 12, a2)) 6 rfl rfl (hon 9 (by kernel_rfl)) rfl
      have e16 : a.tmps[16]? = some (a3) := by rw [ha]; exact putSel_on (e := (13, 16, a3)) 9 rfl rfl (hon 13 (by kernel_rfl)) rfl
      have e20 : a.tmps[20]? = some (a4) := by rw [ha]; exact putSel_on (e := (17, 20, a4)) 12 rfl rfl (hon 17 (by kernel_rfl)) rfl
      replace ha := Az.mk ha
      have HD := Az.mk (Q_HD (hoff 19 (by kernel_rfl)))
      have FA1 := Az.mk (Q_FA1 (hon 5 (by kernel_rfl)) (hoff 19 (by kernel_rfl)))
      have FA2 := Az.mk (Q_FA2 (hon 9 (by kernel_rfl)) (hoff 19 (by kernel_rfl)))
      have FA3 := Az.mk (Q_FA3 (hon 13 (by kernel_rfl)) (hoff 19 (by kernel_rfl)))
      have FA4 := Az.mk (Q_FA4 (hon 17 (by kernel_rfl)) (hoff 19 (by kernel_rfl)))
      have NAA := Az.mk (Q_NAA (hon 5 (by kernel_rfl)) (hon 9 (by kernel_rfl)))
      obtain ⟨p1, q1, rfl⟩ := Kd.R_slice FA1.out
      obtain ⟨p2, q2, rfl⟩ := Kd.R_slice FA2.out
      obtain ⟨p3, q3, rfl⟩ := Kd.R_slice FA3.out
      obtain ⟨p4, q4, rfl⟩ := Kd.R_slice FA4.out
      refine value_ (w1 := w') (v := .agg #[.int .i64 D.st, (.slice p1 D.l1.length q1), (.slice p2 D.l2.length q2), (.slice p3 D.l3.length q3), (.slice p4 D.l4.length q4)]) (by rfl) rfl ?_ ?_
      · go_simp
        (try simp only [i64_w])
        try rfl
      refine hK.out _ _ ⟨b1, b2, b3, b4, (.slice p1 D.l1.length q1), (.slice p2 D.l2.length q2), (.slice p3 D.l3.length q3), (.slice p4 D.l4.length q4), (.agg #[.int .i64 D.st, (.slice p1 D.l1.length q1), (.slice p2 D.l2.length q2), (.slice p3 D.l3.length q3), (.slice p4 D.l4.length q4)]), (by rw [ha.out]; exact putSel_upk 13 hb_ rfl rfl rfl), fun _ => HD.out, fun _ h1_ => absurd ((hon 5 (by kernel_rfl)).symm.trans h1_) (by decide), fun _ _ => FA1.out, fun _ h1_ => absurd ((hon 9 (by kernel_rfl)).symm.trans h1_) (by decide), fun _ _ => FA2.out, fun _ h1_ => absurd ((hon 13 (by kernel_rfl)).symm.trans h1_) (by decide), fun _ _ => FA3.out, fun _ h1_ => absurd ((hon 17 (by kernel_rfl)).symm.trans h1_) (by decide), fun _ _ => FA4.out, fun _ _ h2_ _ => absurd ((hon 5 (by kernel_rfl)).symm.trans h2_) (by decide), fun _ _ h2_ => absurd ((hon 9 (by kernel_rfl)).symm.trans h2_) (by decide), fun _ _ => NAA.out, fun h0_ => absurd ((hoff 19 (by kernel_rfl)).symm.trans h0_) (by decide), fun _ => rfl⟩
    refine steps_cons ?_ ?_
    · rintro b a w' ⟨b1, b2, b3, b4, a1, a2, a3, a4, m18_, ha, Q_HD, Q_FB1, Q_FA1, Q_FB2, Q_FA2, Q_FB3, Q_FA3, Q_FB4, Q_FA4, Q_NBB, Q_NAB, Q_NAA, Q_HE, Q_X18_⟩ hb_ hon hoff
      refine ⟨_, rfl, fun K hK => ?_⟩
      have e2 : a.tmps[2]? = some (.pointer (some ⟨g2, 0, none⟩)) := by rw [ha]; exact (putSel_off rfl).trans rfl
      have e21 : a.tmps[21]? = some (m18_) := by rw [ha]; exact putSel_on (e := (18, 21, m18_)) 13 rfl rfl (hon 18 (by kernel_rfl)) rfl
      rw [Q_X18_ (hon 18 (by kernel_rfl))] at e21
      replace ha := Az.mk ha
      have HD := Az.mk (Q_HD hb_)
      have FA1 := Az.mk (Q_FA1 (hon 5 (by kernel_rfl)) hb_)
      have FA2 := Az.mk (Q_FA2 (hon 9 (by kernel_rfl)) hb_)
      have FA3 := Az.mk (Q_FA3 (hon 13 (by kernel_rfl)) hb_)
      have FA4 := Az.mk (Q_FA4 (hon 17 (by kernel_rfl)) hb_)
      have NAA := Az.mk (Q_NAA (hon 5 (by kernel_rfl)) (hon 9 (by kernel_rfl)))
      have ho : (#[.int .i64 D.st, a1, a2, a3, a4] : Array Value).all (·.oneCell') = true := by
        obtain ⟨_, _, h1⟩ := Kd.R_slice FA1.out
        obtain ⟨_, _, h2⟩ := Kd.R_slice FA2.out
        obtain ⟨_, _, h3⟩ := Kd.R_slice FA3.out
        obtain ⟨_, _, h4⟩ := Kd.R_slice FA4.out
        rw [h1, h2, h3, h4]
        simp [Value.oneCell']
      refine skip_ (by rfl) rfl (HD.out.run_st 0 rfl rfl (eval_of e2) _ (eval_of e21) hs28 rfl ho) ?_
      refine hK.out _ _ ⟨b1, b2, b3, b4, a1, a2, a3, a4, m18_, (by rw [ha.out]; exact putSel_none (v := undef) rfl), fun h0_ => absurd ((up_self b 19).symm.trans h0_) (by decide), fun _ h1_ => absurd ((hon 5 (by kernel_rfl)).symm.trans h1_) (by decide), fun _ h1_ => absurd ((up_self b 19).symm.trans h1_) (by decide), fun _ h1_ => absurd ((hon 9 (by kernel_rfl)).symm.trans h1_) (by decide), fun _ h1_ => absurd ((up_self b 19).symm.trans h1_) (by decide), fun _ h1_ => absurd ((hon 13 (by kernel_rfl)).symm.trans h1_) (by decide), fun _ h1_ => absurd ((up_self b 19).symm.trans h1_) (by decide), fun _ h1_ => absurd ((hon 17 (by kernel_rfl)).symm.trans h1_) (by decide), fun _ h1_ => absurd ((up_self b 19).symm.trans h1_) (by decide), fun _ _ h2_ _ => absurd ((hon 5 (by kernel_rfl)).symm.trans h2_) (by decide), fun _ _ h2_ => absurd ((hon 9 (by kernel_rfl)).symm.trans h2_) (by decide), fun _ _ => NAA.out, fun _ => ⟨HD.out.set_row 0 rfl _, R_set_far FA1.out (HD.out.box 0 rfl) (by decide) _ ownerless_string, R_set_far FA2.out (HD.out.box 0 rfl) (by decide) _ ownerless_string, R_set_far FA3.out (HD.out.box 0 rfl) (by decide) _ ownerless_bool, R_set_far FA4.out (HD.out.box 0 rfl) (by decide) _ ownerless_k54⟩, Q_X18_⟩
    exact steps_nil
  · rintro b a w' hall ⟨b1, b2, b3, b4, a1, a2, a3, a4, m18_, ha, Q_HD, Q_FB1, Q_FA1, Q_FB2, Q_FA2, Q_FB3, Q_FA3, Q_FB4, Q_FA4, Q_NBB, Q_NAB, Q_NAA, Q_HE, Q_X18_⟩
    clear HD
    have hb1_ := hall 1 (by kernel_rfl)
    have hb2_ := hall 2 (by kernel_rfl)
    have hb4_ := hall 4 (by kernel_rfl)
    have hb5_ := hall 5 (by kernel_rfl)
    have hb6_ := hall 6 (by kernel_rfl)
    have hb8_ := hall 8 (by kernel_rfl)
    have hb9_ := hall 9 (by kernel_rfl)
    have hb10_ := hall 10 (by kernel_rfl)
    have hb12_ := hall 12 (by kernel_rfl)
    have hb13_ := hall 13 (by kernel_rfl)
    have hb14_ := hall 14 (by kernel_rfl)
    have hb16_ := hall 16 (by kernel_rfl)
    have hb17_ := hall 17 (by kernel_rfl)
    have hb18_ := hall 18 (by kernel_rfl)
    have hb19_ := hall 19 (by kernel_rfl)
    subst ha
    obtain rfl := Q_X18_ hb18_
    simp only [putSel, hb1_, hb2_, hb4_, hb5_, hb6_, hb8_, hb9_, hb10_, hb12_, hb13_, hb14_, hb16_, hb17_, hb18_, hb19_, if_true, Act.put, List.setIfInBounds_toArray, List.set_cons_zero, List.set_cons_succ]
    clear Q_HD
    clear Q_FB1
    clear Q_FA1
    clear Q_FB2
    clear Q_FA2
    clear Q_FB3
    clear Q_FA3
    clear Q_FB4
    clear Q_FA4
    clear Q_NBB
    clear Q_NAB
    have NAA := Az.mk (Q_NAA hb5_ hb9_)
    clear Q_NAA
    have HE := Az.mk (Q_HE hb19_)
    clear Q_HE
    clear hall hb1_ hb2_ hb4_ hb5_ hb6_ hb8_ hb9_ hb10_ hb12_ hb13_ hb14_ hb16_ hb17_ hb18_ hb19_
    obtain ⟨HE1, o1, o2, o3, o4⟩ := HE.out
    go_wp2
    refine bodyPost_ret (results_cell_row rfl _ _ g2 28 _ (0, 0) _ rfl (HE1.box 0 rfl) Try.underlying28 rfl (by kernel_rfl)) rfl ?_
    have hn : ∀ k, a1.ownBlock = some k → some k ≠ a2.ownBlock := fun k hk => atom_of NAA.out hk
    have hn' : ∀ k, a2.ownBlock = some k → some k ≠ a1.ownBlock := fun k hk => atom_of' NAA.out hk
    obtain ⟨A1, c1, rfl⟩ := Kd.R_slice o1
    obtain ⟨A2, c2, rfl⟩ := Kd.R_slice o2
    obtain ⟨A3, c3, rfl⟩ := Kd.R_slice o3
    obtain ⟨A4, c4, rfl⟩ := Kd.R_slice o4
    refine ⟨⟨A1, c1, A2, c2, A3, c3, A4, c4⟩, rfl, ⟨R_base o1 (fun k hk => (own_ge o1 k hk).1) (fun k hk => ⟨own_lt' o1 k hk, hn k hk⟩), R_base o2 (fun k hk => (own_ge o2 k hk).1) (fun k hk => ⟨own_lt' o2 k hk, hn' k hk⟩), R_base o3 (fun k hk => (own_ge o3 k hk).1) (fun k hk => own_lt' o3 k hk), R_base54 o4 (fun k hk => (own_ge o4 k hk).1) (fun k hk => own_lt' o4 k hk)⟩, HE1.bel⟩
end Go.Proofs.Ytkgpnloghmbmlaa.Hd
namespace Go.Proofs.Ytkgpnloghmbmlaa.Print
open Go.RowKit Go.Proofs.YtkgpnloghmbmlaaW.PrintWords Go.Proofs.Ytkgpnloghmbmlaa.Hd
end Go.Proofs.Ytkgpnloghmbmlaa.Print
namespace Go.Proofs.Ytkgpnloghmbmlaa.Hd
open Go.RowKit Go.Proofs.Ytkgpnloghmbmlaa.Print Go.Proofs.YtkgpnloghmbmlaaW.PrintWords Go.Proofs.YtkgpnloghmbmlaaW.PrintLast Go.Proofs.YtkgpnloghmbmlaaW.PrintMore
set_option linter.unusedVariables false
set_option linter.unusedSimpArgs false
def turned (s : ByteArray) (b : Nat) (by_ : Int) : ByteArray := strOfNums ((bytesOf s).set b (bits .xor .u8 ((bytesOf s)[b]?.getD 0) (by_ % 256)))
def spoilD (D : Dd) (a b : Nat) (by_ : Int) : Dd := if (D.l1.getD a ByteArray.empty).size = 0 ∨ D.l3.getD a false = true then D else { D with l1 := D.l1.set a (turned (D.l1.getD a ByteArray.empty) b by_), l3 := D.l3.set a true }
theorem add0 (b i : Nat) : (⟨b, 0, none⟩ : Addr).add i = ⟨b, i, none⟩ := by unfold Addr.add; split <;> simp_all
theorem own_addr {α : Type} {d : Kd α} {t lo : Nat} {w : World} {ok : Nat → Prop} {A : Option Addr} {n c : Nat} {xs : List α} (h : d.R t w lo ok (.slice A n c) xs) (hn : 0 < xs.length) : ∃ g, A = some ⟨g, 0, none⟩ ∧ lo ≤ g ∧ ok g ∧ g < w.heap.size := by
  have hg := own_ge h
  have hl := own_lt' h
  obtain ⟨_, inner, ho, _⟩ := h
  rcases ho.2 with ⟨h1, h2⟩ | ⟨g, cap, cur, e, _⟩
  · injection h1 with _ h3 _
    omega
  · injection e with e1
    have hk : (Value.slice A n c).ownBlock = some g := by rw [e1]; rfl
    exact ⟨g, e1, (hg g hk).1, (hg g hk).2, hl g hk⟩
theorem Own.put1 {w : World} {lo hi g c1 : Nat} {A2 A3 A4 : Option Addr} {c2 c3 c4 : Nat} {D : Dd} (h : Own w lo hi ⟨some ⟨g, 0, none⟩, c1, A2, c2, A3, c3, A4, c4⟩ D) (i : Nat) (x : ByteArray) : Own (w.setCell ⟨g, i, none⟩ (.string x)) lo hi ⟨some ⟨g, 0, none⟩, c1, A2, c2, A3, c3, A4, c4⟩ { D with l1 := D.l1.set i x } := by
  have hg := (Kd.R_putg (enc := Value.string) (h1 := fun _ => rfl) h.o1 (i : Int) x)
  have hl : (D.l1.set i x).length = D.l1.length := List.length_set
  have h1 : Kd.string.R 9 (w.setCell ⟨g, i, none⟩ (.string x)) lo _ (.slice (some ⟨g, 0, none⟩) D.l1.length c1) (D.l1.set i x) := hg.1
  have hb : w.grownBy (w.setCell ⟨g, i, none⟩ (.string x)) (some g) := hg.2
  refine ⟨?_, ?_, ?_, ?_⟩
  · show Kd.R Kd.string 9 _ lo _ (.slice (some ⟨g, 0, none⟩) (D.l1.set i x).length c1) _
    rw [hl]
    exact h1
  · refine R_own_only (w := w) ?_ ownerless_string fun k hk => hb.block k (own_lt' h.o2 k hk) fun e => (own_ge h.o2 k hk).2.2 e
    show Kd.R Kd.string 9 w lo (fun k => k < hi ∧ some k ≠ (Value.slice (some ⟨g, 0, none⟩) (D.l1.set i x).length c1).ownBlock) _ _
    rw [hl]
    exact h.o2
  · exact R_far_types h.o3 h.o1 (by decide) hb ownerless_bool
  · exact R_far_types h.o4 h.o1 (by decide) hb ownerless_k54
theorem Own.put3 {w : World} {lo hi g c3 : Nat} {A1 A2 A4 : Option Addr} {c1 c2 c4 : Nat} {D : Dd} (h : Own w lo hi ⟨A1, c1, A2, c2, some ⟨g, 0, none⟩, c3, A4, c4⟩ D) (i : Nat) (x : Bool) : Own (w.setCell ⟨g, i, none⟩ (.bool x)) lo hi ⟨A1, c1, A2, c2, some ⟨g, 0, none⟩, c3, A4, c4⟩ { D with l3 := D.l3.set i x } := by
  have hg := (Kd.R_putg (enc := Value.bool) (h1 := fun _ => rfl) h.o3 (i : Int) x)
  have hl : (D.l3.set i x).length = D.l3.length := List.length_set
  have h1 : Kd.bool.R 4 (w.setCell ⟨g, i, none⟩ (.bool x)) lo _ (.slice (some ⟨g, 0, none⟩) D.l3.length c3) (D.l3.set i x) := hg.1
  have hb : w.grownBy (w.setCell ⟨g, i, none⟩ (.bool x)) (some g) := hg.2
  refine ⟨R_far_types h.o1 h.o3 (by decide) hb ownerless_string, R_far_types h.o2 h.o3 (by decide) hb ownerless_string, ?_, R_far_types h.o4 h.o3 (by decide) hb ownerless_k54⟩
  show Kd.R Kd.bool 4 _ lo _ (.slice (some ⟨g, 0, none⟩) (D.l3.set i x).length c3) _
  rw [hl]
  exact h1
theorem own_cell3 {w : World} {lo hi g c3 : Nat} {A1 A2 A4 : Option Addr} {c1 c2 c4 : Nat} {D : Dd} (h : Own w lo hi ⟨A1, c1, A2, c2, some ⟨g, 0, none⟩, c3, A4, c4⟩ D) {i : Nat} (hi3 : i < D.l3.length) : w.cell? ⟨g, i, none⟩ = some (.bool (rdOf false D.l3 (i : Int))) ∧ w.frozen? ⟨g, i, none⟩ = false :=
  Kd.R_cell (enc := Value.bool) (h1 := fun _ => rfl) false h.o3 (i : Int) (by omega) (by omega)
theorem own_cell1 {w : World} {lo hi g c1 : Nat} {A2 A3 A4 : Option Addr} {c2 c3 c4 : Nat} {D : Dd} (h : Own w lo hi ⟨some ⟨g, 0, none⟩, c1, A2, c2, A3, c3, A4, c4⟩ D) {i : Nat} (hi1 : i < D.l1.length) : w.cell? ⟨g, i, none⟩ = some (.string (rdOf ByteArray.empty D.l1 (i : Int))) ∧ w.frozen? ⟨g, i, none⟩ = false :=
  Kd.R_cell (enc := Value.string) (h1 := fun _ => rfl) ByteArray.empty h.o1 (i : Int) (by omega) (by omega)
theorem cD_set (M : Mm) (D : Dd) (i : Nat) (x : ByteArray) (y : Bool) : cD M { D with l1 := D.l1.set i x, l3 := D.l3.set i y } = cD M D := by simp only [cD, List.length_set]
theorem sizeS5 : (Try.prog.info? 5).map (·.size) = some 1 := by kernel_rfl
theorem sizeS9 : (Try.prog.info? 9).map (·.size) = some 1 := by kernel_rfl
theorem sizeS4 : (Try.prog.info? 4).map (·.size) = some 1 := by kernel_rfl
theorem cD_one1 (M : Mm) (D : Dd) : (cD M D).all (·.oneCell') = true := by simp [cD, Value.oneCell']
set_option maxHeartbeats 8000000 in
set_option maxRecDepth 100000 in
theorem spoil_main {w : World} {lo hi : Nat} {M : Mm} {D : Dd} {a b : Nat} {by_ : Int} (h : Own w lo hi M D) (hhi : hi ≤ w.heap.size) (ha1 : a < D.l1.length) (ha3 : a < D.l3.length) (hl : D.l1.length ≤ 1048576) (hl3 : D.l3.length ≤ 1048576) (hb : b < (D.l1.getD a ByteArray.empty).size) (hs : (D.l1.getD a ByteArray.empty).size ≤ 1099511627776) (hby : 0 ≤ by_ ∧ by_ ≤ 255) (hsp : D.l3.getD a false = false) :
    Calls Try.prog 87 #[.agg (cD M D), .int .i64 (a : Int), .int .i64 (b : Int), .int .i64 by_] w fun e w' => e = .returned (.agg (cD M D)) ∧ Own w' lo hi M { D with l1 := D.l1.set a (turned (D.l1.getD a ByteArray.empty) b by_), l3 := D.l3.set a true } ∧ Below lo w w' ∧ ∀ k, k < w.heap.size → (k < lo ∨ hi ≤ k) → w'.heap[k]? = w.heap[k]? := by
  have hs28 := sizeL28
  obtain ⟨A1, c1, A2, c2, A3, c3, A4, c4⟩ := M
  obtain ⟨g1, e1, p1, q1, _⟩ := own_addr h.o1 (by omega)
  have hg1 : lo ≤ g1 ∧ g1 < hi := ⟨p1, q1.1⟩
  obtain ⟨g3, e3, p3, q3, _⟩ := own_addr h.o3 (by omega)
  have hg3 : lo ≤ g3 ∧ g3 < hi := ⟨p3, q3⟩
  simp only at e1 e3
  subst e1
  subst e3
  obtain ⟨tx, htx⟩ : ∃ t, t = D.l1.getD a ByteArray.empty := ⟨_, rfl⟩
  have H := Az.mk (Hd.start_own w (Nat.le_of_lt (Nat.lt_of_le_of_lt hg1.1 hg1.2)) hhi)
  have hc1 : w.cell? ⟨g1, a, none⟩ = some (.string tx) := by
    rw [(own_cell1 h ha1).1, htx]
    simp [rdOf]
  have hne : tx.toList.isEmpty = false := by
    rw [← htx] at hb
    have : tx.toList.length = tx.size := by simp [ByteArray.toList_eq]
    cases h2 : tx.toList with
    | nil => rw [h2] at this; simp at this; omega
    | cons _ _ => rfl
  have b0 := eq_true (show (0 : Int) ≤ (b : Int) by omega)
  have b1 := eq_true (show (b : Int) < (tx.size : Int) by rw [← htx] at hb; omega)
  have HBT : Az (b < (bytesOf tx).length) := ⟨by rw [← htx] at hb; simpa [bytesOf] using hb⟩
  have a0 := eq_true (show (0 : Int) ≤ (a : Int) by omega)
  have a1 := eq_true (show (a : Int) < (D.l1.length : Int) by omega)
  have hc3 : w.cell? ⟨g3, a, none⟩ = some (.bool false) := by
    have e : rdOf false D.l3 (a : Int) = false := by simpa [rdOf] using hsp
    rw [(own_cell3 h ha3).1, e]
  have F1 := Az.mk (own_cell1 h ha1).2
  have HA3 := Az.mk ha3
  have HC1 := Az.mk hc1
  have HC3 := Az.mk hc3
  have a3 := eq_true (show (a : Int) < (D.l3.length : Int) by omega)
  have G1 := Az.mk hg1
  have G3 := Az.mk hg3
  have HBY := Az.mk hby
  have HO := Az.mk h
  have HTX := Az.mk htx
  clear h hl hl3 hb hs htx hc1 hc3 hg1 hg3 p1 q1 p3 q3 hby hhi ha1 ha3 hsp
  go_enter Try.func87, Try.ntmps87
  go_wp2_with (first | ((with_reducible refine zqg (N := 4) rfl ?_); refine H.out.bx rfl (cD ⟨some ⟨g1, 0, none⟩, c1, A2, c2, some ⟨g3, 0, none⟩, c3, A4, c4⟩ D) 28 ?hr ?_; (case hr => first | (go_simp; done) | (go_simp; rfl)); intro g4 w4 H1; clear H; have H := H1; clear H1; (try simp only [Act.put, List.setIfInBounds_toArray, List.set_cons_zero, List.set_cons_succ])) | ((with_reducible refine zqg (N := 8) rfl ?_); refine H.out.bx rfl (#[.int .i64 0, .slice none 0 0, .slice none 0 0, .slice none 0 0, .slice none 0 0]) 28 ?hr ?_; (case hr => first | (go_simp; done) | (go_simp; rfl)); intro g8 w8 H1; clear H; have H := H1; clear H1; (try simp only [Act.put, List.setIfInBounds_toArray, List.set_cons_zero, List.set_cons_succ])) | ((with_reducible refine zqg (N := 11) rfl ?_); refine H.out.ld_cell 1 rfl 1 (v := .slice (some ⟨g1, 0, none⟩) D.l1.length c1) rfl rfl rfl rfl Try.underlying24 rfl ?_; (try simp only [Act.put, List.setIfInBounds_toArray, List.set_cons_zero, List.set_cons_succ])) | ((with_reducible refine zqg (N := 14) rfl ?_); refine ld_c (H.out.cell 2 rfl G1.out HC1.out) rfl rfl rfl Try.underlying9 rfl ?_; (try simp only [Act.put, List.setIfInBounds_toArray, List.set_cons_zero, List.set_cons_succ])) | ((with_reducible refine zqg (N := 18) rfl ?_); refine gate_guard (by rfl) ?_; dsimp only; refine H.out.ld_cell 1 rfl 3 (v := .slice (some ⟨g3, 0, none⟩) D.l3.length c3) rfl rfl rfl rfl Try.underlying25 rfl ?_; (try simp only [Act.put, List.setIfInBounds_toArray, List.set_cons_zero, List.set_cons_succ])) | ((with_reducible refine zqg (N := 21) rfl ?_); refine gate_guard (by rfl) ?_; dsimp only; refine ld_c (H.out.cell 2 rfl G3.out HC3.out) rfl rfl rfl Try.underlying4 rfl ?_; (try simp only [Act.put, List.setIfInBounds_toArray, List.set_cons_zero, List.set_cons_succ])) | ((with_reducible refine zqg (N := 25) rfl ?_); refine H.out.ld_cell 1 rfl 1 (v := .slice (some ⟨g1, 0, none⟩) D.l1.length c1) rfl rfl rfl rfl Try.underlying24 rfl ?_; (try simp only [Act.put, List.setIfInBounds_toArray, List.set_cons_zero, List.set_cons_succ])) | ((with_reducible refine zqg (N := 28) rfl ?_); refine ld_c (H.out.cell 2 rfl G1.out HC1.out) rfl rfl rfl Try.underlying9 rfl ?_; (try simp only [Act.put, List.setIfInBounds_toArray, List.set_cons_zero, List.set_cons_succ])) | ((with_reducible refine zqg (N := 29) rfl ?_); refine H.out.conv_sb rfl Try.underlying9 Try.underlying22 Try.underlying5 rfl rfl ?_; intro g29 c29 w29 H1 B29; clear H; have H := H1; clear H1; (try simp only [Act.put, List.setIfInBounds_toArray, List.set_cons_zero, List.set_cons_succ])) | ((with_reducible refine zqg (N := 35) rfl ?_); refine ld_c ((B29.out b HBT.out).1) rfl rfl rfl Try.underlying5 rfl ?_; (try simp only [Act.put, List.setIfInBounds_toArray, List.set_cons_zero, List.set_cons_succ])) | ((with_reducible refine gate_store (t := 5) (p := 39) rfl ?_); refine st_c (R := fun w1 => Az (Hd lo w w1 [.same g29 (g29 + 1) w1, .box g8 (#[.int .i64 0, .slice none 0 0, .slice none 0 0, .slice none 0 0, .slice none 0 0]) 28, .box g4 (cD ⟨some ⟨g1, 0, none⟩, c1, A2, c2, some ⟨g3, 0, none⟩, c3, A4, c4⟩ D) 28, .same lo hi w, .same hi w.heap.size w]) ∧ Az (BytesAt w1 g29 ((bytesOf tx).set b (bits .xor .u8 ((bytesOf tx)[b]?.getD 0) (by_ % 256))))) sizeS5 (B29.out b HBT.out).1 (B29.out b HBT.out).2 rfl rfl rfl rfl rfl rfl ⟨⟨H.out.set_same 0 rfl ⟨Nat.le_refl _, Nat.lt_succ_self _⟩ _⟩, ⟨B29.out.put HBT.out⟩⟩ ?_; intro ws4 H1; clear H; have H := H1.1; have B39 := H1.2; clear H1; (try simp only [Act.put, List.setIfInBounds_toArray, List.set_cons_zero, List.set_cons_succ])) | ((with_reducible refine zqg (N := 41) rfl ?_); refine H.out.ld_cell 2 rfl 1 (v := .slice (some ⟨g1, 0, none⟩) D.l1.length c1) rfl rfl rfl rfl Try.underlying24 rfl ?_; (try simp only [Act.put, List.setIfInBounds_toArray, List.set_cons_zero, List.set_cons_succ])) | ((with_reducible refine zqg (N := 44) rfl ?_); refine conv_bs rfl Try.underlying9 Try.underlying22 Try.underlying5 rfl rfl (by rw [List.length_set]; simp [bytesOf]) B39.out ?_; (try simp only [Act.put, List.setIfInBounds_toArray, List.set_cons_zero, List.set_cons_succ])) | ((with_reducible refine gate_store (t := 9) (p := 45) rfl ?_); refine st_c (R := fun w1 => Az (Hd lo w w1 [.same g29 (g29 + 1) ws4, .box g8 (#[.int .i64 0, .slice none 0 0, .slice none 0 0, .slice none 0 0, .slice none 0 0]) 28, .box g4 (cD ⟨some ⟨g1, 0, none⟩, c1, A2, c2, some ⟨g3, 0, none⟩, c3, A4, c4⟩ D) 28, .same lo hi w1, .same hi w.heap.size w]) ∧ Az (Own w1 lo hi ⟨some ⟨g1, 0, none⟩, c1, A2, c2, some ⟨g3, 0, none⟩, c3, A4, c4⟩ { D with l1 := D.l1.set a (strOfNums ((bytesOf tx).set b (bits .xor .u8 ((bytesOf tx)[b]?.getD 0) (by_ % 256)))) })) sizeS9 (H.out.cell 3 rfl G1.out HC1.out) (H.out.frz 3 rfl G1.out F1.out) rfl rfl rfl rfl rfl rfl ⟨⟨H.out.set_same 3 rfl G1.out _⟩, ⟨(H.out.own 3 rfl HO.out).put1 a _⟩⟩ ?_; intro ws5 H1; clear H; have H := H1.1; have O45 := H1.2; clear H1; (try simp only [Act.put, List.setIfInBounds_toArray, List.set_cons_zero, List.set_cons_succ])) | ((with_reducible refine zqg (N := 47) rfl ?_); refine H.out.ld_cell 2 rfl 3 (v := .slice (some ⟨g3, 0, none⟩) D.l3.length c3) rfl rfl rfl rfl Try.underlying25 rfl ?_; (try simp only [Act.put, List.setIfInBounds_toArray, List.set_cons_zero, List.set_cons_succ])) | ((with_reducible refine gate_store (t := 4) (p := 49) rfl ?_); have hc3 := own_cell3 O45.out HA3.out; refine st_c (R := fun w1 => Az (Hd lo w w1 [.same g29 (g29 + 1) ws4, .box g8 (#[.int .i64 0, .slice none 0 0, .slice none 0 0, .slice none 0 0, .slice none 0 0]) 28, .box g4 (cD ⟨some ⟨g1, 0, none⟩, c1, A2, c2, some ⟨g3, 0, none⟩, c3, A4, c4⟩ D) 28, .same lo hi w1, .same hi w.heap.size w]) ∧ Az (Own w1 lo hi ⟨some ⟨g1, 0, none⟩, c1, A2, c2, some ⟨g3, 0, none⟩, c3, A4, c4⟩ { D with l1 := D.l1.set a (strOfNums ((bytesOf tx).set b (bits .xor .u8 ((bytesOf tx)[b]?.getD 0) (by_ % 256)))), l3 := D.l3.set a true })) sizeS4 hc3.1 hc3.2 rfl rfl rfl rfl rfl rfl ⟨⟨H.out.set_same 3 rfl G3.out _⟩, ⟨O45.out.put3 a _⟩⟩ ?_; clear hc3; intro ws6 H1; clear H; have H := H1.1; have O49 := H1.2; clear H1; (try simp only [Act.put, List.setIfInBounds_toArray, List.set_cons_zero, List.set_cons_succ])) | ((with_reducible refine zqg (N := 50) rfl ?_); refine H.out.ld_row 2 rfl rfl rfl rfl Try.underlying28 rfl hs28 ?_; (try simp only [Act.put, List.setIfInBounds_toArray, List.set_cons_zero, List.set_cons_succ])) | ((with_reducible refine gate_store (t := 28) (p := 8) rfl ?_); refine H.out.st_row 1 rfl rfl (x := .tmp 8) (y := .tmp 50) rfl rfl rfl (cD ⟨some ⟨g1, 0, none⟩, c1, A2, c2, some ⟨g3, 0, none⟩, c3, A4, c4⟩ D) rfl hs28 rfl (cD_one1 _ _) ?_; intro ws7 H1; clear H; have H := H1; clear H1))
  have e := HTX.out
  subst e
  exact bodyPost_ret (results_cell_row rfl _ _ g8 28 _ (0, 0) _ rfl (H.out.box 1 rfl) Try.underlying28 rfl (by kernel_rfl)) rfl ⟨rfl, H.out.own 3 rfl O49.out, H.out.bel, H.out.kept 4 rfl⟩
set_option maxHeartbeats 8000000 in
set_option maxRecDepth 100000 in
theorem spoil_same {w : World} {lo hi : Nat} {M : Mm} {D : Dd} {a : Nat} {b by_ : Int} (h : Own w lo hi M D) (hhi : hi ≤ w.heap.size) (ha1 : a < D.l1.length) (ha3 : a < D.l3.length) (hl : D.l1.length ≤ 1048576) (hl3 : D.l3.length ≤ 1048576) (hz : (D.l1.getD a ByteArray.empty).toList.isEmpty = true ∨ ((D.l1.getD a ByteArray.empty).toList.isEmpty = false ∧ D.l3.getD a false = true)) :
    Calls Try.prog 87 #[.agg (cD M D), .int .i64 (a : Int), .int .i64 b, .int .i64 by_] w fun e w' => e = .returned (.agg (cD M D)) ∧ Own w' lo hi M D ∧ Below lo w w' ∧ ∀ k, k < w.heap.size → (k < lo ∨ hi ≤ k) → w'.heap[k]? = w.heap[k]? := by
  have hs28 := sizeL28
  obtain ⟨A1, c1, A2, c2, A3, c3, A4, c4⟩ := M
  obtain ⟨g1, e1, p1, q1, _⟩ := own_addr h.o1 (by omega)
  have hg1 : lo ≤ g1 ∧ g1 < hi := ⟨p1, q1.1⟩
  obtain ⟨g3, e3, p3, q3, _⟩ := own_addr h.o3 (by omega)
  have hg3 : lo ≤ g3 ∧ g3 < hi := ⟨p3, q3⟩
  simp only at e1 e3
  subst e1
  subst e3
  obtain ⟨tx, htx⟩ : ∃ t, t = D.l1.getD a ByteArray.empty := ⟨_, rfl⟩
  have H := Az.mk (Hd.start_own w (Nat.le_of_lt (Nat.lt_of_le_of_lt hg1.1 hg1.2)) hhi)
  have hc1 : w.cell? ⟨g1, a, none⟩ = some (.string tx) := by
    rw [(own_cell1 h ha1).1, htx]
    simp [rdOf]
  rw [← htx] at hz
  have a0 := eq_true (show (0 : Int) ≤ (a : Int) by omega)
  have a1 := eq_true (show (a : Int) < (D.l1.length : Int) by omega)
  have a3 := eq_true (show (a : Int) < (D.l3.length : Int) by omega)
  have HC1 := Az.mk hc1
  have HA3 := Az.mk ha3
  have G1 := Az.mk hg1
  have G3 := Az.mk hg3
  have HO := Az.mk h
  rcases hz with hne | ⟨hne, hsp⟩
  · clear h hl hl3 htx hc1 hg1 hg3 p1 q1 p3 q3 hhi ha1 ha3
    go_enter Try.func87, Try.ntmps87
    go_wp2_with (first | ((with_reducible refine zqg (N := 4) rfl ?_); refine H.out.bx rfl (cD ⟨some ⟨g1, 0, none⟩, c1, A2, c2, some ⟨g3, 0, none⟩, c3, A4, c4⟩ D) 28 ?hr ?_; (case hr => first | (go_simp; done) | (go_simp; rfl)); intro g4 w4 H1; clear H; have H := H1; clear H1; (try simp only [Act.put, List.setIfInBounds_toArray, List.set_cons_zero, List.set_cons_succ])) | ((with_reducible refine zqg (N := 8) rfl ?_); refine H.out.bx rfl (#[.int .i64 0, .slice none 0 0, .slice none 0 0, .slice none 0 0, .slice none 0 0]) 28 ?hr ?_; (case hr => first | (go_simp; done) | (go_simp; rfl)); intro g8 w8 H1; clear H; have H := H1; clear H1; (try simp only [Act.put, List.setIfInBounds_toArray, List.set_cons_zero, List.set_cons_succ])) | ((with_reducible refine zqg (N := 11) rfl ?_); refine H.out.ld_cell 1 rfl 1 (v := .slice (some ⟨g1, 0, none⟩) D.l1.length c1) rfl rfl rfl rfl Try.underlying24 rfl ?_; (try simp only [Act.put, List.setIfInBounds_toArray, List.set_cons_zero, List.set_cons_succ])) | ((with_reducible refine zqg (N := 14) rfl ?_); refine ld_c (H.out.cell 2 rfl G1.out HC1.out) rfl rfl rfl Try.underlying9 rfl ?_; (try simp only [Act.put, List.setIfInBounds_toArray, List.set_cons_zero, List.set_cons_succ])) | ((with_reducible refine zqg (N := 18) rfl ?_); refine gate_guard (by rfl) ?_; dsimp only; refine H.out.ld_cell 1 rfl 3 (v := .slice (some ⟨g3, 0, none⟩) D.l3.length c3) rfl rfl rfl rfl Try.underlying25 rfl ?_; (try simp only [Act.put, List.setIfInBounds_toArray, List.set_cons_zero, List.set_cons_succ])) | ((with_reducible refine zqg (N := 21) rfl ?_); refine gate_guard (by rfl) ?_; dsimp only; refine ld_c (H.out.cell 2 rfl G3.out HC3.out) rfl rfl rfl Try.underlying4 rfl ?_; (try simp only [Act.put, List.setIfInBounds_toArray, List.set_cons_zero, List.set_cons_succ])) | ((with_reducible refine zqg (N := 23) rfl ?_); refine H.out.ld_row 1 rfl rfl rfl rfl Try.underlying28 rfl hs28 ?_; (try simp only [Act.put, List.setIfInBounds_toArray, List.set_cons_zero, List.set_cons_succ])) | ((with_reducible refine gate_store (t := 28) (p := 8) rfl ?_); refine H.out.st_row 0 rfl rfl (x := .tmp 8) (y := .tmp 23) rfl rfl rfl (cD ⟨some ⟨g1, 0, none⟩, c1, A2, c2, some ⟨g3, 0, none⟩, c3, A4, c4⟩ D) rfl hs28 rfl (cD_one1 _ _) ?_; intro ws7 H1; clear H; have H := H1; clear H1))
    exact bodyPost_ret (results_cell_row rfl _ _ g8 28 _ (0, 0) _ rfl (H.out.box 0 rfl) Try.underlying28 rfl (by kernel_rfl)) rfl ⟨rfl, H.out.own 2 rfl HO.out, H.out.bel, H.out.kept 3 rfl⟩
  · have hc3 : w.cell? ⟨g3, a, none⟩ = some (.bool true) := by
      have e : rdOf false D.l3 (a : Int) = true := by simpa [rdOf] using hsp
      rw [(own_cell3 h ha3).1, e]
    have HC3 := Az.mk hc3
    clear h hl hl3 htx hc1 hc3 hg1 hg3 p1 q1 p3 q3 hhi ha1 ha3 hsp
    go_enter Try.func87, Try.ntmps87
    go_wp2_with (first | ((with_reducible refine zqg (N := 4) rfl ?_); refine H.out.bx rfl (cD ⟨some ⟨g1, 0, none⟩, c1, A2, c2, some ⟨g3, 0, none⟩, c3, A4, c4⟩ D) 28 ?hr ?_; (case hr => first | (go_simp; done) | (go_simp; rfl)); intro g4 w4 H1; clear H; have H := H1; clear H1; (try simp only [Act.put, List.setIfInBounds_toArray, List.set_cons_zero, List.set_cons_succ])) | ((with_reducible refine zqg (N := 8) rfl ?_); refine H.out.bx rfl (#[.int .i64 0, .slice none 0 0, .slice none 0 0, .slice none 0 0, .slice none 0 0]) 28 ?hr ?_; (case hr => first | (go_simp; done) | (go_simp; rfl)); intro g8 w8 H1; clear H; have H := H1; clear H1; (try simp only [Act.put, List.setIfInBounds_toArray, List.set_cons_zero, List.set_cons_succ])) | ((with_reducible refine zqg (N := 11) rfl ?_); refine H.out.ld_cell 1 rfl 1 (v := .slice (some ⟨g1, 0, none⟩) D.l1.length c1) rfl rfl rfl rfl Try.underlying24 rfl ?_; (try simp only [Act.put, List.setIfInBounds_toArray, List.set_cons_zero, List.set_cons_succ])) | ((with_reducible refine zqg (N := 14) rfl ?_); refine ld_c (H.out.cell 2 rfl G1.out HC1.out) rfl rfl rfl Try.underlying9 rfl ?_; (try simp only [Act.put, List.setIfInBounds_toArray, List.set_cons_zero, List.set_cons_succ])) | ((with_reducible refine zqg (N := 18) rfl ?_); refine gate_guard (by rfl) ?_; dsimp only; refine H.out.ld_cell 1 rfl 3 (v := .slice (some ⟨g3, 0, none⟩) D.l3.length c3) rfl rfl rfl rfl Try.underlying25 rfl ?_; (try simp only [Act.put, List.setIfInBounds_toArray, List.set_cons_zero, List.set_cons_succ])) | ((with_reducible refine zqg (N := 21) rfl ?_); refine gate_guard (by rfl) ?_; dsimp only; refine ld_c (H.out.cell 2 rfl G3.out HC3.out) rfl rfl rfl Try.underlying4 rfl ?_; (try simp only [Act.put, List.setIfInBounds_toArray, List.set_cons_zero, List.set_cons_succ])) | ((with_reducible refine zqg (N := 23) rfl ?_); refine H.out.ld_row 1 rfl rfl rfl rfl Try.underlying28 rfl hs28 ?_; (try simp only [Act.put, List.setIfInBounds_toArray, List.set_cons_zero, List.set_cons_succ])) | ((with_reducible refine gate_store (t := 28) (p := 8) rfl ?_); refine H.out.st_row 0 rfl rfl (x := .tmp 8) (y := .tmp 23) rfl rfl rfl (cD ⟨some ⟨g1, 0, none⟩, c1, A2, c2, some ⟨g3, 0, none⟩, c3, A4, c4⟩ D) rfl hs28 rfl (cD_one1 _ _) ?_; intro ws7 H1; clear H; have H := H1; clear H1))
    exact bodyPost_ret (results_cell_row rfl _ _ g8 28 _ (0, 0) _ rfl (H.out.box 0 rfl) Try.underlying28 rfl (by kernel_rfl)) rfl ⟨rfl, H.out.own 2 rfl HO.out, H.out.bel, H.out.kept 3 rfl⟩
end Go.Proofs.Ytkgpnloghmbmlaa.Hd
namespace Go.Proofs.Ytkgpnloghmbmlaa.Print
open Go.RowKit Go.Proofs.YtkgpnloghmbmlaaW.PrintWords Go.Proofs.YtkgpnloghmbmlaaW.PrintLast Go.Proofs.YtkgpnloghmbmlaaW.PrintMore Go.Proofs.Ytkgpnloghmbmlaa.Drv
set_option linter.unusedVariables false
set_option linter.unusedSimpArgs false
def comeSp (p : S54) (sp : List Bool) : List Bool := if p.f0 = true then sp else sp.set p.f1.toNat false
def comeSl (p : S54) (sl : List ByteArray) : List ByteArray := if p.f0 = true then sl else sl.set p.f1.toNat p.f2
def comeRg (p : S54) (rg : List ByteArray) : List ByteArray := if p.f0 = true then rg.set p.f1.toNat p.f2 else rg
set_option maxHeartbeats 4000000 in
set_option maxRecDepth 100000 in
theorem come_ring (g : Nat) (st : Int) (sp : List Bool) (sl rg : List ByteArray) (ns : List (Nat × Pt)) (n : Nat) (tx : ByteArray) (w : World) (hD : Drv w g st sp sl rg ns) (hn : n < 2) :
    Calls Try.prog 100 #[.pointer (some ⟨g, 0, none⟩), .agg #[.bool true, .int .i64 (n : Int), .string tx]] w fun e w' => e = .returned (.tuple #[]) ∧ Drv w' g st sp sl (rg.set n tx) ns ∧ Below g w w' ∧ KeepBut w w' g none := by
  have hu80 := Try.underlying80
  have hu54 := Try.underlying54
  have hu77 := Try.underlying77
  have HGS := Az.mk (blk_lt hD.blk)
  have HGL := Az.mk (Nat.le_of_lt (blk_lt hD.blk))
  have HD := Az.mk hD
  have HN := Az.mk hn
  have HA0 := Az.mk (eq_true (show (0 : Int) ≤ (n : Int) by omega))
  have HA1 := Az.mk (eq_true (show (n : Int) < 2 by omega))
  clear hD hn
  have HK0 := Az.mk (KeepBut.refl w g none)
  have HB := Az.mk (Below.refl g w)
  go_enter Try.func100, Try.ntmps100
  go_wp2_with (first | ((with_reducible refine zqg (N := 3) rfl ?_); refine zqb ?hg (N := 3) ?hd (cs := #[.bool true, .int .i64 (n : Int), .string tx]) (t := 54) ?hr ?_; (case hd => rfl); (case hg => rfl); (case hr => first | (go_simp; done) | (go_simp; rfl)); intro gp hg w1 hbox hb; have n0_ := Az.mk (hb.mono HGL.out); have n1_ := Az.mk hbox; have n2_ := Az.mk (Drv.below (g := g) (st := st) (sp := sp) (sl := sl) (rg := rg) (ns := ns) (by (with_reducible repeat (first | refine drv_drewN ?_ _ | refine drv_drew ?_)); exact HD.out) hb); have HNE : Az (g < gp) := ⟨by rw [hg]; exact HGS.out⟩; have HK := Az.mk (KeepBut.trans HK0.out (KeepBut.of_below hb g none) (.inl rfl)); clear HB HD HK0; have HB := n0_; have BK := n1_; have HD := n2_; clear n0_ n1_ n2_ hb hbox hg; have hcz_0 : w1.cell? ⟨gp, 0, none⟩ = some (.bool true) := (zq4 BK.out 0).trans rfl; have hcz_1 : w1.cell? ⟨gp, 1, none⟩ = some (.int .i64 (n : Int)) := (zq4 BK.out 1).trans rfl; have hcz_2 : w1.cell? ⟨gp, 2, none⟩ = some (.string tx) := (zq4 BK.out 2).trans rfl))
  have nb_ := Az.mk (zqd HB.out)
  have nd_ := Az.mk (drv_drew HD.out)
  have nk_ := Az.mk (zq8 BK.out)
  have nj_ := Az.mk (keep_drew HK.out)
  clear HB HD BK HK
  have HK := nj_
  clear nj_
  have HB := nb_
  have HD := nd_
  have BK := nk_
  clear nb_ nd_ nk_
  refine start_ (n := 9) (S := fun w' => w'.cell? ⟨gp, 1, none⟩ = some (.int .i64 (n : Int)) ∧ w'.cell? ⟨gp, 2, none⟩ = some (.string tx)) (ds := [8]) #[false, false, false, false, false, false, false, false, false] (by kernel_rfl) rfl rfl ⟨(zq4 BK.out 1).trans rfl, (zq4 BK.out 2).trans rfl⟩ (fun hHeld => ?_)
  generalize w1.drew = w2 at HB HD BK HK hHeld ⊢
  refine zqp (i := 0) (N := (some 6)) (v := ?_) (a' := ?_) #[true, false, false, false, false, false, false, false, false] rfl rfl (by kernel_rfl) (fun _ _ _ h => h) (Or.inl ⟨by rfl, ?_⟩) ?_ ?_
  rotate_left
  · intro w'
    go_simp
    with_reducible rfl
  rotate_left
  · simp only [Act.put, List.setIfInBounds_toArray, List.set_cons_zero, List.set_cons_succ]
    rfl
  refine zqp (i := 1) (N := (some 7)) (v := ?_) (a' := ?_) #[true, true, false, false, false, false, false, false, false] rfl rfl (by kernel_rfl) (fun _ _ _ h => h) (Or.inl ⟨by rfl, ?_⟩) ?_ ?_
  rotate_left
  · intro w'
    go_simp
    with_reducible rfl
  rotate_left
  · simp only [Act.put, List.setIfInBounds_toArray, List.set_cons_zero, List.set_cons_succ]
    rfl
  refine zqt (i := 2) (N := (some 8)) (v := ?_) (a' := ?_) #[true, true, true, false, false, false, false, false, false] rfl rfl (by kernel_rfl) (fun _ _ _ h => h) (Or.inl ⟨by rfl, ?_⟩) hHeld ?_ ?_
  rotate_left
  · intro w' hS_
    obtain ⟨s1_, s2_⟩ := hS_
    go_simp
    with_reducible rfl
  rotate_left
  · simp only [Act.put, List.setIfInBounds_toArray, List.set_cons_zero, List.set_cons_succ]
    rfl
  refine zqp (i := 3) (N := (some 9)) (v := ?_) (a' := ?_) #[true, true, true, true, false, false, false, false, false] rfl rfl (by kernel_rfl) (fun _ _ _ h => h) (Or.inl ⟨by rfl, ?_⟩) ?_ ?_
  rotate_left
  · intro w'
    go_simp
    with_reducible rfl
  rotate_left
  · simp only [Act.put, List.setIfInBounds_toArray, List.set_cons_zero, List.set_cons_succ]
    rfl
  refine zqt (i := 4) (N := (some 10)) (v := ?_) (a' := ?_) #[true, true, true, true, true, false, false, false, false] rfl rfl (by kernel_rfl) (fun _ _ _ h => h) (Or.inl ⟨by rfl, ?_⟩) hHeld ?_ ?_
  rotate_left
  · intro w' hS_
    obtain ⟨s1_, s2_⟩ := hS_
    go_simp
    with_reducible rfl
  rotate_left
  · simp only [Act.put, List.setIfInBounds_toArray, List.set_cons_zero, List.set_cons_succ]
    rfl
  refine zqp (i := 5) (N := (some 11)) (v := ?_) (a' := ?_) #[true, true, true, true, true, true, false, false, false] rfl rfl (by kernel_rfl) (fun _ _ _ h => h) (Or.inl ⟨by rfl, ?_⟩) ?_ ?_
  rotate_left
  · intro w'
    go_simp
    with_reducible rfl
  rotate_left
  · simp only [Act.put, List.setIfInBounds_toArray, List.set_cons_zero, List.set_cons_succ]
    rfl
  refine zqp (i := 6) (N := (some 12)) (v := ?_) (a' := ?_) #[true, true, true, true, true, true, true, false, false] rfl rfl (by kernel_rfl) (fun _ _ _ h => h) (Or.inl ⟨by rfl, ?_⟩) ?_ ?_
  rotate_left
  · intro w'
    go_simp
    with_reducible rfl
  rotate_left
  · simp only [Act.put, List.setIfInBounds_toArray, List.set_cons_zero, List.set_cons_succ]
    rfl
  refine zqp (i := 7) (N := (some 13)) (v := ?_) (a' := ?_) #[true, true, true, true, true, true, true, true, false] rfl rfl (by kernel_rfl) (fun _ _ _ h => h) (Or.inl ⟨by rfl, ?_⟩) ?_ ?_
  rotate_left
  · intro w'
    have ha0_ := HA0.out
    have ha1_ := HA1.out
    go_simp
    first | with_reducible rfl | rfl
  rotate_left
  · simp only [Act.put, List.setIfInBounds_toArray, List.set_cons_zero, List.set_cons_succ]
    rfl
  refine last_ (i := 8) (N := none) #[true, true, true, true, true, true, true, true, true] rfl rfl (by kernel_rfl) (by decide) (fun K hK => ?_)
  have hc_ : w2.cell? ⟨g, 25 + n, none⟩ = some (.string (rg.getD n ByteArray.empty)) := (zq4 HD.out.blk (25 + n)).trans (dc_rg HD.out.lsp HD.out.lsl HD.out.lrg HN.out)
  have hf_ : w2.frozen? ⟨g, 25 + n, none⟩ = false := zq5 HD.out.blk (25 + n)
  refine skip_ (w1 := w2.setCell ⟨g, 25 + n, none⟩ (.string tx)) (by rfl) rfl ?_ ?_
  · first | (go_simp; done) | (go_simp; rfl)
  refine hK.out _ _ ?_
  clear hK K
  refine done_ (by kernel_rfl) ?_
  go_wp2
  refine bodyPost_ret (results_none rfl _ _ _) rfl ?_
  exact ⟨rfl, HD.out.putRing HN.out tx, HB.out.setCell (p := ⟨g, 25 + n, none⟩) (Nat.le_refl _) _, KeepBut.set_ HK.out _ _⟩
set_option maxHeartbeats 4000000 in
set_option maxRecDepth 100000 in
theorem come_slot (g : Nat) (st : Int) (sp : List Bool) (sl rg : List ByteArray) (ns : List (Nat × Pt)) (n : Nat) (tx : ByteArray) (w : World) (hD : Drv w g st sp sl rg ns) (hn : n < 12) :
    Calls Try.prog 100 #[.pointer (some ⟨g, 0, none⟩), .agg #[.bool false, .int .i64 (n : Int), .string tx]] w fun e w' => e = .returned (.tuple #[]) ∧ Drv w' g st (sp.set n false) (sl.set n tx) rg ns ∧ Below g w w' ∧ KeepBut w w' g none := by
  have hu80 := Try.underlying80
  have hu75 := Try.underlying75
  have hu54 := Try.underlying54
  have hu76 := Try.underlying76
  have hu73 := Try.underlying73
  have HGS := Az.mk (blk_lt hD.blk)
  have HGL := Az.mk (Nat.le_of_lt (blk_lt hD.blk))
  have HD := Az.mk hD
  have HN := Az.mk hn
  have HA0 := Az.mk (eq_true (show (0 : Int) ≤ (n : Int) by omega))
  have HA1 := Az.mk (eq_true (show (n : Int) < 12 by omega))
  clear hD hn
  have HK0 := Az.mk (KeepBut.refl w g none)
  have HB := Az.mk (Below.refl g w)
  go_enter Try.func100, Try.ntmps100
  go_wp2_with (first | ((with_reducible refine zqg (N := 3) rfl ?_); refine zqb ?hg (N := 3) ?hd (cs := #[.bool false, .int .i64 (n : Int), .string tx]) (t := 54) ?hr ?_; (case hd => rfl); (case hg => rfl); (case hr => first | (go_simp; done) | (go_simp; rfl)); intro gp hg w1 hbox hb; have n0_ := Az.mk (hb.mono HGL.out); have n1_ := Az.mk hbox; have n2_ := Az.mk (Drv.below (g := g) (st := st) (sp := sp) (sl := sl) (rg := rg) (ns := ns) (by (with_reducible repeat (first | refine drv_drewN ?_ _ | refine drv_drew ?_)); exact HD.out) hb); have HNE : Az (g < gp) := ⟨by rw [hg]; exact HGS.out⟩; have HK := Az.mk (KeepBut.trans HK0.out (KeepBut.of_below hb g none) (.inl rfl)); clear HB HD HK0; have HB := n0_; have BK := n1_; have HD := n2_; clear n0_ n1_ n2_ hb hbox hg; have hcz_0 : w1.cell? ⟨gp, 0, none⟩ = some (.bool false) := (zq4 BK.out 0).trans rfl; have hcz_1 : w1.cell? ⟨gp, 1, none⟩ = some (.int .i64 (n : Int)) := (zq4 BK.out 1).trans rfl; have hcz_2 : w1.cell? ⟨gp, 2, none⟩ = some (.string tx) := (zq4 BK.out 2).trans rfl))
  have nb_ := Az.mk (zqd HB.out)
  have nd_ := Az.mk (drv_drew HD.out)
  have nk_ := Az.mk (zq8 BK.out)
  have nj_ := Az.mk (keep_drew HK.out)
  clear HB HD BK HK
  have HK := nj_
  clear nj_
  have HB := nb_
  have HD := nd_
  have BK := nk_
  clear nb_ nd_ nk_
  refine start_ (n := 17) (S := fun w' => w'.cell? ⟨gp, 1, none⟩ = some (.int .i64 (n : Int)) ∧ w'.cell? ⟨gp, 2, none⟩ = some (.string tx)) (ds := [16]) #[false, false, false, false, false, false, false, false, false, false, false, false, false, false, false, false, false] (by kernel_rfl) rfl rfl ⟨(zq4 BK.out 1).trans rfl, (zq4 BK.out 2).trans rfl⟩ (fun hHeld => ?_)
  generalize w1.drew = w2 at HB HD BK HK hHeld ⊢
  refine zqp (i := 0) (N := (some 14)) (v := ?_) (a' := ?_) #[true, false, false, false, false, false, false, false, false, false, false, false, false, false, false, false, false] rfl rfl (by kernel_rfl) (fun _ _ _ h => h) (Or.inl ⟨by rfl, ?_⟩) ?_ ?_
  rotate_left
  · intro w'
    go_simp
    with_reducible rfl
  rotate_left
  · simp only [Act.put, List.setIfInBounds_toArray, List.set_cons_zero, List.set_cons_succ]
    rfl
  refine zqp (i := 1) (N := (some 15)) (v := ?_) (a' := ?_) #[true, true, false, false, false, false, false, false, false, false, false, false, false, false, false, false, false] rfl rfl (by kernel_rfl) (fun _ _ _ h => h) (Or.inl ⟨by rfl, ?_⟩) ?_ ?_
  rotate_left
  · intro w'
    go_simp
    with_reducible rfl
  rotate_left
  · simp only [Act.put, List.setIfInBounds_toArray, List.set_cons_zero, List.set_cons_succ]
    rfl
  refine zqt (i := 2) (N := (some 16)) (v := ?_) (a' := ?_) #[true, true, true, false, false, false, false, false, false, false, false, false, false, false, false, false, false] rfl rfl (by kernel_rfl) (fun _ _ _ h => h) (Or.inl ⟨by rfl, ?_⟩) hHeld ?_ ?_
  rotate_left
  · intro w' hS_
    obtain ⟨s1_, s2_⟩ := hS_
    go_simp
    with_reducible rfl
  rotate_left
  · simp only [Act.put, List.setIfInBounds_toArray, List.set_cons_zero, List.set_cons_succ]
    rfl
  refine zqp (i := 3) (N := (some 17)) (v := ?_) (a' := ?_) #[true, true, true, true, false, false, false, false, false, false, false, false, false, false, false, false, false] rfl rfl (by kernel_rfl) (fun _ _ _ h => h) (Or.inl ⟨by rfl, ?_⟩) ?_ ?_
  rotate_left
  · intro w'
    go_simp
    with_reducible rfl
  rotate_left
  · simp only [Act.put, List.setIfInBounds_toArray, List.set_cons_zero, List.set_cons_succ]
    rfl
  refine zqp (i := 4) (N := (some 18)) (v := ?_) (a' := ?_) #[true, true, true, true, true, false, false, false, false, false, false, false, false, false, false, false, false] rfl rfl (by kernel_rfl) (fun _ _ _ h => h) (Or.inl ⟨by rfl, ?_⟩) ?_ ?_
  rotate_left
  · intro w'
    go_simp
    with_reducible rfl
  rotate_left
  · simp only [Act.put, List.setIfInBounds_toArray, List.set_cons_zero, List.set_cons_succ]
    rfl
  refine zqt (i := 5) (N := (some 19)) (v := ?_) (a' := ?_) #[true, true, true, true, true, true, false, false, false, false, false, false, false, false, false, false, false] rfl rfl (by kernel_rfl) (fun _ _ _ h => h) (Or.inl ⟨by rfl, ?_⟩) hHeld ?_ ?_
  rotate_left
  · intro w' hS_
    obtain ⟨s1_, s2_⟩ := hS_
    go_simp
    with_reducible rfl
  rotate_left
  · simp only [Act.put, List.setIfInBounds_toArray, List.set_cons_zero, List.set_cons_succ]
    rfl
  refine zqp (i := 6) (N := (some 20)) (v := ?_) (a' := ?_) #[true, true, true, true, true, true, true, false, false, false, false, false, false, false, false, false, false] rfl rfl (by kernel_rfl) (fun _ _ _ h => h) (Or.inl ⟨by rfl, ?_⟩) ?_ ?_
  rotate_left
  · intro w'
    go_simp
    with_reducible rfl
  rotate_left
  · simp only [Act.put, List.setIfInBounds_toArray, List.set_cons_zero, List.set_cons_succ]
    rfl
  refine zqt (i := 7) (N := (some 21)) (v := ?_) (a' := ?_) #[true, true, true, true, true, true, true, true, false, false, false, false, false, false, false, false, false] rfl rfl (by kernel_rfl) (fun _ _ _ h => h) (Or.inl ⟨by rfl, ?_⟩) hHeld ?_ ?_
  rotate_left
  · intro w' hS_
    obtain ⟨s1_, s2_⟩ := hS_
    go_simp
    with_reducible rfl
  rotate_left
  · simp only [Act.put, List.setIfInBounds_toArray, List.set_cons_zero, List.set_cons_succ]
    rfl
  refine zqp (i := 8) (N := (some 22)) (v := ?_) (a' := ?_) #[true, true, true, true, true, true, true, true, true, false, false, false, false, false, false, false, false] rfl rfl (by kernel_rfl) (fun _ _ _ h => h) (Or.inl ⟨by rfl, ?_⟩) ?_ ?_
  rotate_left
  · intro w'
    go_simp
    with_reducible rfl
  rotate_left
  · simp only [Act.put, List.setIfInBounds_toArray, List.set_cons_zero, List.set_cons_succ]
    rfl
  refine zqp (i := 9) (N := (some 23)) (v := ?_) (a' := ?_) #[true, true, true, true, true, true, true, true, true, true, false, false, false, false, false, false, false] rfl rfl (by kernel_rfl) (fun _ _ _ h => h) (Or.inl ⟨by rfl, ?_⟩) ?_ ?_
  rotate_left
  · intro w'
    go_simp
    with_reducible rfl
  rotate_left
  · simp only [Act.put, List.setIfInBounds_toArray, List.set_cons_zero, List.set_cons_succ]
    rfl
  refine zqp (i := 10) (N := (some 24)) (v := ?_) (a' := ?_) #[true, true, true, true, true, true, true, true, true, true, true, false, false, false, false, false, false] rfl rfl (by kernel_rfl) (fun _ _ _ h => h) (Or.inl ⟨by rfl, ?_⟩) ?_ ?_
  rotate_left
  · intro w'
    have ha0_ := HA0.out
    have ha1_ := HA1.out
    go_simp
    first | with_reducible rfl | rfl
  rotate_left
  · simp only [Act.put, List.setIfInBounds_toArray, List.set_cons_zero, List.set_cons_succ]
    rfl
  refine zqp (i := 12) (N := (some 25)) (v := ?_) (a' := ?_) #[true, true, true, true, true, true, true, true, true, true, true, false, true, false, false, false, false] rfl rfl (by kernel_rfl) (fun _ _ _ h => h) (Or.inl ⟨by rfl, ?_⟩) ?_ ?_
  rotate_left
  · intro w'
    go_simp
    with_reducible rfl
  rotate_left
  · simp only [Act.put, List.setIfInBounds_toArray, List.set_cons_zero, List.set_cons_succ]
    rfl
  refine zqp (i := 13) (N := (some 26)) (v := ?_) (a' := ?_) #[true, true, true, true, true, true, true, true, true, true, true, false, true, true, false, false, false] rfl rfl (by kernel_rfl) (fun _ _ _ h => h) (Or.inl ⟨by rfl, ?_⟩) ?_ ?_
  rotate_left
  · intro w'
    go_simp
    with_reducible rfl
  rotate_left
  · simp only [Act.put, List.setIfInBounds_toArray, List.set_cons_zero, List.set_cons_succ]
    rfl
  refine zqp (i := 14) (N := (some 27)) (v := ?_) (a' := ?_) #[true, true, true, true, true, true, true, true, true, true, true, false, true, true, true, false, false] rfl rfl (by kernel_rfl) (fun _ _ _ h => h) (Or.inl ⟨by rfl, ?_⟩) ?_ ?_
  rotate_left
  · intro w'
    go_simp
    with_reducible rfl
  rotate_left
  · simp only [Act.put, List.setIfInBounds_toArray, List.set_cons_zero, List.set_cons_succ]
    rfl
  refine one_ (i := 11) (N := none) #[true, true, true, true, true, true, true, true, true, true, true, true, true, true, true, false, false] rfl rfl (by kernel_rfl) (by decide) (fun K hK => ?_)
  have hc_ : w2.cell? ⟨g, 13 + n, none⟩ = some (.string (sl.getD n ByteArray.empty)) := (zq4 HD.out.blk (13 + n)).trans (dc_sl HD.out.lsp HD.out.lsl HN.out)
  have hf_ : w2.frozen? ⟨g, 13 + n, none⟩ = false := zq5 HD.out.blk (13 + n)
  refine skip_ (w1 := w2.setCell ⟨g, 13 + n, none⟩ (.string tx)) (by rfl) rfl ?_ ?_
  · first | (go_simp; done) | (go_simp; rfl)
  have nk_ : Az ((w2.setCell ⟨g, 13 + n, none⟩ (.string tx)).heap[gp]? = some (.cells #[.bool false, .int .i64 (n : Int), .string tx] 54 (0, 0))) := ⟨blk_far BK.out (by have := HNE.out; show gp ≠ g; omega) _⟩
  have nd_ := Az.mk (HD.out.putSlot HN.out tx)
  have nb_ := Az.mk (HB.out.setCell (p := ⟨g, 13 + n, none⟩) (Nat.le_refl _) (.string tx))
  have nj_ := Az.mk (KeepBut.set_ HK.out (13 + n) (.string tx))
  clear hc_ hf_ BK HD HB HK
  have HK := nj_
  clear nj_
  have BK := nk_
  have HD := nd_
  have HB := nb_
  clear nk_ nd_ nb_ hHeld
  refine hK.out _ _ ⟨(zq4 BK.out 1).trans rfl, (zq4 BK.out 2).trans rfl⟩ (fun hHeld => ?_)
  clear hK K
  generalize w2.setCell ⟨g, 13 + n, none⟩ (.string tx) = w3 at BK HD HB HK hHeld ⊢
  refine zqp (i := 15) (N := (some 28)) (v := ?_) (a' := ?_) #[true, true, true, true, true, true, true, true, true, true, true, true, true, true, true, true, false] rfl rfl (by kernel_rfl) (fun _ _ _ h => h) (Or.inl ⟨by rfl, ?_⟩) ?_ ?_
  rotate_left
  · intro w'
    have ha0_ := HA0.out
    have ha1_ := HA1.out
    go_simp
    first | with_reducible rfl | rfl
  rotate_left
  · simp only [Act.put, List.setIfInBounds_toArray, List.set_cons_zero, List.set_cons_succ]
    rfl
  refine last_ (i := 16) (N := none) #[true, true, true, true, true, true, true, true, true, true, true, true, true, true, true, true, true] rfl rfl (by kernel_rfl) (by decide) (fun K hK => ?_)
  have hc_ : w3.cell? ⟨g, 1 + n, none⟩ = some (.bool (sp.getD n false)) := (zq4 HD.out.blk (1 + n)).trans (dc_sp HD.out.lsp HN.out)
  have hf_ : w3.frozen? ⟨g, 1 + n, none⟩ = false := zq5 HD.out.blk (1 + n)
  refine skip_ (w1 := w3.setCell ⟨g, 1 + n, none⟩ (.bool false)) (by rfl) rfl ?_ ?_
  · first | (go_simp; done) | (go_simp; rfl)
  refine hK.out _ _ ?_
  clear hK K
  refine done_ (by kernel_rfl) ?_
  go_wp2
  go_end0
  exact ⟨rfl, HD.out.putSpoilt HN.out false, HB.out.setCell (p := ⟨g, 1 + n, none⟩) (Nat.le_refl _) _, KeepBut.set_ HK.out _ _⟩
theorem come_calls (g : Nat) (st : Int) (sp : List Bool) (sl rg : List ByteArray) (ns : List (Nat × Pt)) (p : S54) (w : World) (hD : Drv w g st sp sl rg ns) (hp : putB p = true) :
    Calls Try.prog 100 #[.pointer (some ⟨g, 0, none⟩), .agg #[.bool p.f0, .int .i64 p.f1, .string p.f2]] w fun e w' => e = .returned (.tuple #[]) ∧ Drv w' g st (comeSp p sp) (comeSl p sl) (comeRg p rg) ns ∧ Below g w w' ∧ KeepBut w w' g none := by
  obtain ⟨f0, f1, f2⟩ := p
  cases f0 with
  | true =>
    simp only [putB, if_true, decide_eq_true_iff] at hp
    obtain ⟨n, rfl⟩ : ∃ n : Nat, f1 = (n : Int) := ⟨f1.toNat, by omega⟩
    have := come_ring g st sp sl rg ns n f2 w hD (by omega)
    simpa [comeSp, comeSl, comeRg] using this
  | false =>
    simp only [putB, Bool.false_eq_true, if_false, decide_eq_true_iff] at hp
    obtain ⟨n, rfl⟩ : ∃ n : Nat, f1 = (n : Int) := ⟨f1.toNat, by omega⟩
    have := come_slot g st sp sl rg ns n f2 w hD (by omega)
    simpa [comeSp, comeSl, comeRg] using this
end Go.Proofs.Ytkgpnloghmbmlaa.Print
namespace Go.Proofs.Ytkgpnloghmbmlaa.Print
open Go.RowKit Go.Proofs.YtkgpnloghmbmlaaW.PrintWords Go.Proofs.YtkgpnloghmbmlaaW.PrintLast Go.Proofs.YtkgpnloghmbmlaaW.PrintMore Go.Proofs.Ytkgpnloghmbmlaa.Drv
set_option linter.unusedVariables false
set_option linter.unusedSimpArgs false
theorem drv_first {W : World} {g b : Nat} {p : S54} {st : Int} {sp : List Bool} {sl rg : List ByteArray} {rs : List (Nat × Pt)} (h : Drv W g st sp sl rg ((b, p) :: rs)) :
    W.cell? ⟨g, 27, none⟩ = some (.pointer (some ⟨b, 0, none⟩)) ∧ W.cell? ⟨b, 0, none⟩ = some (.bool p.f0) ∧ W.cell? ⟨b, 1, none⟩ = some (.int .i64 p.f1) ∧ W.cell? ⟨b, 2, none⟩ = some (.string p.f2) ∧ W.cell? ⟨b, 3, none⟩ = some (toN rs (.pointer none)) ∧ W.frozen? ⟨g, 27, none⟩ = false := by
  have hn : W.heap[b]? = some (.cells #[.bool p.f0, .int .i64 p.f1, .string p.f2, toN rs (.pointer none)] 112 (0, 0)) := h.seg.2.1
  exact ⟨(zq4 h.blk 27).trans (dc_fi h.lsp h.lsl h.lrg), (zq4 hn 0).trans rfl, (zq4 hn 1).trans rfl, (zq4 hn 2).trans rfl, (zq4 hn 3).trans rfl, zq5 h.blk 27⟩
def comeAll (ps : List S54) (x : List Bool × List ByteArray × List ByteArray) : List Bool × List ByteArray × List ByteArray := ps.foldl (fun x p => (comeSp p x.1, comeSl p x.2.1, comeRg p x.2.2)) x
set_option maxHeartbeats 4000000 in
set_option maxRecDepth 100000 in
theorem flush_calls (g : Nat) (st : Int) (sp : List Bool) (sl rg : List ByteArray) (ns : List (Nat × Pt)) (w : World) (hD : Drv w g st sp sl rg ns) (hp : ∀ x ∈ ns, putB x.2 = true) :
    Calls Try.prog 78 #[.pointer (some ⟨g, 0, none⟩)] w fun e w' => e = .returned (.tuple #[]) ∧ Drv w' g st (comeAll (ns.map (·.2)) (sp, sl, rg)).1 (comeAll (ns.map (·.2)) (sp, sl, rg)).2.1 (comeAll (ns.map (·.2)) (sp, sl, rg)).2.2 [] ∧ Below g w w' ∧ KeepBut w w' g none := by
  have hu80 := Try.underlying80
  have hu54 := Try.underlying54
  have hu112 := Try.underlying112
  have HD := Az.mk hD
  have HP := Az.mk hp
  clear hD hp
  have HB := Az.mk (Below.refl g w)
  go_enter Try.func78, Try.ntmps78
  go_wp2
  go_loopg [] ns.length (fun kq w' => ∃ (rs : List (Nat × Pt)) (sp1 : List Bool) (sl1 rg1 : List ByteArray), Az (comeAll (rs.map (·.2)) (sp1, sl1, rg1) = comeAll (ns.map (·.2)) (sp, sl, rg)) ∧ Az (rs.length = kq) ∧ Az (∀ x ∈ rs, putB x.2 = true) ∧ Az (Drv w' g st sp1 sl1 rg1 rs) ∧ Az (Below g w w') ∧ Az (KeepBut w w' g none))
  case atStart => exact ⟨ns, sp, sl, rg, ⟨rfl⟩, ⟨rfl⟩, ⟨HP.out⟩, ⟨HD.out⟩, ⟨HB.out⟩, ⟨KeepBut.refl w g none⟩⟩
  case round =>
    clear HD HB
    obtain ⟨rs, sp1, sl1, rg1, HE, HI, HQ, HD, HB, HK⟩ := hrel
    cases rs with
    | nil =>
      have hfi : wr.cell? ⟨g, 27, none⟩ = some (.pointer none) := (zq4 HD.out.blk 27).trans (dc_fi HD.out.lsp HD.out.lsl HD.out.lrg)
      go_wp2
      go_end0
      exact ⟨rfl, by rw [← HE.out]; exact (by (with_reducible repeat (first | refine drv_drewN ?_ _ | refine drv_drew ?_)); exact HD.out), (by repeat (first | (with_reducible first | exact HB.out | apply zq1 | apply zqd) | exact HB.out)), by (with_reducible repeat (first | apply keep_drewN | apply keep_drew)); exact HK.out⟩
    | cons x rs =>
      obtain ⟨b, p⟩ := x
      have hn := drv_first HD.out
      obtain ⟨q, hnx⟩ : ∃ q, toN rs (.pointer none) = .pointer q := by cases rs <;> exact ⟨_, rfl⟩
      have HNX := Az.mk hnx
      have hfi := hn.1
      have hc_0 := hn.2.1
      have hc_1 := hn.2.2.1
      have hc_2 := hn.2.2.2.1
      have HPB := Az.mk (HQ.out (b, p) (by simp))
      clear hn hnx
      go_wp2_with (first | (go_at_call 100; refine (come_calls g st sp1 sl1 rg1 ((b, p) :: rs) p _ (by (with_reducible repeat (first | refine drv_drewN ?_ _ | refine drv_drew ?_)); exact HD.out) HPB.out).mono ?_; rintro e w9 ⟨rfl, hd, hb, hk⟩; have nj_ := Az.mk (KeepBut.trans (by (with_reducible repeat (first | apply keep_drewN | apply keep_drew)); exact HK.out) hk (.inl rfl)); clear HK hk; have HK := nj_; clear nj_; have hn9 := drv_first hd; have nb_ := Az.mk (Below.trans (by repeat (first | (with_reducible first | exact HB.out | apply zq1 | apply zqd) | exact HB.out)) hb); have HD9 := Az.mk hd; clear HB HD; have HB := nb_; clear nb_ hd hb; have hfi9 : w9.cell? ⟨g, 27, none⟩ = some (.pointer (some ⟨b, 0, none⟩)) := hn9.1; have hff9 : w9.frozen? ⟨g, 27, none⟩ = false := hn9.2.2.2.2.2; have hnx9 : w9.cell? ⟨b, 3, none⟩ = some (.pointer q) := (HNX.out ▸ hn9.2.2.2.2.1); clear hn9))
      go_roundg (gk - 1)
      case measure => have := HI.out; simp only [List.length_cons] at this; omega
      case rel =>
        exact ⟨rs, comeSp p sp1, comeSl p sl1, comeRg p rg1, ⟨by rw [← HE.out]; rfl⟩, ⟨by have := HI.out; simp only [List.length_cons] at this; omega⟩, ⟨fun x hx => HQ.out x (List.mem_cons_of_mem _ hx)⟩,
          ⟨by (with_reducible repeat (first | refine drv_drewN ?_ _ | refine drv_drew ?_)); rw [← HNX.out]; exact Drv.drop HD9.out⟩, ⟨by repeat (first | exact HB.out | refine Below.setCell (p := ⟨g, 27, none⟩) ?_ (Nat.le_refl g) _ | apply zq1 | apply zqd)⟩, ⟨by (with_reducible repeat (first | apply keep_drewN | apply keep_drew)); exact KeepBut.set_ HK.out _ _⟩⟩
end Go.Proofs.Ytkgpnloghmbmlaa.Print
namespace Go.Proofs.Ytkgpnloghmbmlaa.Print
open Go.RowKit Go.Proofs.YtkgpnloghmbmlaaW.PrintWords Go.Proofs.YtkgpnloghmbmlaaW.PrintLast Go.Proofs.YtkgpnloghmbmlaaW.PrintMore Go.Proofs.Ytkgpnloghmbmlaa.Drv
set_option linter.unusedVariables false
set_option linter.unusedSimpArgs false
set_option maxHeartbeats 4000000 in
set_option maxRecDepth 100000 in
theorem put_gone (g : Nat) (st : Int) (sp : List Bool) (sl rg : List ByteArray) (ns : List (Nat × Pt)) (p : S54) (w : World) (hD : Drv w g st sp sl rg ns) (hst : st = 1) :
    Calls Try.prog 84 #[.pointer (some ⟨g, 0, none⟩), .agg #[.bool p.f0, .int .i64 p.f1, .string p.f2]] w fun e w' => e = .returned (.tuple #[]) ∧ Drv w' g st sp sl rg ns ∧ Below g w w' := by
  have hu80 := Try.underlying80
  have hu75 := Try.underlying75
  have hu54 := Try.underlying54
  have HGS := Az.mk (blk_lt hD.blk)
  have HGL := Az.mk (Nat.le_of_lt (blk_lt hD.blk))
  have HLS := Az.mk hD.last_lt
  have HD := Az.mk hD
  subst hst
  clear hD
  have HB := Az.mk (Below.refl g w)
  go_enter Try.func84, Try.ntmps84
  go_wp2_with (first | ((with_reducible refine zqg (N := 3) rfl ?_); refine zqb ?hg (N := 3) ?hd (cs := #[.bool p.f0, .int .i64 p.f1, .string p.f2]) (t := 54) ?hr ?_; (case hd => rfl); (case hg => rfl); (case hr => first | (go_simp; done) | (go_simp; rfl)); intro gp hg w1 hbox hb; have n0_ := Az.mk (hb.mono HGL.out); have n1_ := Az.mk hbox; have n2_ := Az.mk (Drv.below (g := g) (st := 1) (sp := sp) (sl := sl) (rg := rg) (ns := ns) (by (with_reducible repeat (first | refine drv_drewN ?_ _ | refine drv_drew ?_)); exact HD.out) hb); have HNE : Az (lastN g ns < gp) := ⟨by rw [hg]; exact HLS.out⟩; have HGP : Az (gp ≠ g) := ⟨by have h1 := HGS.out; rw [hg]; omega⟩; clear HB HD; have HB := n0_; have BK := n1_; have HD := n2_; clear n0_ n1_ n2_ hb hbox hg; have hst_ : w1.cell? ⟨g, 0, none⟩ = some (.int .i64 1) := drv_st HD.out))
  refine bodyPost_ret (results_none rfl _ _ _) rfl ?_
  exact ⟨rfl, (by (with_reducible repeat (first | refine drv_drewN ?_ _ | refine drv_drew ?_)); exact HD.out), (by repeat (first | (with_reducible first | exact HB.out | apply zq1 | apply zqd) | exact HB.out))⟩
theorem below_glue {g : Nat} {w W w9 : World} (h : Below g w W) (hg : g ≤ w.heap.size) (hb : Below W.heap.size W w9) : Below g w w9 := h.trans (hb.mono (Nat.le_trans hg h.size))
set_option maxHeartbeats 4000000 in
set_option maxRecDepth 100000 in
theorem put_some (g : Nat) (st : Int) (sp : List Bool) (sl rg : List ByteArray) (ns : List (Nat × Pt)) (p : S54) (w : World) (hD : Drv w g st sp sl rg ns) (hst : st ≠ 1) (hn : ns.length < 40) :
    Calls Try.prog 84 #[.pointer (some ⟨g, 0, none⟩), .agg #[.bool p.f0, .int .i64 p.f1, .string p.f2]] w fun e w' => e = .returned (.tuple #[]) ∧ (∃ n, Drv w' g st sp sl rg (ns ++ [(n, p)])) ∧ Below g w w' := by
  have hu80 := Try.underlying80
  have hu75 := Try.underlying75
  have hu54 := Try.underlying54
  have hu112 := Try.underlying112
  have HGS := Az.mk (blk_lt hD.blk)
  have HGL := Az.mk (Nat.le_of_lt (blk_lt hD.blk))
  have HLS := Az.mk hD.last_lt
  have HD := Az.mk hD
  have HN : Az (ns.length ≤ 40) := ⟨by omega⟩
  have hst1 : (st == 1) = false := by rw [beq_eq_false_iff_ne]; exact hst
  have h40 : ((ns.length : Int) == 40) = false := by rw [beq_eq_false_iff_ne]; omega
  have h41 : (ns.length == 40) = false := by rw [beq_eq_false_iff_ne]; omega
  clear hD hst hn
  have HB := Az.mk (Below.refl g w)
  go_enter Try.func84, Try.ntmps84
  go_wp2_with (first | ((with_reducible refine zqg (N := 3) rfl ?_); refine zqb ?hg (N := 3) ?hd (cs := #[.bool p.f0, .int .i64 p.f1, .string p.f2]) (t := 54) ?hr ?_; (case hd => rfl); (case hg => rfl); (case hr => first | (go_simp; done) | (go_simp; rfl)); intro gp hg w1 hbox hb; have n0_ := Az.mk (hb.mono HGL.out); have n1_ := Az.mk hbox; have n2_ := Az.mk (Drv.below (g := g) (st := st) (sp := sp) (sl := sl) (rg := rg) (ns := ns) (by (with_reducible repeat (first | refine drv_drewN ?_ _ | refine drv_drew ?_)); exact HD.out) hb); have HNE : Az (lastN g ns < gp) := ⟨by rw [hg]; exact HLS.out⟩; have HGP : Az (gp ≠ g) := ⟨by have h1 := HGS.out; rw [hg]; omega⟩; clear HB HD; have HB := n0_; have BK := n1_; have HD := n2_; clear n0_ n1_ n2_ hb hbox hg; have hst_ : w1.cell? ⟨g, 0, none⟩ = some (.int .i64 st) := drv_st HD.out) | (go_at_call 90; refine (waits_calls g st sp sl rg ns _ (by (with_reducible repeat (first | refine drv_drewN ?_ _ | refine drv_drew ?_)); exact HD.out) HN.out).mono ?_; rintro e w9 ⟨v9, rfl, ho, hb⟩; obtain ⟨A9, c9, rfl⟩ := Kd.R_slice ho; simp only [List.length_map]; have nd_ := Az.mk (Drv.below (g := g) (st := st) (sp := sp) (sl := sl) (rg := rg) (ns := ns) (by (with_reducible repeat (first | refine drv_drewN ?_ _ | refine drv_drew ?_)); exact HD.out) hb); have nb_ := Az.mk (below_glue (by repeat (first | (with_reducible first | exact HB.out | apply zq1 | apply zqd) | exact HB.out)) HGL.out hb); have nk_ := Az.mk (blk_below (g := gp) (o := .cells #[.bool p.f0, .int .i64 p.f1, .string p.f2] 54 (0, 0)) (by (with_reducible repeat (first | refine zq6 ?_ _ | refine zq8 ?_ | refine zq7 ?_ _)); exact BK.out) hb); clear HB HD BK ho hb; have HB := nb_; have HD := nd_; have BK := nk_; clear nb_ nd_ nk_))
  go_loopg [4] ns.length (fun kq v4 w' => ∃ (dn rs : List (Nat × Pt)), v4 = .pointer (some (linkOf g dn)) ∧ Az (ns = dn ++ rs) ∧ Az (rs.length = kq) ∧ Az (Drv w' g st sp sl rg ns) ∧ Az (w'.heap[gp]? = some (.cells #[.bool p.f0, .int .i64 p.f1, .string p.f2] 54 (0, 0))) ∧ Az (Below g w w'))
  case atStart => exact ⟨[], ns, rfl, ⟨rfl⟩, ⟨rfl⟩, ⟨(by (with_reducible repeat (first | refine drv_drewN ?_ _ | refine drv_drew ?_)); exact HD.out)⟩, ⟨(by (with_reducible repeat (first | refine zq6 ?_ _ | refine zq8 ?_ | refine zq7 ?_ _)); exact BK.out)⟩, ⟨(by repeat (first | (with_reducible first | exact HB.out | apply zq1 | apply zqd) | exact HB.out))⟩⟩
  case round =>
    clear HD BK HB
    obtain ⟨dn, rs, rfl, HE, HI, HD, BK, HB⟩ := hrel
    obtain ⟨lb, lo, hlk0⟩ : ∃ lb lo, (⟨lb, lo, none⟩ : Addr) = linkOf g dn := by cases dn <;> exact ⟨_, _, rfl⟩
    have HLK0 := Az.mk hlk0
    have hlkc : wr.cell? ⟨lb, lo, none⟩ = some (toN rs (.pointer none)) := by
      rw [hlk0]
      exact Drv.link (HE.out ▸ HD.out)
    rw [← hlk0]
    clear hlk0
    cases rs with
    | nil =>
      replace hlkc : wr.cell? ⟨lb, lo, none⟩ = some (.pointer none) := hlkc
      have hE : ns = dn := by have h_ := HE.out; rw [List.append_nil] at h_; exact h_
      have HLK1 : Az ((⟨lb, lo, none⟩ : Addr) = linkOf g ns) := ⟨by rw [HLK0.out, hE]⟩
      have HLB : Az (g ≤ lb) := ⟨by
        have h1 := congrArg Addr.block HLK1.out
        rw [linkOf_block] at h1
        have h2 := HD.out.seg.le
        have h3 : lb = lastN g ns := h1
        omega⟩
      clear HLK0 hE
      have HLK0 := HLK1
      have hcp_0 : wr.cell? ⟨gp, 0, none⟩ = some (.bool p.f0) := (zq4 BK.out 0).trans rfl
      have hcp_1 : wr.cell? ⟨gp, 1, none⟩ = some (.int .i64 p.f1) := (zq4 BK.out 1).trans rfl
      have hcp_2 : wr.cell? ⟨gp, 2, none⟩ = some (.string p.f2) := (zq4 BK.out 2).trans rfl
      go_wp2_with (first | ((with_reducible refine zqg (N := 32) rfl ?_); refine zqb ?hg (N := 32) ?hd (cs := #[.bool p.f0, .int .i64 p.f1, .string p.f2, .pointer none]) (t := 112) ?hr ?_; (case hd => rfl); (case hg => rfl); (case hr => first | (go_simp; done) | (go_simp; rfl)); intro gn hg w21 hbox hb; have n0_ := Az.mk (below_glue (by repeat (first | (with_reducible first | exact HB.out | apply zq1 | apply zqd) | exact HB.out)) HGL.out hb); have n2_ := Az.mk (Drv.below (g := g) (st := st) (sp := sp) (sl := sl) (rg := rg) (ns := ns) (by (with_reducible repeat (first | refine drv_drewN ?_ _ | refine drv_drew ?_)); exact HD.out) hb); have HLN : Az (lastN g ns < gn) := ⟨by rw [hg]; exact Drv.last_lt (st := st) (sp := sp) (sl := sl) (rg := rg) (by (with_reducible repeat (first | refine drv_drewN ?_ _ | refine drv_drew ?_)); exact HD.out)⟩; clear HB HD; have HB := n0_; have HD := n2_; have BN : Az (Go.Proofs.Ytkgpnloghmbmlaa.Drv.Node w21 gn p (.pointer none)) := ⟨hbox⟩; clear n0_ n2_ hb hbox hg; have hlk : w21.cell? ⟨lb, lo, none⟩ = some (.pointer none) := (HLK0.out.symm ▸ HD.out.linkE); have hlf : w21.frozen? ⟨lb, lo, none⟩ = false := (HLK0.out.symm ▸ HD.out.linkFreeE)))
      go_end0
      exact ⟨rfl, ⟨gn, by rw [HLK0.out]; exact Drv.hang HD.out BN.out HLN.out⟩, HB.out.setCell (p := ⟨lb, lo, none⟩) HLB.out _⟩
    | cons x rs =>
      obtain ⟨b, q⟩ := x
      replace hlkc : wr.cell? ⟨lb, lo, none⟩ = some (.pointer (some ⟨b, 0, none⟩)) := hlkc
      go_wp2
      go_roundg (gk - 1)
      case measure => have := HI.out; simp only [List.length_cons] at this; omega
      case rel => exact ⟨dn ++ [(b, q)], rs, by rw [linkOf_snoc], ⟨by have h_ := HE.out; first | (simp at h_; done) | (rw [h_, List.append_assoc]; rfl)⟩, ⟨by have := HI.out; simp only [List.length_cons] at this; omega⟩, ⟨(by (with_reducible repeat (first | refine drv_drewN ?_ _ | refine drv_drew ?_)); exact HD.out)⟩, ⟨(by (with_reducible repeat (first | refine zq6 ?_ _ | refine zq8 ?_ | refine zq7 ?_ _)); exact BK.out)⟩, ⟨(by repeat (first | (with_reducible first | exact HB.out | apply zq1 | apply zqd) | exact HB.out))⟩⟩
set_option maxHeartbeats 4000000 in
set_option maxRecDepth 100000 in
theorem put_full (g : Nat) (st : Int) (sp : List Bool) (sl rg : List ByteArray) (ns : List (Nat × Pt)) (p : S54) (w : World) (hD : Drv w g st sp sl rg ns) (hst : st ≠ 1) (hn : ns.length = 40) (hp : ∀ x ∈ ns, putB x.2 = true) (sp1 : List Bool) (sl1 rg1 : List ByteArray) (hc : comeAll (ns.map (·.2)) (sp, sl, rg) = (sp1, sl1, rg1)) :
    Calls Try.prog 84 #[.pointer (some ⟨g, 0, none⟩), .agg #[.bool p.f0, .int .i64 p.f1, .string p.f2]] w fun e w' => e = .returned (.tuple #[]) ∧ (∃ n, Drv w' g st sp1 sl1 rg1 [(n, p)]) ∧ Below g w w' := by
  have hu80 := Try.underlying80
  have hu75 := Try.underlying75
  have hu54 := Try.underlying54
  have hu112 := Try.underlying112
  have HGS := Az.mk (blk_lt hD.blk)
  have HGL := Az.mk (Nat.le_of_lt (blk_lt hD.blk))
  have HLS := Az.mk hD.last_lt
  have HFL := Az.mk (fun (W : World) (h : Drv W g st sp sl rg ns) => show Calls Try.prog 78 #[.pointer (some ⟨g, 0, none⟩)] W fun e w' => e = .returned (.tuple #[]) ∧ Drv w' g st sp1 sl1 rg1 [] ∧ Below g W w' ∧ KeepBut W w' g none from by
    have := flush_calls g st sp sl rg ns W h hp
    rw [hc] at this
    exact this)
  have HD := Az.mk hD
  have HN : Az (ns.length ≤ 40) := ⟨by omega⟩
  have hst1 : (st == 1) = false := by rw [beq_eq_false_iff_ne]; exact hst
  have h40 : ((ns.length : Int) == 40) = true := by rw [beq_iff_eq]; omega
  have h41 : (ns.length == 40) = true := by rw [beq_iff_eq]; omega
  clear hD hst hn hp hc
  have HB := Az.mk (Below.refl g w)
  go_enter Try.func84, Try.ntmps84
  go_wp2_with (first | ((with_reducible refine zqg (N := 3) rfl ?_); refine zqb ?hg (N := 3) ?hd (cs := #[.bool p.f0, .int .i64 p.f1, .string p.f2]) (t := 54) ?hr ?_; (case hd => rfl); (case hg => rfl); (case hr => first | (go_simp; done) | (go_simp; rfl)); intro gp hg w1 hbox hb; have n0_ := Az.mk (hb.mono HGL.out); have n1_ := Az.mk hbox; have n2_ := Az.mk (Drv.below (g := g) (st := st) (sp := sp) (sl := sl) (rg := rg) (ns := ns) (by (with_reducible repeat (first | refine drv_drewN ?_ _ | refine drv_drew ?_)); exact HD.out) hb); have HNE : Az (lastN g ns < gp) := ⟨by rw [hg]; exact HLS.out⟩; have HGP : Az (gp ≠ g) := ⟨by have h1 := HGS.out; rw [hg]; omega⟩; clear HB HD; have HB := n0_; have BK := n1_; have HD := n2_; clear n0_ n1_ n2_ hb hbox hg; have hst_ : w1.cell? ⟨g, 0, none⟩ = some (.int .i64 st) := drv_st HD.out) | (go_at_call 90; refine (waits_calls g st sp sl rg ns _ (by (with_reducible repeat (first | refine drv_drewN ?_ _ | refine drv_drew ?_)); exact HD.out) HN.out).mono ?_; rintro e w9 ⟨v9, rfl, ho, hb⟩; obtain ⟨A9, c9, rfl⟩ := Kd.R_slice ho; simp only [List.length_map]; have nd_ := Az.mk (Drv.below (g := g) (st := st) (sp := sp) (sl := sl) (rg := rg) (ns := ns) (by (with_reducible repeat (first | refine drv_drewN ?_ _ | refine drv_drew ?_)); exact HD.out) hb); have nb_ := Az.mk (below_glue (by repeat (first | (with_reducible first | exact HB.out | apply zq1 | apply zqd) | exact HB.out)) HGL.out hb); have nk_ := Az.mk (blk_below (g := gp) (o := .cells #[.bool p.f0, .int .i64 p.f1, .string p.f2] 54 (0, 0)) (by (with_reducible repeat (first | refine zq6 ?_ _ | refine zq8 ?_ | refine zq7 ?_ _)); exact BK.out) hb); clear HB HD BK ho hb; have HB := nb_; have HD := nd_; have BK := nk_; clear nb_ nd_ nk_) | (go_at_call 78; refine (HFL.out _ (by (with_reducible repeat (first | refine drv_drewN ?_ _ | refine drv_drew ?_)); exact HD.out)).mono ?_; rintro e w10 ⟨rfl, hd, hb, hk⟩; have nb_ := Az.mk (Below.trans (by repeat (first | (with_reducible first | exact HB.out | apply zq1 | apply zqd) | exact HB.out)) hb); have nk_ := Az.mk (KeepBut.blk hk (o := .cells #[.bool p.f0, .int .i64 p.f1, .string p.f2] 54 (0, 0)) (by (with_reducible repeat (first | refine zq6 ?_ _ | refine zq8 ?_ | refine zq7 ?_ _)); exact BK.out) HGP.out (by simp)); have nd_ := Az.mk hd; clear HB HD BK hb hk hd; have HB := nb_; have BK := nk_; have HD := nd_; clear nb_ nk_ nd_))
  go_loopg [4] ([] : List (Nat × Pt)).length (fun kq v4 w' => ∃ (dn rs : List (Nat × Pt)), v4 = .pointer (some (linkOf g dn)) ∧ Az (([] : List (Nat × Pt)) = dn ++ rs) ∧ Az (rs.length = kq) ∧ Az (Drv w' g st sp1 sl1 rg1 ([] : List (Nat × Pt))) ∧ Az (w'.heap[gp]? = some (.cells #[.bool p.f0, .int .i64 p.f1, .string p.f2] 54 (0, 0))) ∧ Az (Below g w w'))
  case atStart => exact ⟨[], ([] : List (Nat × Pt)), rfl, ⟨rfl⟩, ⟨rfl⟩, ⟨(by (with_reducible repeat (first | refine drv_drewN ?_ _ | refine drv_drew ?_)); exact HD.out)⟩, ⟨(by (with_reducible repeat (first | refine zq6 ?_ _ | refine zq8 ?_ | refine zq7 ?_ _)); exact BK.out)⟩, ⟨(by repeat (first | (with_reducible first | exact HB.out | apply zq1 | apply zqd) | exact HB.out))⟩⟩
  case round =>
    clear HD BK HB
    obtain ⟨dn, rs, rfl, HE, HI, HD, BK, HB⟩ := hrel
    obtain ⟨lb, lo, hlk0⟩ : ∃ lb lo, (⟨lb, lo, none⟩ : Addr) = linkOf g dn := by cases dn <;> exact ⟨_, _, rfl⟩
    have HLK0 := Az.mk hlk0
    have hlkc : wr.cell? ⟨lb, lo, none⟩ = some (toN rs (.pointer none)) := by
      rw [hlk0]
      exact Drv.link (HE.out ▸ HD.out)
    rw [← hlk0]
    clear hlk0
    cases rs with
    | nil =>
      replace hlkc : wr.cell? ⟨lb, lo, none⟩ = some (.pointer none) := hlkc
      have hE : ([] : List (Nat × Pt)) = dn := by have h_ := HE.out; rw [List.append_nil] at h_; exact h_
      have HLK1 : Az ((⟨lb, lo, none⟩ : Addr) = linkOf g ([] : List (Nat × Pt))) := ⟨by rw [HLK0.out, hE]⟩
      have HLB : Az (g ≤ lb) := ⟨by
        have h1 := congrArg Addr.block HLK1.out
        rw [linkOf_block] at h1
        have h2 := HD.out.seg.le
        have h3 : lb = lastN g ([] : List (Nat × Pt)) := h1
        omega⟩
      clear HLK0 hE
      have HLK0 := HLK1
      have hcp_0 : wr.cell? ⟨gp, 0, none⟩ = some (.bool p.f0) := (zq4 BK.out 0).trans rfl
      have hcp_1 : wr.cell? ⟨gp, 1, none⟩ = some (.int .i64 p.f1) := (zq4 BK.out 1).trans rfl
      have hcp_2 : wr.cell? ⟨gp, 2, none⟩ = some (.string p.f2) := (zq4 BK.out 2).trans rfl
      go_wp2_with (first | ((with_reducible refine zqg (N := 32) rfl ?_); refine zqb ?hg (N := 32) ?hd (cs := #[.bool p.f0, .int .i64 p.f1, .string p.f2, .pointer none]) (t := 112) ?hr ?_; (case hd => rfl); (case hg => rfl); (case hr => first | (go_simp; done) | (go_simp; rfl)); intro gn hg w21 hbox hb; have n0_ := Az.mk (below_glue (by repeat (first | (with_reducible first | exact HB.out | apply zq1 | apply zqd) | exact HB.out)) HGL.out hb); have n2_ := Az.mk (Drv.below (g := g) (st := st) (sp := sp1) (sl := sl1) (rg := rg1) (ns := ([] : List (Nat × Pt))) (by (with_reducible repeat (first | refine drv_drewN ?_ _ | refine drv_drew ?_)); exact HD.out) hb); have HLN : Az (lastN g ([] : List (Nat × Pt)) < gn) := ⟨by rw [hg]; exact Drv.last_lt (st := st) (sp := sp1) (sl := sl1) (rg := rg1) (by (with_reducible repeat (first | refine drv_drewN ?_ _ | refine drv_drew ?_)); exact HD.out)⟩; clear HB HD; have HB := n0_; have HD := n2_; have BN : Az (Go.Proofs.Ytkgpnloghmbmlaa.Drv.Node w21 gn p (.pointer none)) := ⟨hbox⟩; clear n0_ n2_ hb hbox hg; have hlk : w21.cell? ⟨lb, lo, none⟩ = some (.pointer none) := (HLK0.out.symm ▸ HD.out.linkE); have hlf : w21.frozen? ⟨lb, lo, none⟩ = false := (HLK0.out.symm ▸ HD.out.linkFreeE)))
      go_end0
      exact ⟨rfl, ⟨gn, by rw [HLK0.out]; exact Drv.hang HD.out BN.out HLN.out⟩, HB.out.setCell (p := ⟨lb, lo, none⟩) HLB.out _⟩
    | cons x rs =>
      obtain ⟨b, q⟩ := x
      replace hlkc : wr.cell? ⟨lb, lo, none⟩ = some (.pointer (some ⟨b, 0, none⟩)) := hlkc
      go_wp2
      go_roundg (gk - 1)
      case measure => have := HI.out; simp only [List.length_cons] at this; omega
      case rel => exact ⟨dn ++ [(b, q)], rs, by rw [linkOf_snoc], ⟨by have h_ := HE.out; first | (simp at h_; done) | (rw [h_, List.append_assoc]; rfl)⟩, ⟨by have := HI.out; simp only [List.length_cons] at this; omega⟩, ⟨(by (with_reducible repeat (first | refine drv_drewN ?_ _ | refine drv_drew ?_)); exact HD.out)⟩, ⟨(by (with_reducible repeat (first | refine zq6 ?_ _ | refine zq8 ?_ | refine zq7 ?_ _)); exact BK.out)⟩, ⟨(by repeat (first | (with_reducible first | exact HB.out | apply zq1 | apply zqd) | exact HB.out))⟩⟩
end Go.Proofs.Ytkgpnloghmbmlaa.Print
namespace Go.Proofs.Ytkgpnloghmbmlaa.Print
open Go.RowKit Go.Proofs.YtkgpnloghmbmlaaW.PrintWords Go.Proofs.YtkgpnloghmbmlaaW.PrintLast Go.Proofs.YtkgpnloghmbmlaaW.PrintMore Go.Proofs.Ytkgpnloghmbmlaa.Drv
set_option linter.unusedVariables false
set_option linter.unusedSimpArgs false
theorem readDisk_bad (a0_0 : Int) (A0_1 : Option Addr) (c0_1 : Nat) (l0_1 : List ByteArray) (A0_2 : Option Addr) (c0_2 : Nat) (l0_2 : List ByteArray) (A0_3 : Option Addr) (c0_3 : Nat) (l0_3 : List Bool) (A0_4 : Option Addr) (c0_4 : Nat) (l0_4 : List (S54)) (w : World) (hr0_1 : Kd.C Kd.string w A0_1 l0_1.length l0_1) (hc0_1 : l0_1.length ≤ c0_1) (hr0_2 : Kd.C Kd.string w A0_2 l0_2.length l0_2) (hc0_2 : l0_2.length ≤ c0_2) (hr0_3 : Kd.C Kd.bool w A0_3 l0_3.length l0_3) (hc0_3 : l0_3.length ≤ c0_3) (hr0_4 : Kd.C k54 w A0_4 l0_4.length l0_4) (hc0_4 : l0_4.length ≤ c0_4) (hg : ¬ Good a0_0 l0_1 l0_2 l0_3 l0_4) :
    Calls Try.prog 52 #[.agg #[.int .i64 a0_0, .slice A0_1 l0_1.length c0_1, .slice A0_2 l0_2.length c0_2, .slice A0_3 l0_3.length c0_3, .slice A0_4 l0_4.length c0_4]] w fun e w' => e = .returned (.tuple #[.pointer none, .bool false]) ∧ Below w.heap.size w w' :=
  (readDisk_calls a0_0 A0_1 c0_1 l0_1 A0_2 c0_2 l0_2 A0_3 c0_3 l0_3 A0_4 c0_4 l0_4 w hr0_1 hc0_1 hr0_2 hc0_2 hr0_3 hc0_3 hr0_4 hc0_4).mono fun e w' h => by
    rcases h with h | h
    · exact h.2
    · exact absurd h.1 hg
theorem readDisk_good (a0_0 : Int) (A0_1 : Option Addr) (c0_1 : Nat) (l0_1 : List ByteArray) (A0_2 : Option Addr) (c0_2 : Nat) (l0_2 : List ByteArray) (A0_3 : Option Addr) (c0_3 : Nat) (l0_3 : List Bool) (A0_4 : Option Addr) (c0_4 : Nat) (l0_4 : List (S54)) (w : World) (hr0_1 : Kd.C Kd.string w A0_1 l0_1.length l0_1) (hc0_1 : l0_1.length ≤ c0_1) (hr0_2 : Kd.C Kd.string w A0_2 l0_2.length l0_2) (hc0_2 : l0_2.length ≤ c0_2) (hr0_3 : Kd.C Kd.bool w A0_3 l0_3.length l0_3) (hc0_3 : l0_3.length ≤ c0_3) (hr0_4 : Kd.C k54 w A0_4 l0_4.length l0_4) (hc0_4 : l0_4.length ≤ c0_4) (hg : Good a0_0 l0_1 l0_2 l0_3 l0_4) :
    Calls Try.prog 52 #[.agg #[.int .i64 a0_0, .slice A0_1 l0_1.length c0_1, .slice A0_2 l0_2.length c0_2, .slice A0_3 l0_3.length c0_3, .slice A0_4 l0_4.length c0_4]] w fun e w' => ∃ g ns, e = .returned (.tuple #[.pointer (some ⟨g, 0, none⟩), .bool true]) ∧ Drv w' g a0_0 l0_3 l0_1 l0_2 ns ∧ ns.map (·.2) = l0_4 ∧ Below w.heap.size w w' :=
  (readDisk_calls a0_0 A0_1 c0_1 l0_1 A0_2 c0_2 l0_2 A0_3 c0_3 l0_3 A0_4 c0_4 l0_4 w hr0_1 hc0_1 hr0_2 hc0_2 hr0_3 hc0_3 hr0_4 hc0_4).mono fun e w' h => by
    rcases h with h | ⟨_, g, ns, h1, _, h3, h4, h5⟩
    · exact absurd hg h.1
    · exact ⟨g, ns, h1, h3, h4, h5⟩
def goodT (st : Int) (sl rg : List ByteArray) (sp : List Bool) (wt : List S54) : Bool :=
  decide (Shaped st sl rg sp wt) && (!(wt.any fun x => !putB x) && (((List.range 12).all fun i => !badSlot (sl.getD i ByteArray.empty) (sp.getD i false)) && (!(rg.any fun x : ByteArray => decide ((x.size : Int) > 700)) && (decide (st ≠ 1) || (sl.all (fun x => x.size == 0) && (rg.all (fun x => x.size == 0) && decide (wt.length = 0)))))))
theorem goodT_iff (st : Int) (sl rg : List ByteArray) (sp : List Bool) (wt : List S54) : goodT st sl rg sp wt = true ↔ Good st sl rg sp wt := by
  unfold goodT
  simp only [Bool.and_eq_true, Bool.or_eq_true, Bool.not_eq_true', decide_eq_true_iff, List.all_eq_true, List.mem_range]
  constructor
  · rintro ⟨h1, h2, h3, h4, h5⟩
    refine ⟨h1, h2, fun i hi => h3 i hi, h4, fun h => ?_⟩
    rcases h5 with h5 | h5
    · exact absurd h h5
    · exact ⟨List.all_eq_true.2 h5.1, List.all_eq_true.2 h5.2.1, h5.2.2⟩
  · intro h
    refine ⟨h.sh, h.wa, fun i hi => h.so i hi, h.ro, ?_⟩
    by_cases e : st = 1
    · exact Or.inr ⟨List.all_eq_true.1 (h.go e).1, List.all_eq_true.1 (h.go e).2.1, (h.go e).2.2⟩
    · exact Or.inl e
instance (st : Int) (sl rg : List ByteArray) (sp : List Bool) (wt : List S54) : Decidable (Good st sl rg sp wt) := decidable_of_iff _ (goodT_iff st sl rg sp wt)
def goodB (a0_0 : Int) (l0_1 l0_2 : List ByteArray) (l0_3 : List Bool) (l0_4 : List S54) : Bool := decide (Good a0_0 l0_1 l0_2 l0_3 l0_4)
def impl_DiskOk.f (a0_0 : Int) (l0_1 l0_2 : List ByteArray) (l0_3 : List Bool) (l0_4 : List S54) : Option Bool := some (goodB a0_0 l0_1 l0_2 l0_3 l0_4)
set_option maxHeartbeats 4000000 in
set_option maxRecDepth 100000 in
theorem impl_DiskOk.calls (a0_0 : Int) (A0_1 : Option Addr) (c0_1 : Nat) (l0_1 : List ByteArray) (A0_2 : Option Addr) (c0_2 : Nat) (l0_2 : List ByteArray) (A0_3 : Option Addr) (c0_3 : Nat) (l0_3 : List Bool) (A0_4 : Option Addr) (c0_4 : Nat) (l0_4 : List (S54)) (r : Bool) (w : World) (hr0_1 : Kd.C Kd.string w A0_1 l0_1.length l0_1) (hc0_1 : l0_1.length ≤ c0_1) (hr0_2 : Kd.C Kd.string w A0_2 l0_2.length l0_2) (hc0_2 : l0_2.length ≤ c0_2) (hr0_3 : Kd.C Kd.bool w A0_3 l0_3.length l0_3) (hc0_3 : l0_3.length ≤ c0_3) (hr0_4 : Kd.C k54 w A0_4 l0_4.length l0_4) (hc0_4 : l0_4.length ≤ c0_4) (h : impl_DiskOk.f a0_0 l0_1 l0_2 l0_3 l0_4 = some r) :
    Calls Try.prog 21 #[.agg #[.int .i64 a0_0, .slice A0_1 l0_1.length c0_1, .slice A0_2 l0_2.length c0_2, .slice A0_3 l0_3.length c0_3, .slice A0_4 l0_4.length c0_4]] w fun e w' => e = .returned (.bool r) ∧ Below w.heap.size w w' := by
  have hu28 := Try.underlying28
  by_cases hg : Good a0_0 l0_1 l0_2 l0_3 l0_4
  · obtain rfl : true = r := by simpa [impl_DiskOk.f, goodB, hg] using h
    have HGD := Az.mk (fun (W : World) (hb : Below w.heap.size w W) => readDisk_good a0_0 A0_1 c0_1 l0_1 A0_2 c0_2 l0_2 A0_3 c0_3 l0_3 A0_4 c0_4 l0_4 W (Kd.C_below hr0_1 hb) hc0_1 (Kd.C_below hr0_2 hb) hc0_2 (Kd.C_below hr0_3 hb) hc0_3 (Kd.C_below hr0_4 hb) hc0_4 hg)
    have HB := Az.mk (Below.refl w.heap.size w)
    clear hr0_1 hc0_1 hr0_2 hc0_2 hr0_3 hc0_3 hr0_4 hc0_4 h hg
    go_enter Try.func21, Try.ntmps21
    go_wp2_with (first | ((with_reducible refine zqg (N := 1) rfl ?_); refine zqb ?hg (N := 1) ?hd (cs := #[.int .i64 a0_0, .slice A0_1 l0_1.length c0_1, .slice A0_2 l0_2.length c0_2, .slice A0_3 l0_3.length c0_3, .slice A0_4 l0_4.length c0_4]) (t := 28) ?hr ?_; (case hd => rfl); (case hg => rfl); (case hr => first | (go_simp; done) | (go_simp; rfl)); intro gb hg w1 hbox hb; have n0_ := Az.mk (below_step (by repeat (first | (with_reducible first | exact HB.out | apply zq2 | apply zq1 | apply zqd) | exact HB.out)) hb); have n1_ := Az.mk hbox; clear HB; have HB := n0_; have BK := n1_; clear n0_ n1_ hb hbox hg; have hcz_0 : w1.cell? ⟨gb, 0, none⟩ = some (.int .i64 a0_0) := (zq4 BK.out 0).trans rfl; have hcz_1 : w1.cell? ⟨gb, 1, none⟩ = some (.slice A0_1 l0_1.length c0_1) := (zq4 BK.out 1).trans rfl; have hcz_2 : w1.cell? ⟨gb, 2, none⟩ = some (.slice A0_2 l0_2.length c0_2) := (zq4 BK.out 2).trans rfl; have hcz_3 : w1.cell? ⟨gb, 3, none⟩ = some (.slice A0_3 l0_3.length c0_3) := (zq4 BK.out 3).trans rfl; have hcz_4 : w1.cell? ⟨gb, 4, none⟩ = some (.slice A0_4 l0_4.length c0_4) := (zq4 BK.out 4).trans rfl) | (go_at_call 52; refine (HGD.out _ (by repeat (first | (with_reducible first | exact HB.out | apply zq2 | apply zq1 | apply zqd) | exact HB.out))).mono ?_; rintro e w9 ⟨gd, ns, rfl, hd, hns, hb⟩; have n0_ := Az.mk (below_step (by repeat (first | (with_reducible first | exact HB.out | apply zq2 | apply zq1 | apply zqd) | exact HB.out)) hb); have HD := Az.mk hd; have HNS := Az.mk hns; clear HB; have HB := n0_; clear n0_ hb hd hns))
    go_ret
    exact ⟨rfl, (by repeat (first | (with_reducible first | exact HB.out | apply zq2 | apply zq1 | apply zqd) | exact HB.out))⟩
  · obtain rfl : false = r := by simpa [impl_DiskOk.f, goodB, hg] using h
    have HBAD := Az.mk (fun (W : World) (hb : Below w.heap.size w W) => readDisk_bad a0_0 A0_1 c0_1 l0_1 A0_2 c0_2 l0_2 A0_3 c0_3 l0_3 A0_4 c0_4 l0_4 W (Kd.C_below hr0_1 hb) hc0_1 (Kd.C_below hr0_2 hb) hc0_2 (Kd.C_below hr0_3 hb) hc0_3 (Kd.C_below hr0_4 hb) hc0_4 hg)
    have HB := Az.mk (Below.refl w.heap.size w)
    clear hr0_1 hc0_1 hr0_2 hc0_2 hr0_3 hc0_3 hr0_4 hc0_4 h hg
    go_enter Try.func21, Try.ntmps21
    go_wp2_with (first | ((with_reducible refine zqg (N := 1) rfl ?_); refine zqb ?hg (N := 1) ?hd (cs := #[.int .i64 a0_0, .slice A0_1 l0_1.length c0_1, .slice A0_2 l0_2.length c0_2, .slice A0_3 l0_3.length c0_3, .slice A0_4 l0_4.length c0_4]) (t := 28) ?hr ?_; (case hd => rfl); (case hg => rfl); (case hr => first | (go_simp; done) | (go_simp; rfl)); intro gb hg w1 hbox hb; have n0_ := Az.mk (below_step (by repeat (first | (with_reducible first | exact HB.out | apply zq2 | apply zq1 | apply zqd) | exact HB.out)) hb); have n1_ := Az.mk hbox; clear HB; have HB := n0_; have BK := n1_; clear n0_ n1_ hb hbox hg; have hcz_0 : w1.cell? ⟨gb, 0, none⟩ = some (.int .i64 a0_0) := (zq4 BK.out 0).trans rfl; have hcz_1 : w1.cell? ⟨gb, 1, none⟩ = some (.slice A0_1 l0_1.length c0_1) := (zq4 BK.out 1).trans rfl; have hcz_2 : w1.cell? ⟨gb, 2, none⟩ = some (.slice A0_2 l0_2.length c0_2) := (zq4 BK.out 2).trans rfl; have hcz_3 : w1.cell? ⟨gb, 3, none⟩ = some (.slice A0_3 l0_3.length c0_3) := (zq4 BK.out 3).trans rfl; have hcz_4 : w1.cell? ⟨gb, 4, none⟩ = some (.slice A0_4 l0_4.length c0_4) := (zq4 BK.out 4).trans rfl) | (go_at_call 52; refine (HBAD.out _ (by repeat (first | (with_reducible first | exact HB.out | apply zq2 | apply zq1 | apply zqd) | exact HB.out))).mono ?_; rintro e w9 ⟨rfl, hb⟩; have n0_ := Az.mk (below_step (by repeat (first | (with_reducible first | exact HB.out | apply zq2 | apply zq1 | apply zqd) | exact HB.out)) hb); clear HB; have HB := n0_; clear n0_ hb))
    go_ret
    exact ⟨rfl, (by repeat (first | (with_reducible first | exact HB.out | apply zq2 | apply zq1 | apply zqd) | exact HB.out))⟩
end Go.Proofs.Ytkgpnloghmbmlaa.Print
namespace Go.Proofs.Ytkgpnloghmbmlaa.Print
open Go.RowKit Go.Proofs.YtkgpnloghmbmlaaW.PrintWords Go.Proofs.YtkgpnloghmbmlaaW.PrintLast Go.Proofs.YtkgpnloghmbmlaaW.PrintMore Go.Proofs.Ytkgpnloghmbmlaa.Drv
set_option linter.unusedVariables false
set_option linter.unusedSimpArgs false
set_option maxHeartbeats 4000000 in
set_option maxRecDepth 100000 in
theorem changed_bad (a0_0 : Int) (A0_1 : Option Addr) (c0_1 : Nat) (l0_1 : List ByteArray) (A0_2 : Option Addr) (c0_2 : Nat) (l0_2 : List ByteArray) (A0_3 : Option Addr) (c0_3 : Nat) (l0_3 : List Bool) (A0_4 : Option Addr) (c0_4 : Nat) (l0_4 : List (S54)) (fv : Value) (w : World) (hr0_1 : Kd.C Kd.string w A0_1 l0_1.length l0_1) (hc0_1 : l0_1.length ≤ c0_1) (hr0_2 : Kd.C Kd.string w A0_2 l0_2.length l0_2) (hc0_2 : l0_2.length ≤ c0_2) (hr0_3 : Kd.C Kd.bool w A0_3 l0_3.length l0_3) (hc0_3 : l0_3.length ≤ c0_3) (hr0_4 : Kd.C k54 w A0_4 l0_4.length l0_4) (hc0_4 : l0_4.length ≤ c0_4) (hg : ¬ Good a0_0 l0_1 l0_2 l0_3 l0_4) :
    Calls Try.prog 76 #[.agg #[.int .i64 a0_0, .slice A0_1 l0_1.length c0_1, .slice A0_2 l0_2.length c0_2, .slice A0_3 l0_3.length c0_3, .slice A0_4 l0_4.length c0_4], fv] w fun e w' => ∃ v1_ v2_ v3_ v4_ : Value, e = .returned (.agg #[.int .i64 0, v1_, v2_, v3_, v4_]) ∧ Kd.R Kd.string 9 w' w.heap.size (fun k_ => some k_ ≠ (v2_ : Value).ownBlock) v1_ ([] : List ByteArray) ∧ Kd.R Kd.string 9 w' w.heap.size (fun k_ => some k_ ≠ (v1_ : Value).ownBlock) v2_ ([] : List ByteArray) ∧ Kd.R Kd.bool 4 w' w.heap.size (fun _ => True) v3_ ([] : List Bool) ∧ Kd.R k54 54 w' w.heap.size (fun _ => True) v4_ ([] : List S54) ∧ Below w.heap.size w w' := by
  have hu28 := Try.underlying28
  have HBAD := Az.mk (fun (W : World) (hb : Below w.heap.size w W) => readDisk_bad a0_0 A0_1 c0_1 l0_1 A0_2 c0_2 l0_2 A0_3 c0_3 l0_3 A0_4 c0_4 l0_4 W (Kd.C_below hr0_1 hb) hc0_1 (Kd.C_below hr0_2 hb) hc0_2 (Kd.C_below hr0_3 hb) hc0_3 (Kd.C_below hr0_4 hb) hc0_4 hg)
  have HB := Az.mk (Below.refl w.heap.size w)
  clear hr0_1 hc0_1 hr0_2 hc0_2 hr0_3 hc0_3 hr0_4 hc0_4 hg
  go_enter Try.func76, Try.ntmps76
  go_wp2_with (first | ((with_reducible refine zqg (N := 2) rfl ?_); refine zqb ?hg (N := 2) ?hd (cs := #[.int .i64 a0_0, .slice A0_1 l0_1.length c0_1, .slice A0_2 l0_2.length c0_2, .slice A0_3 l0_3.length c0_3, .slice A0_4 l0_4.length c0_4]) (t := 28) ?hr ?_; (case hd => rfl); (case hg => rfl); (case hr => first | (go_simp; done) | (go_simp; rfl)); intro gb hg w1 hbox hb; have n0_ := Az.mk (below_step (by repeat (first | (with_reducible first | exact HB.out | apply zq2 | apply zq1 | apply zqd) | exact HB.out)) hb); have BD := Az.mk hbox; clear HB; have HB := n0_; clear n0_ hb hbox hg; have hcd_0 : w1.cell? ⟨gb, 0, none⟩ = some (.int .i64 a0_0) := (zq4 BD.out 0).trans rfl; have hcd_1 : w1.cell? ⟨gb, 1, none⟩ = some (.slice A0_1 l0_1.length c0_1) := (zq4 BD.out 1).trans rfl; have hcd_2 : w1.cell? ⟨gb, 2, none⟩ = some (.slice A0_2 l0_2.length c0_2) := (zq4 BD.out 2).trans rfl; have hcd_3 : w1.cell? ⟨gb, 3, none⟩ = some (.slice A0_3 l0_3.length c0_3) := (zq4 BD.out 3).trans rfl; have hcd_4 : w1.cell? ⟨gb, 4, none⟩ = some (.slice A0_4 l0_4.length c0_4) := (zq4 BD.out 4).trans rfl) | ((with_reducible refine zqg (N := 4) rfl ?_); refine zqb ?hg (N := 4) ?hd (cs := #[.int .i64 0, .slice none 0 0, .slice none 0 0, .slice none 0 0, .slice none 0 0]) (t := 28) ?hr ?_; (case hd => rfl); (case hg => rfl); (case hr => first | (go_simp; done) | (go_simp; rfl)); intro gr hg w2 hbox hb; have n0_ := Az.mk (below_step (by repeat (first | (with_reducible first | exact HB.out | apply zq2 | apply zq1 | apply zqd) | exact HB.out)) hb); have BK := Az.mk hbox; have HGR : Az (w.heap.size ≤ gr) := ⟨by rw [hg]; exact (below_size (by repeat (first | (with_reducible first | exact HB.out | apply zq2 | apply zq1 | apply zqd) | exact HB.out)))⟩; have nd_ := Az.mk (blk_below (g := gb) (o := .cells #[.int .i64 a0_0, .slice A0_1 l0_1.length c0_1, .slice A0_2 l0_2.length c0_2, .slice A0_3 l0_3.length c0_3, .slice A0_4 l0_4.length c0_4] 28 (0, 0)) (by (with_reducible repeat (first | refine zq6 ?_ _ | refine zq8 ?_ | refine zq7 ?_ _)); exact BD.out) hb); clear HB BD; have HB := n0_; have BD := nd_; clear n0_ nd_ hb hbox hg; have hcd_0 : w2.cell? ⟨gb, 0, none⟩ = some (.int .i64 a0_0) := (zq4 BD.out 0).trans rfl; have hcd_1 : w2.cell? ⟨gb, 1, none⟩ = some (.slice A0_1 l0_1.length c0_1) := (zq4 BD.out 1).trans rfl; have hcd_2 : w2.cell? ⟨gb, 2, none⟩ = some (.slice A0_2 l0_2.length c0_2) := (zq4 BD.out 2).trans rfl; have hcd_3 : w2.cell? ⟨gb, 3, none⟩ = some (.slice A0_3 l0_3.length c0_3) := (zq4 BD.out 3).trans rfl; have hcd_4 : w2.cell? ⟨gb, 4, none⟩ = some (.slice A0_4 l0_4.length c0_4) := (zq4 BD.out 4).trans rfl) | (go_at_call 52; refine (HBAD.out _ (by repeat (first | (with_reducible first | exact HB.out | apply zq2 | apply zq1 | apply zqd) | exact HB.out))).mono ?_; rintro e w9 ⟨rfl, hb⟩; have n0_ := Az.mk (below_step (by repeat (first | (with_reducible first | exact HB.out | apply zq2 | apply zq1 | apply zqd) | exact HB.out)) hb); have nk_ := Az.mk (blk_below (g := gr) (o := .cells #[.int .i64 0, .slice none 0 0, .slice none 0 0, .slice none 0 0, .slice none 0 0] 28 (0, 0)) (by (with_reducible repeat (first | refine zq6 ?_ _ | refine zq8 ?_ | refine zq7 ?_ _)); exact BK.out) hb); clear HB BK; have HB := n0_; have BK := nk_; clear n0_ nk_ hb; have hcz_0 : w9.cell? ⟨gr, 0, none⟩ = some (.int .i64 0) := (zq4 BK.out 0).trans rfl; have hcz_1 : w9.cell? ⟨gr, 1, none⟩ = some (.slice none 0 0) := (zq4 BK.out 1).trans rfl; have hcz_2 : w9.cell? ⟨gr, 2, none⟩ = some (.slice none 0 0) := (zq4 BK.out 2).trans rfl; have hcz_3 : w9.cell? ⟨gr, 3, none⟩ = some (.slice none 0 0) := (zq4 BK.out 3).trans rfl; have hcz_4 : w9.cell? ⟨gr, 4, none⟩ = some (.slice none 0 0) := (zq4 BK.out 4).trans rfl; have hfz_0 := zq5 BK.out 0; have hfz_1 := zq5 BK.out 1; have hfz_2 := zq5 BK.out 2; have hfz_3 := zq5 BK.out 3; have hfz_4 := zq5 BK.out 4))
  have hset : ∀ {W : World} (h : Below w.heap.size w W) (j : Nat) (u : Value), Below w.heap.size w (W.setCell ⟨gr, j, none⟩ u) := fun h j u => zq3 h HGR.out
  refine bodyPost_ret (results_cell_row rfl _ _ gr 28 #[.int .i64 0, .slice none 0 0, .slice none 0 0, .slice none 0 0, .slice none 0 0] (0, 0) _ rfl (by
    refine blk_put (cs := #[.int .i64 0, .slice none 0 0, .slice none 0 0, .slice none 0 0, .slice none 0 0]) ?_ 4 _ rfl
    refine blk_put (cs := #[.int .i64 0, .slice none 0 0, .slice none 0 0, .slice none 0 0, .slice none 0 0]) ?_ 3 _ rfl
    refine blk_put (cs := #[.int .i64 0, .slice none 0 0, .slice none 0 0, .slice none 0 0, .slice none 0 0]) ?_ 2 _ rfl
    refine blk_put (cs := #[.int .i64 0, .slice none 0 0, .slice none 0 0, .slice none 0 0, .slice none 0 0]) ?_ 1 _ rfl
    refine blk_put (cs := #[.int .i64 0, .slice none 0 0, .slice none 0 0, .slice none 0 0, .slice none 0 0]) ?_ 0 _ rfl
    exact BK.out) Try.underlying28 rfl (by kernel_rfl)) rfl ?_
  exact ⟨_, _, _, _, rfl, Kd.R_nil _ _ _ _ _, Kd.R_nil _ _ _ _ _, Kd.R_nil _ _ _ _ _, Kd.R_nil _ _ _ _ _, hset (hset (hset (hset (hset HB.out 0 _) 1 _) 2 _) 3 _) 4 _⟩
theorem readDisk_good2 (a0_0 : Int) (A0_1 : Option Addr) (c0_1 : Nat) (l0_1 : List ByteArray) (A0_2 : Option Addr) (c0_2 : Nat) (l0_2 : List ByteArray) (A0_3 : Option Addr) (c0_3 : Nat) (l0_3 : List Bool) (A0_4 : Option Addr) (c0_4 : Nat) (l0_4 : List (S54)) (w : World) (hr0_1 : Kd.C Kd.string w A0_1 l0_1.length l0_1) (hc0_1 : l0_1.length ≤ c0_1) (hr0_2 : Kd.C Kd.string w A0_2 l0_2.length l0_2) (hc0_2 : l0_2.length ≤ c0_2) (hr0_3 : Kd.C Kd.bool w A0_3 l0_3.length l0_3) (hc0_3 : l0_3.length ≤ c0_3) (hr0_4 : Kd.C k54 w A0_4 l0_4.length l0_4) (hc0_4 : l0_4.length ≤ c0_4) (hg : Good a0_0 l0_1 l0_2 l0_3 l0_4) :
    Calls Try.prog 52 #[.agg #[.int .i64 a0_0, .slice A0_1 l0_1.length c0_1, .slice A0_2 l0_2.length c0_2, .slice A0_3 l0_3.length c0_3, .slice A0_4 l0_4.length c0_4]] w fun e w' => ∃ g ns, e = .returned (.tuple #[.pointer (some ⟨g, 0, none⟩), .bool true]) ∧ w.heap.size ≤ g ∧ Drv w' g a0_0 l0_3 l0_1 l0_2 ns ∧ ns.map (·.2) = l0_4 ∧ Below w.heap.size w w' :=
  (readDisk_calls a0_0 A0_1 c0_1 l0_1 A0_2 c0_2 l0_2 A0_3 c0_3 l0_3 A0_4 c0_4 l0_4 w hr0_1 hc0_1 hr0_2 hc0_2 hr0_3 hc0_3 hr0_4 hc0_4).mono fun e w' h => by
    rcases h with h | ⟨_, g, ns, h1, h2, h3, h4, h5⟩
    · exact absurd hg h.1
    · exact ⟨g, ns, h1, h2, h3, h4, h5⟩
set_option maxHeartbeats 4000000 in
set_option maxRecDepth 100000 in
theorem changed_flush (a0_0 : Int) (A0_1 : Option Addr) (c0_1 : Nat) (l0_1 : List ByteArray) (A0_2 : Option Addr) (c0_2 : Nat) (l0_2 : List ByteArray) (A0_3 : Option Addr) (c0_3 : Nat) (l0_3 : List Bool) (A0_4 : Option Addr) (c0_4 : Nat) (l0_4 : List (S54))  (w : World) (hr0_1 : Kd.C Kd.string w A0_1 l0_1.length l0_1) (hc0_1 : l0_1.length ≤ c0_1) (hr0_2 : Kd.C Kd.string w A0_2 l0_2.length l0_2) (hc0_2 : l0_2.length ≤ c0_2) (hr0_3 : Kd.C Kd.bool w A0_3 l0_3.length l0_3) (hc0_3 : l0_3.length ≤ c0_3) (hr0_4 : Kd.C k54 w A0_4 l0_4.length l0_4) (hc0_4 : l0_4.length ≤ c0_4) (hg : Good a0_0 l0_1 l0_2 l0_3 l0_4) (sp2 : List Bool) (sl2 rg2 : List ByteArray) (ws2 : List S54) (hlen : ws2.length ≤ 40)
    (hcl : ∀ (W : World), Below w.heap.size w W → ∀ (g : Nat) (ns : List (Nat × Pt)), Drv W g a0_0 l0_3 l0_1 l0_2 ns → ns.map (·.2) = l0_4 → w.heap.size ≤ g → Calls Try.prog 77 #[.pointer (some ⟨g, 0, none⟩)] W fun e w' => ∃ ns2, e = .returned (.bool true) ∧ Drv w' g a0_0 sp2 sl2 rg2 ns2 ∧ ns2.map (·.2) = ws2 ∧ Below g W w') :
    Calls Try.prog 76 #[.agg #[.int .i64 a0_0, .slice A0_1 l0_1.length c0_1, .slice A0_2 l0_2.length c0_2, .slice A0_3 l0_3.length c0_3, .slice A0_4 l0_4.length c0_4], .func (.func 77) #[] #[]] w fun e w' => ∃ v1_ v2_ v3_ v4_ : Value, e = .returned (.agg #[.int .i64 a0_0, v1_, v2_, v3_, v4_]) ∧ Kd.R Kd.string 9 w' w.heap.size (fun k_ => some k_ ≠ (v2_ : Value).ownBlock) v1_ sl2 ∧ Kd.R Kd.string 9 w' w.heap.size (fun k_ => some k_ ≠ (v1_ : Value).ownBlock) v2_ rg2 ∧ Kd.R Kd.bool 4 w' w.heap.size (fun _ => True) v3_ sp2 ∧ Kd.R k54 54 w' w.heap.size (fun _ => True) v4_ ws2 ∧ Below w.heap.size w w' := by
  have hu28 := Try.underlying28
  have HGD := Az.mk (fun (W : World) (hb : Below w.heap.size w W) => readDisk_good2 a0_0 A0_1 c0_1 l0_1 A0_2 c0_2 l0_2 A0_3 c0_3 l0_3 A0_4 c0_4 l0_4 W (Kd.C_below hr0_1 hb) hc0_1 (Kd.C_below hr0_2 hb) hc0_2 (Kd.C_below hr0_3 hb) hc0_3 (Kd.C_below hr0_4 hb) hc0_4 hg)
  have HCL := Az.mk hcl
  have HLEN := Az.mk hlen
  have HB := Az.mk (Below.refl w.heap.size w)
  clear hr0_1 hc0_1 hr0_2 hc0_2 hr0_3 hc0_3 hr0_4 hc0_4 hg hcl hlen
  go_enter Try.func76, Try.ntmps76
  go_wp2_with (first | ((with_reducible refine zqg (N := 2) rfl ?_); refine zqb ?hg (N := 2) ?hd (cs := #[.int .i64 a0_0, .slice A0_1 l0_1.length c0_1, .slice A0_2 l0_2.length c0_2, .slice A0_3 l0_3.length c0_3, .slice A0_4 l0_4.length c0_4]) (t := 28) ?hr ?_; (case hd => rfl); (case hg => rfl); (case hr => first | (go_simp; done) | (go_simp; rfl)); intro gb hg w1 hbox hb; have n0_ := Az.mk (below_step (by repeat (first | (with_reducible first | exact HB.out | apply zq2 | apply zq1 | apply zqd) | exact HB.out)) hb); have BD := Az.mk hbox; clear HB; have HB := n0_; clear n0_ hb hbox hg; have hcd_0 : w1.cell? ⟨gb, 0, none⟩ = some (.int .i64 a0_0) := (zq4 BD.out 0).trans rfl; have hcd_1 : w1.cell? ⟨gb, 1, none⟩ = some (.slice A0_1 l0_1.length c0_1) := (zq4 BD.out 1).trans rfl; have hcd_2 : w1.cell? ⟨gb, 2, none⟩ = some (.slice A0_2 l0_2.length c0_2) := (zq4 BD.out 2).trans rfl; have hcd_3 : w1.cell? ⟨gb, 3, none⟩ = some (.slice A0_3 l0_3.length c0_3) := (zq4 BD.out 3).trans rfl; have hcd_4 : w1.cell? ⟨gb, 4, none⟩ = some (.slice A0_4 l0_4.length c0_4) := (zq4 BD.out 4).trans rfl) | ((with_reducible refine zqg (N := 4) rfl ?_); refine zqb ?hg (N := 4) ?hd (cs := #[.int .i64 0, .slice none 0 0, .slice none 0 0, .slice none 0 0, .slice none 0 0]) (t := 28) ?hr ?_; (case hd => rfl); (case hg => rfl); (case hr => first | (go_simp; done) | (go_simp; rfl)); intro gr hg w2 hbox hb; have n0_ := Az.mk (below_step (by repeat (first | (with_reducible first | exact HB.out | apply zq2 | apply zq1 | apply zqd) | exact HB.out)) hb); have BK := Az.mk hbox; have HGR : Az (w.heap.size ≤ gr) := ⟨by rw [hg]; exact (below_size (by repeat (first | (with_reducible first | exact HB.out | apply zq2 | apply zq1 | apply zqd) | exact HB.out)))⟩; have nd_ := Az.mk (blk_below (g := gb) (o := .cells #[.int .i64 a0_0, .slice A0_1 l0_1.length c0_1, .slice A0_2 l0_2.length c0_2, .slice A0_3 l0_3.length c0_3, .slice A0_4 l0_4.length c0_4] 28 (0, 0)) (by (with_reducible repeat (first | refine zq6 ?_ _ | refine zq8 ?_ | refine zq7 ?_ _)); exact BD.out) hb); clear HB BD; have HB := n0_; have BD := nd_; clear n0_ nd_ hb hbox hg; have hcd_0 : w2.cell? ⟨gb, 0, none⟩ = some (.int .i64 a0_0) := (zq4 BD.out 0).trans rfl; have hcd_1 : w2.cell? ⟨gb, 1, none⟩ = some (.slice A0_1 l0_1.length c0_1) := (zq4 BD.out 1).trans rfl; have hcd_2 : w2.cell? ⟨gb, 2, none⟩ = some (.slice A0_2 l0_2.length c0_2) := (zq4 BD.out 2).trans rfl; have hcd_3 : w2.cell? ⟨gb, 3, none⟩ = some (.slice A0_3 l0_3.length c0_3) := (zq4 BD.out 3).trans rfl; have hcd_4 : w2.cell? ⟨gb, 4, none⟩ = some (.slice A0_4 l0_4.length c0_4) := (zq4 BD.out 4).trans rfl) | (go_at_call 52; refine (HGD.out _ (by repeat (first | (with_reducible first | exact HB.out | apply zq2 | apply zq1 | apply zqd) | exact HB.out))).mono ?_; rintro e w9 ⟨gd, ns, rfl, hgd, hd, hns, hb⟩; have n0_ := Az.mk (below_step (by repeat (first | (with_reducible first | exact HB.out | apply zq2 | apply zq1 | apply zqd) | exact HB.out)) hb); have nk_ := Az.mk (blk_below (g := gr) (o := .cells #[.int .i64 0, .slice none 0 0, .slice none 0 0, .slice none 0 0, .slice none 0 0] 28 (0, 0)) (by (with_reducible repeat (first | refine zq6 ?_ _ | refine zq8 ?_ | refine zq7 ?_ _)); exact BK.out) hb); have HRD : Az (gr < gd) := ⟨Nat.lt_of_lt_of_le (blk_lt (by (with_reducible repeat (first | refine zq6 ?_ _ | refine zq8 ?_ | refine zq7 ?_ _)); exact BK.out)) hgd⟩; have HWD : Az (w.heap.size ≤ gd) := ⟨Nat.le_trans (below_size (by repeat (first | (with_reducible first | exact HB.out | apply zq2 | apply zq1 | apply zqd) | exact HB.out))) hgd⟩; have HD := Az.mk hd; have HNS := Az.mk hns; clear HB BK; have HB := n0_; have BK := nk_; clear n0_ nk_ hb hd hns hgd) | (go_at_call 77; refine (HCL.out _ (by repeat (first | (with_reducible first | exact HB.out | apply zq2 | apply zq1 | apply zqd) | exact HB.out)) gd ns (by (with_reducible repeat (first | refine drv_drewN ?_ _ | refine drv_drew ?_)); exact HD.out) HNS.out HWD.out).mono ?_; rintro e w10 ⟨ns2, rfl, hd, hns2_, hb⟩; have hns := hns2_; clear hns2_; have hwg := HGR.out; have n0_ := Az.mk (Below.trans (by repeat (first | (with_reducible first | exact HB.out | apply zq2 | apply zq1 | apply zqd) | exact HB.out)) (hb.mono (by have h1 := HGR.out; have h2 := HRD.out; omega))); have nk_ : Az (w10.heap[gr]? = some (.cells #[.int .i64 0, .slice none 0 0, .slice none 0 0, .slice none 0 0, .slice none 0 0] 28 (0, 0))) := ⟨(hb.block gr HRD.out).trans (by (with_reducible repeat (first | refine zq6 ?_ _ | refine zq8 ?_ | refine zq7 ?_ _)); exact BK.out)⟩; have nd_ := Az.mk hd; have HNS2 := Az.mk hns; clear HB BK HD HNS; have HB := n0_; have BK := nk_; have HD := nd_; clear n0_ nk_ nd_ hd hns hb hwg) | (go_at_call 50; refine (disk_calls gd a0_0 sp2 sl2 rg2 ns2 _ (by (with_reducible repeat (first | refine drv_drewN ?_ _ | refine drv_drew ?_)); exact HD.out) (by have h1 := HLEN.out; have h2 := congrArg List.length HNS2.out; rw [List.length_map] at h2; omega)).mono ?_; rintro e w12 ⟨v1, v2, v3, v4, rfl, ho1, ho2, ho3, ho4, hb⟩; rw [HNS2.out] at ho4; obtain ⟨A1, c1, rfl⟩ := Kd.R_slice ho1; obtain ⟨A2, c2, rfl⟩ := Kd.R_slice ho2; obtain ⟨A3, c3, rfl⟩ := Kd.R_slice ho3; obtain ⟨A4, c4, rfl⟩ := Kd.R_slice ho4; have n0_ := Az.mk (below_step (by repeat (first | (with_reducible first | exact HB.out | apply zq2 | apply zq1 | apply zqd) | exact HB.out)) hb); have n1_ := Az.mk (blk_below (g := gr) (o := .cells #[.int .i64 0, .slice none 0 0, .slice none 0 0, .slice none 0 0, .slice none 0 0] 28 (0, 0)) (by (with_reducible repeat (first | refine zq6 ?_ _ | refine zq8 ?_ | refine zq7 ?_ _)); exact BK.out) hb); have HG5 : Az (gr < _) := ⟨blk_lt (by (with_reducible repeat (first | refine zq6 ?_ _ | refine zq8 ?_ | refine zq7 ?_ _)); exact BK.out)⟩; have HS5 : Az (w.heap.size ≤ _) := ⟨below_size (by repeat (first | (with_reducible first | exact HB.out | apply zq2 | apply zq1 | apply zqd) | exact HB.out))⟩; have HO1 := Az.mk ho1; have HO2 := Az.mk ho2; have HO3 := Az.mk ho3; have HO4 := Az.mk ho4; clear HB BK; have HB := n0_; have BK := n1_; clear n0_ n1_ ho1 ho2 ho3 ho4 hb; have hcz_0 : w12.cell? ⟨gr, 0, none⟩ = some (.int .i64 0) := (zq4 BK.out 0).trans rfl; have hcz_1 : w12.cell? ⟨gr, 1, none⟩ = some (.slice none 0 0) := (zq4 BK.out 1).trans rfl; have hcz_2 : w12.cell? ⟨gr, 2, none⟩ = some (.slice none 0 0) := (zq4 BK.out 2).trans rfl; have hcz_3 : w12.cell? ⟨gr, 3, none⟩ = some (.slice none 0 0) := (zq4 BK.out 3).trans rfl; have hcz_4 : w12.cell? ⟨gr, 4, none⟩ = some (.slice none 0 0) := (zq4 BK.out 4).trans rfl; have hfz_0 := zq5 BK.out 0; have hfz_1 := zq5 BK.out 1; have hfz_2 := zq5 BK.out 2; have hfz_3 := zq5 BK.out 3; have hfz_4 := zq5 BK.out 4))
  have hset : ∀ {W : World} (h : Below w.heap.size w W) (j : Nat) (u : Value), Below w.heap.size w (W.setCell ⟨gr, j, none⟩ u) := fun h j u => zq3 h HGR.out
  refine bodyPost_ret (results_cell_row rfl _ _ gr 28 #[.int .i64 a0_0, .slice A1 sl2.length c1, .slice A2 rg2.length c2, .slice A3 sp2.length c3, .slice A4 ws2.length c4] (0, 0) _ rfl (by
    refine blk_put (cs := #[.int .i64 a0_0, .slice A1 sl2.length c1, .slice A2 rg2.length c2, .slice A3 sp2.length c3, .slice none 0 0]) ?_ 4 _ rfl
    refine blk_put (cs := #[.int .i64 a0_0, .slice A1 sl2.length c1, .slice A2 rg2.length c2, .slice none 0 0, .slice none 0 0]) ?_ 3 _ rfl
    refine blk_put (cs := #[.int .i64 a0_0, .slice A1 sl2.length c1, .slice none 0 0, .slice none 0 0, .slice none 0 0]) ?_ 2 _ rfl
    refine blk_put (cs := #[.int .i64 a0_0, .slice none 0 0, .slice none 0 0, .slice none 0 0, .slice none 0 0]) ?_ 1 _ rfl
    refine blk_put (cs := #[.int .i64 0, .slice none 0 0, .slice none 0 0, .slice none 0 0, .slice none 0 0]) ?_ 0 _ rfl
    exact BK.out) Try.underlying28 rfl (by kernel_rfl)) rfl ?_
  exact ⟨_, _, _, _, rfl, Kd.R_lower (R_setOwn (R_setOwn (R_setOwn (R_setOwn (R_setOwn HO1.out HG5.out 0 _) HG5.out 1 _) HG5.out 2 _) HG5.out 3 _) HG5.out 4 _) HS5.out,
    Kd.R_lower (R_setOwn (R_setOwn (R_setOwn (R_setOwn (R_setOwn HO2.out HG5.out 0 _) HG5.out 1 _) HG5.out 2 _) HG5.out 3 _) HG5.out 4 _) HS5.out,
    Kd.R_lower (R_setOwn (R_setOwn (R_setOwn (R_setOwn (R_setOwn HO3.out HG5.out 0 _) HG5.out 1 _) HG5.out 2 _) HG5.out 3 _) HG5.out 4 _) HS5.out,
    Kd.R_lower (R_setOwn (R_setOwn (R_setOwn (R_setOwn (R_setOwn HO4.out HG5.out 0 _) HG5.out 1 _) HG5.out 2 _) HG5.out 3 _) HG5.out 4 _) HS5.out,
    hset (hset (hset (hset (hset HB.out 0 _) 1 _) 2 _) 3 _) 4 _⟩
set_option maxHeartbeats 4000000 in
set_option maxRecDepth 100000 in
theorem changed_put (a0_0 : Int) (A0_1 : Option Addr) (c0_1 : Nat) (l0_1 : List ByteArray) (A0_2 : Option Addr) (c0_2 : Nat) (l0_2 : List ByteArray) (A0_3 : Option Addr) (c0_3 : Nat) (l0_3 : List Bool) (A0_4 : Option Addr) (c0_4 : Nat) (l0_4 : List (S54)) (cp : Value) (w : World) (hr0_1 : Kd.C Kd.string w A0_1 l0_1.length l0_1) (hc0_1 : l0_1.length ≤ c0_1) (hr0_2 : Kd.C Kd.string w A0_2 l0_2.length l0_2) (hc0_2 : l0_2.length ≤ c0_2) (hr0_3 : Kd.C Kd.bool w A0_3 l0_3.length l0_3) (hc0_3 : l0_3.length ≤ c0_3) (hr0_4 : Kd.C k54 w A0_4 l0_4.length l0_4) (hc0_4 : l0_4.length ≤ c0_4) (hg : Good a0_0 l0_1 l0_2 l0_3 l0_4) (sp2 : List Bool) (sl2 rg2 : List ByteArray) (ws2 : List S54) (hlen : ws2.length ≤ 40)
    (hcl : ∀ (W : World), Below w.heap.size w W → ∀ (g : Nat) (ns : List (Nat × Pt)), Drv W g a0_0 l0_3 l0_1 l0_2 ns → ns.map (·.2) = l0_4 → w.heap.size ≤ g → Calls Try.prog 82 #[.pointer (some ⟨g, 0, none⟩), cp] W fun e w' => ∃ ns2, e = .returned (.bool true) ∧ Drv w' g a0_0 sp2 sl2 rg2 ns2 ∧ ns2.map (·.2) = ws2 ∧ Below g W w') :
    Calls Try.prog 76 #[.agg #[.int .i64 a0_0, .slice A0_1 l0_1.length c0_1, .slice A0_2 l0_2.length c0_2, .slice A0_3 l0_3.length c0_3, .slice A0_4 l0_4.length c0_4], .func (.func 82) #[] #[cp]] w fun e w' => ∃ v1_ v2_ v3_ v4_ : Value, e = .returned (.agg #[.int .i64 a0_0, v1_, v2_, v3_, v4_]) ∧ Kd.R Kd.string 9 w' w.heap.size (fun k_ => some k_ ≠ (v2_ : Value).ownBlock) v1_ sl2 ∧ Kd.R Kd.string 9 w' w.heap.size (fun k_ => some k_ ≠ (v1_ : Value).ownBlock) v2_ rg2 ∧ Kd.R Kd.bool 4 w' w.heap.size (fun _ => True) v3_ sp2 ∧ Kd.R k54 54 w' w.heap.size (fun _ => True) v4_ ws2 ∧ Below w.heap.size w w' := by
  have hu28 := Try.underlying28
  have HGD := Az.mk (fun (W : World) (hb : Below w.heap.size w W) => readDisk_good2 a0_0 A0_1 c0_1 l0_1 A0_2 c0_2 l0_2 A0_3 c0_3 l0_3 A0_4 c0_4 l0_4 W (Kd.C_below hr0_1 hb) hc0_1 (Kd.C_below hr0_2 hb) hc0_2 (Kd.C_below hr0_3 hb) hc0_3 (Kd.C_below hr0_4 hb) hc0_4 hg)
  have HCL := Az.mk hcl
  have HLEN := Az.mk hlen
  have HB := Az.mk (Below.refl w.heap.size w)
  clear hr0_1 hc0_1 hr0_2 hc0_2 hr0_3 hc0_3 hr0_4 hc0_4 hg hcl hlen
  go_enter Try.func76, Try.ntmps76
  go_wp2_with (first | ((with_reducible refine zqg (N := 2) rfl ?_); refine zqb ?hg (N := 2) ?hd (cs := #[.int .i64 a0_0, .slice A0_1 l0_1.length c0_1, .slice A0_2 l0_2.length c0_2, .slice A0_3 l0_3.length c0_3, .slice A0_4 l0_4.length c0_4]) (t := 28) ?hr ?_; (case hd => rfl); (case hg => rfl); (case hr => first | (go_simp; done) | (go_simp; rfl)); intro gb hg w1 hbox hb; have n0_ := Az.mk (below_step (by repeat (first | (with_reducible first | exact HB.out | apply zq2 | apply zq1 | apply zqd) | exact HB.out)) hb); have BD := Az.mk hbox; clear HB; have HB := n0_; clear n0_ hb hbox hg; have hcd_0 : w1.cell? ⟨gb, 0, none⟩ = some (.int .i64 a0_0) := (zq4 BD.out 0).trans rfl; have hcd_1 : w1.cell? ⟨gb, 1, none⟩ = some (.slice A0_1 l0_1.length c0_1) := (zq4 BD.out 1).trans rfl; have hcd_2 : w1.cell? ⟨gb, 2, none⟩ = some (.slice A0_2 l0_2.length c0_2) := (zq4 BD.out 2).trans rfl; have hcd_3 : w1.cell? ⟨gb, 3, none⟩ = some (.slice A0_3 l0_3.length c0_3) := (zq4 BD.out 3).trans rfl; have hcd_4 : w1.cell? ⟨gb, 4, none⟩ = some (.slice A0_4 l0_4.length c0_4) := (zq4 BD.out 4).trans rfl) | ((with_reducible refine zqg (N := 4) rfl ?_); refine zqb ?hg (N := 4) ?hd (cs := #[.int .i64 0, .slice none 0 0, .slice none 0 0, .slice none 0 0, .slice none 0 0]) (t := 28) ?hr ?_; (case hd => rfl); (case hg => rfl); (case hr => first | (go_simp; done) | (go_simp; rfl)); intro gr hg w2 hbox hb; have n0_ := Az.mk (below_step (by repeat (first | (with_reducible first | exact HB.out | apply zq2 | apply zq1 | apply zqd) | exact HB.out)) hb); have BK := Az.mk hbox; have HGR : Az (w.heap.size ≤ gr) := ⟨by rw [hg]; exact (below_size (by repeat (first | (with_reducible first | exact HB.out | apply zq2 | apply zq1 | apply zqd) | exact HB.out)))⟩; have nd_ := Az.mk (blk_below (g := gb) (o := .cells #[.int .i64 a0_0, .slice A0_1 l0_1.length c0_1, .slice A0_2 l0_2.length c0_2, .slice A0_3 l0_3.length c0_3, .slice A0_4 l0_4.length c0_4] 28 (0, 0)) (by (with_reducible repeat (first | refine zq6 ?_ _ | refine zq8 ?_ | refine zq7 ?_ _)); exact BD.out) hb); clear HB BD; have HB := n0_; have BD := nd_; clear n0_ nd_ hb hbox hg; have hcd_0 : w2.cell? ⟨gb, 0, none⟩ = some (.int .i64 a0_0) := (zq4 BD.out 0).trans rfl; have hcd_1 : w2.cell? ⟨gb, 1, none⟩ = some (.slice A0_1 l0_1.length c0_1) := (zq4 BD.out 1).trans rfl; have hcd_2 : w2.cell? ⟨gb, 2, none⟩ = some (.slice A0_2 l0_2.length c0_2) := (zq4 BD.out 2).trans rfl; have hcd_3 : w2.cell? ⟨gb, 3, none⟩ = some (.slice A0_3 l0_3.length c0_3) := (zq4 BD.out 3).trans rfl; have hcd_4 : w2.cell? ⟨gb, 4, none⟩ = some (.slice A0_4 l0_4.length c0_4) := (zq4 BD.out 4).trans rfl) | (go_at_call 52; refine (HGD.out _ (by repeat (first | (with_reducible first | exact HB.out | apply zq2 | apply zq1 | apply zqd) | exact HB.out))).mono ?_; rintro e w9 ⟨gd, ns, rfl, hgd, hd, hns, hb⟩; have n0_ := Az.mk (below_step (by repeat (first | (with_reducible first | exact HB.out | apply zq2 | apply zq1 | apply zqd) | exact HB.out)) hb); have nk_ := Az.mk (blk_below (g := gr) (o := .cells #[.int .i64 0, .slice none 0 0, .slice none 0 0, .slice none 0 0, .slice none 0 0] 28 (0, 0)) (by (with_reducible repeat (first | refine zq6 ?_ _ | refine zq8 ?_ | refine zq7 ?_ _)); exact BK.out) hb); have HRD : Az (gr < gd) := ⟨Nat.lt_of_lt_of_le (blk_lt (by (with_reducible repeat (first | refine zq6 ?_ _ | refine zq8 ?_ | refine zq7 ?_ _)); exact BK.out)) hgd⟩; have HWD : Az (w.heap.size ≤ gd) := ⟨Nat.le_trans (below_size (by repeat (first | (with_reducible first | exact HB.out | apply zq2 | apply zq1 | apply zqd) | exact HB.out))) hgd⟩; have HD := Az.mk hd; have HNS := Az.mk hns; clear HB BK; have HB := n0_; have BK := nk_; clear n0_ nk_ hb hd hns hgd) | (go_at_call 82; refine (HCL.out _ (by repeat (first | (with_reducible first | exact HB.out | apply zq2 | apply zq1 | apply zqd) | exact HB.out)) gd ns (by (with_reducible repeat (first | refine drv_drewN ?_ _ | refine drv_drew ?_)); exact HD.out) HNS.out HWD.out).mono ?_; rintro e w10 ⟨ns2, rfl, hd, hns2_, hb⟩; have hns := hns2_; clear hns2_; have hwg := HGR.out; have n0_ := Az.mk (Below.trans (by repeat (first | (with_reducible first | exact HB.out | apply zq2 | apply zq1 | apply zqd) | exact HB.out)) (hb.mono (by have h1 := HGR.out; have h2 := HRD.out; omega))); have nk_ : Az (w10.heap[gr]? = some (.cells #[.int .i64 0, .slice none 0 0, .slice none 0 0, .slice none 0 0, .slice none 0 0] 28 (0, 0))) := ⟨(hb.block gr HRD.out).trans (by (with_reducible repeat (first | refine zq6 ?_ _ | refine zq8 ?_ | refine zq7 ?_ _)); exact BK.out)⟩; have nd_ := Az.mk hd; have HNS2 := Az.mk hns; clear HB BK HD HNS; have HB := n0_; have BK := nk_; have HD := nd_; clear n0_ nk_ nd_ hd hns hb hwg) | (go_at_call 50; refine (disk_calls gd a0_0 sp2 sl2 rg2 ns2 _ (by (with_reducible repeat (first | refine drv_drewN ?_ _ | refine drv_drew ?_)); exact HD.out) (by have h1 := HLEN.out; have h2 := congrArg List.length HNS2.out; rw [List.length_map] at h2; omega)).mono ?_; rintro e w12 ⟨v1, v2, v3, v4, rfl, ho1, ho2, ho3, ho4, hb⟩; rw [HNS2.out] at ho4; obtain ⟨A1, c1, rfl⟩ := Kd.R_slice ho1; obtain ⟨A2, c2, rfl⟩ := Kd.R_slice ho2; obtain ⟨A3, c3, rfl⟩ := Kd.R_slice ho3; obtain ⟨A4, c4, rfl⟩ := Kd.R_slice ho4; have n0_ := Az.mk (below_step (by repeat (first | (with_reducible first | exact HB.out | apply zq2 | apply zq1 | apply zqd) | exact HB.out)) hb); have n1_ := Az.mk (blk_below (g := gr) (o := .cells #[.int .i64 0, .slice none 0 0, .slice none 0 0, .slice none 0 0, .slice none 0 0] 28 (0, 0)) (by (with_reducible repeat (first | refine zq6 ?_ _ | refine zq8 ?_ | refine zq7 ?_ _)); exact BK.out) hb); have HG5 : Az (gr < _) := ⟨blk_lt (by (with_reducible repeat (first | refine zq6 ?_ _ | refine zq8 ?_ | refine zq7 ?_ _)); exact BK.out)⟩; have HS5 : Az (w.heap.size ≤ _) := ⟨below_size (by repeat (first | (with_reducible first | exact HB.out | apply zq2 | apply zq1 | apply zqd) | exact HB.out))⟩; have HO1 := Az.mk ho1; have HO2 := Az.mk ho2; have HO3 := Az.mk ho3; have HO4 := Az.mk ho4; clear HB BK; have HB := n0_; have BK := n1_; clear n0_ n1_ ho1 ho2 ho3 ho4 hb; have hcz_0 : w12.cell? ⟨gr, 0, none⟩ = some (.int .i64 0) := (zq4 BK.out 0).trans rfl; have hcz_1 : w12.cell? ⟨gr, 1, none⟩ = some (.slice none 0 0) := (zq4 BK.out 1).trans rfl; have hcz_2 : w12.cell? ⟨gr, 2, none⟩ = some (.slice none 0 0) := (zq4 BK.out 2).trans rfl; have hcz_3 : w12.cell? ⟨gr, 3, none⟩ = some (.slice none 0 0) := (zq4 BK.out 3).trans rfl; have hcz_4 : w12.cell? ⟨gr, 4, none⟩ = some (.slice none 0 0) := (zq4 BK.out 4).trans rfl; have hfz_0 := zq5 BK.out 0; have hfz_1 := zq5 BK.out 1; have hfz_2 := zq5 BK.out 2; have hfz_3 := zq5 BK.out 3; have hfz_4 := zq5 BK.out 4))
  have hset : ∀ {W : World} (h : Below w.heap.size w W) (j : Nat) (u : Value), Below w.heap.size w (W.setCell ⟨gr, j, none⟩ u) := fun h j u => zq3 h HGR.out
  refine bodyPost_ret (results_cell_row rfl _ _ gr 28 #[.int .i64 a0_0, .slice A1 sl2.length c1, .slice A2 rg2.length c2, .slice A3 sp2.length c3, .slice A4 ws2.length c4] (0, 0) _ rfl (by
    refine blk_put (cs := #[.int .i64 a0_0, .slice A1 sl2.length c1, .slice A2 rg2.length c2, .slice A3 sp2.length c3, .slice none 0 0]) ?_ 4 _ rfl
    refine blk_put (cs := #[.int .i64 a0_0, .slice A1 sl2.length c1, .slice A2 rg2.length c2, .slice none 0 0, .slice none 0 0]) ?_ 3 _ rfl
    refine blk_put (cs := #[.int .i64 a0_0, .slice A1 sl2.length c1, .slice none 0 0, .slice none 0 0, .slice none 0 0]) ?_ 2 _ rfl
    refine blk_put (cs := #[.int .i64 a0_0, .slice none 0 0, .slice none 0 0, .slice none 0 0, .slice none 0 0]) ?_ 1 _ rfl
    refine blk_put (cs := #[.int .i64 0, .slice none 0 0, .slice none 0 0, .slice none 0 0, .slice none 0 0]) ?_ 0 _ rfl
    exact BK.out) Try.underlying28 rfl (by kernel_rfl)) rfl ?_
  exact ⟨_, _, _, _, rfl, Kd.R_lower (R_setOwn (R_setOwn (R_setOwn (R_setOwn (R_setOwn HO1.out HG5.out 0 _) HG5.out 1 _) HG5.out 2 _) HG5.out 3 _) HG5.out 4 _) HS5.out,
    Kd.R_lower (R_setOwn (R_setOwn (R_setOwn (R_setOwn (R_setOwn HO2.out HG5.out 0 _) HG5.out 1 _) HG5.out 2 _) HG5.out 3 _) HG5.out 4 _) HS5.out,
    Kd.R_lower (R_setOwn (R_setOwn (R_setOwn (R_setOwn (R_setOwn HO3.out HG5.out 0 _) HG5.out 1 _) HG5.out 2 _) HG5.out 3 _) HG5.out 4 _) HS5.out,
    Kd.R_lower (R_setOwn (R_setOwn (R_setOwn (R_setOwn (R_setOwn HO4.out HG5.out 0 _) HG5.out 1 _) HG5.out 2 _) HG5.out 3 _) HG5.out 4 _) HS5.out,
    hset (hset (hset (hset (hset HB.out 0 _) 1 _) 2 _) 3 _) 4 _⟩
set_option maxHeartbeats 4000000 in
set_option maxRecDepth 100000 in
theorem changed_put_no (a0_0 : Int) (A0_1 : Option Addr) (c0_1 : Nat) (l0_1 : List ByteArray) (A0_2 : Option Addr) (c0_2 : Nat) (l0_2 : List ByteArray) (A0_3 : Option Addr) (c0_3 : Nat) (l0_3 : List Bool) (A0_4 : Option Addr) (c0_4 : Nat) (l0_4 : List (S54)) (cp : Value) (w : World) (hr0_1 : Kd.C Kd.string w A0_1 l0_1.length l0_1) (hc0_1 : l0_1.length ≤ c0_1) (hr0_2 : Kd.C Kd.string w A0_2 l0_2.length l0_2) (hc0_2 : l0_2.length ≤ c0_2) (hr0_3 : Kd.C Kd.bool w A0_3 l0_3.length l0_3) (hc0_3 : l0_3.length ≤ c0_3) (hr0_4 : Kd.C k54 w A0_4 l0_4.length l0_4) (hc0_4 : l0_4.length ≤ c0_4) (hg : Good a0_0 l0_1 l0_2 l0_3 l0_4)
    (hcl : ∀ (W : World), Below w.heap.size w W → ∀ (g : Nat) (ns : List (Nat × Pt)), Drv W g a0_0 l0_3 l0_1 l0_2 ns → ns.map (·.2) = l0_4 → w.heap.size ≤ g → Calls Try.prog 82 #[.pointer (some ⟨g, 0, none⟩), cp] W fun e w' => e = .returned (.bool false) ∧ Below g W w') :
    Calls Try.prog 76 #[.agg #[.int .i64 a0_0, .slice A0_1 l0_1.length c0_1, .slice A0_2 l0_2.length c0_2, .slice A0_3 l0_3.length c0_3, .slice A0_4 l0_4.length c0_4], .func (.func 82) #[] #[cp]] w fun e w' => ∃ v1_ v2_ v3_ v4_ : Value, e = .returned (.agg #[.int .i64 0, v1_, v2_, v3_, v4_]) ∧ Kd.R Kd.string 9 w' w.heap.size (fun k_ => some k_ ≠ (v2_ : Value).ownBlock) v1_ ([] : List ByteArray) ∧ Kd.R Kd.string 9 w' w.heap.size (fun k_ => some k_ ≠ (v1_ : Value).ownBlock) v2_ ([] : List ByteArray) ∧ Kd.R Kd.bool 4 w' w.heap.size (fun _ => True) v3_ ([] : List Bool) ∧ Kd.R k54 54 w' w.heap.size (fun _ => True) v4_ ([] : List S54) ∧ Below w.heap.size w w' := by
  have hu28 := Try.underlying28
  have HGD := Az.mk (fun (W : World) (hb : Below w.heap.size w W) => readDisk_good2 a0_0 A0_1 c0_1 l0_1 A0_2 c0_2 l0_2 A0_3 c0_3 l0_3 A0_4 c0_4 l0_4 W (Kd.C_below hr0_1 hb) hc0_1 (Kd.C_below hr0_2 hb) hc0_2 (Kd.C_below hr0_3 hb) hc0_3 (Kd.C_below hr0_4 hb) hc0_4 hg)
  have HCL := Az.mk hcl
  have HB := Az.mk (Below.refl w.heap.size w)
  clear hr0_1 hc0_1 hr0_2 hc0_2 hr0_3 hc0_3 hr0_4 hc0_4 hg hcl
  go_enter Try.func76, Try.ntmps76
  go_wp2_with (first | ((with_reducible refine zqg (N := 2) rfl ?_); refine zqb ?hg (N := 2) ?hd (cs := #[.int .i64 a0_0, .slice A0_1 l0_1.length c0_1, .slice A0_2 l0_2.length c0_2, .slice A0_3 l0_3.length c0_3, .slice A0_4 l0_4.length c0_4]) (t := 28) ?hr ?_; (case hd => rfl); (case hg => rfl); (case hr => first | (go_simp; done) | (go_simp; rfl)); intro gb hg w1 hbox hb; have n0_ := Az.mk (below_step (by repeat (first | (with_reducible first | exact HB.out | apply zq2 | apply zq1 | apply zqd) | exact HB.out)) hb); have BD := Az.mk hbox; clear HB; have HB := n0_; clear n0_ hb hbox hg; have hcd_0 : w1.cell? ⟨gb, 0, none⟩ = some (.int .i64 a0_0) := (zq4 BD.out 0).trans rfl; have hcd_1 : w1.cell? ⟨gb, 1, none⟩ = some (.slice A0_1 l0_1.length c0_1) := (zq4 BD.out 1).trans rfl; have hcd_2 : w1.cell? ⟨gb, 2, none⟩ = some (.slice A0_2 l0_2.length c0_2) := (zq4 BD.out 2).trans rfl; have hcd_3 : w1.cell? ⟨gb, 3, none⟩ = some (.slice A0_3 l0_3.length c0_3) := (zq4 BD.out 3).trans rfl; have hcd_4 : w1.cell? ⟨gb, 4, none⟩ = some (.slice A0_4 l0_4.length c0_4) := (zq4 BD.out 4).trans rfl) | ((with_reducible refine zqg (N := 4) rfl ?_); refine zqb ?hg (N := 4) ?hd (cs := #[.int .i64 0, .slice none 0 0, .slice none 0 0, .slice none 0 0, .slice none 0 0]) (t := 28) ?hr ?_; (case hd => rfl); (case hg => rfl); (case hr => first | (go_simp; done) | (go_simp; rfl)); intro gr hg w2 hbox hb; have n0_ := Az.mk (below_step (by repeat (first | (with_reducible first | exact HB.out | apply zq2 | apply zq1 | apply zqd) | exact HB.out)) hb); have BK := Az.mk hbox; have HGR : Az (w.heap.size ≤ gr) := ⟨by rw [hg]; exact (below_size (by repeat (first | (with_reducible first | exact HB.out | apply zq2 | apply zq1 | apply zqd) | exact HB.out)))⟩; have nd_ := Az.mk (blk_below (g := gb) (o := .cells #[.int .i64 a0_0, .slice A0_1 l0_1.length c0_1, .slice A0_2 l0_2.length c0_2, .slice A0_3 l0_3.length c0_3, .slice A0_4 l0_4.length c0_4] 28 (0, 0)) (by (with_reducible repeat (first | refine zq6 ?_ _ | refine zq8 ?_ | refine zq7 ?_ _)); exact BD.out) hb); clear HB BD; have HB := n0_; have BD := nd_; clear n0_ nd_ hb hbox hg; have hcd_0 : w2.cell? ⟨gb, 0, none⟩ = some (.int .i64 a0_0) := (zq4 BD.out 0).trans rfl; have hcd_1 : w2.cell? ⟨gb, 1, none⟩ = some (.slice A0_1 l0_1.length c0_1) := (zq4 BD.out 1).trans rfl; have hcd_2 : w2.cell? ⟨gb, 2, none⟩ = some (.slice A0_2 l0_2.length c0_2) := (zq4 BD.out 2).trans rfl; have hcd_3 : w2.cell? ⟨gb, 3, none⟩ = some (.slice A0_3 l0_3.length c0_3) := (zq4 BD.out 3).trans rfl; have hcd_4 : w2.cell? ⟨gb, 4, none⟩ = some (.slice A0_4 l0_4.length c0_4) := (zq4 BD.out 4).trans rfl) | (go_at_call 52; refine (HGD.out _ (by repeat (first | (with_reducible first | exact HB.out | apply zq2 | apply zq1 | apply zqd) | exact HB.out))).mono ?_; rintro e w9 ⟨gd, ns, rfl, hgd, hd, hns, hb⟩; have n0_ := Az.mk (below_step (by repeat (first | (with_reducible first | exact HB.out | apply zq2 | apply zq1 | apply zqd) | exact HB.out)) hb); have nk_ := Az.mk (blk_below (g := gr) (o := .cells #[.int .i64 0, .slice none 0 0, .slice none 0 0, .slice none 0 0, .slice none 0 0] 28 (0, 0)) (by (with_reducible repeat (first | refine zq6 ?_ _ | refine zq8 ?_ | refine zq7 ?_ _)); exact BK.out) hb); have HRD : Az (gr < gd) := ⟨Nat.lt_of_lt_of_le (blk_lt (by (with_reducible repeat (first | refine zq6 ?_ _ | refine zq8 ?_ | refine zq7 ?_ _)); exact BK.out)) hgd⟩; have HWD : Az (w.heap.size ≤ gd) := ⟨Nat.le_trans (below_size (by repeat (first | (with_reducible first | exact HB.out | apply zq2 | apply zq1 | apply zqd) | exact HB.out))) hgd⟩; have HD := Az.mk hd; have HNS := Az.mk hns; clear HB BK; have HB := n0_; have BK := nk_; clear n0_ nk_ hb hd hns hgd) | (go_at_call 82; refine (HCL.out _ (by repeat (first | (with_reducible first | exact HB.out | apply zq2 | apply zq1 | apply zqd) | exact HB.out)) gd ns (by (with_reducible repeat (first | refine drv_drewN ?_ _ | refine drv_drew ?_)); exact HD.out) HNS.out HWD.out).mono ?_; rintro e w10 ⟨rfl, hb⟩; have n0_ := Az.mk (Below.trans (by repeat (first | (with_reducible first | exact HB.out | apply zq2 | apply zq1 | apply zqd) | exact HB.out)) (hb.mono (by have h1 := HGR.out; have h2 := HRD.out; omega))); have nk_ : Az (w10.heap[gr]? = some (.cells #[.int .i64 0, .slice none 0 0, .slice none 0 0, .slice none 0 0, .slice none 0 0] 28 (0, 0))) := ⟨(hb.block gr HRD.out).trans (by (with_reducible repeat (first | refine zq6 ?_ _ | refine zq8 ?_ | refine zq7 ?_ _)); exact BK.out)⟩; clear HB BK HD HNS; have HB := n0_; have BK := nk_; clear n0_ nk_ hb; have hcz_0 : w10.cell? ⟨gr, 0, none⟩ = some (.int .i64 0) := (zq4 BK.out 0).trans rfl; have hcz_1 : w10.cell? ⟨gr, 1, none⟩ = some (.slice none 0 0) := (zq4 BK.out 1).trans rfl; have hcz_2 : w10.cell? ⟨gr, 2, none⟩ = some (.slice none 0 0) := (zq4 BK.out 2).trans rfl; have hcz_3 : w10.cell? ⟨gr, 3, none⟩ = some (.slice none 0 0) := (zq4 BK.out 3).trans rfl; have hcz_4 : w10.cell? ⟨gr, 4, none⟩ = some (.slice none 0 0) := (zq4 BK.out 4).trans rfl; have hfz_0 := zq5 BK.out 0; have hfz_1 := zq5 BK.out 1; have hfz_2 := zq5 BK.out 2; have hfz_3 := zq5 BK.out 3; have hfz_4 := zq5 BK.out 4))
  have hset : ∀ {W : World} (h : Below w.heap.size w W) (j : Nat) (u : Value), Below w.heap.size w (W.setCell ⟨gr, j, none⟩ u) := fun h j u => zq3 h HGR.out
  refine bodyPost_ret (results_cell_row rfl _ _ gr 28 #[.int .i64 0, .slice none 0 0, .slice none 0 0, .slice none 0 0, .slice none 0 0] (0, 0) _ rfl (by
    refine blk_put (cs := #[.int .i64 0, .slice none 0 0, .slice none 0 0, .slice none 0 0, .slice none 0 0]) ?_ 4 _ rfl
    refine blk_put (cs := #[.int .i64 0, .slice none 0 0, .slice none 0 0, .slice none 0 0, .slice none 0 0]) ?_ 3 _ rfl
    refine blk_put (cs := #[.int .i64 0, .slice none 0 0, .slice none 0 0, .slice none 0 0, .slice none 0 0]) ?_ 2 _ rfl
    refine blk_put (cs := #[.int .i64 0, .slice none 0 0, .slice none 0 0, .slice none 0 0, .slice none 0 0]) ?_ 1 _ rfl
    refine blk_put (cs := #[.int .i64 0, .slice none 0 0, .slice none 0 0, .slice none 0 0, .slice none 0 0]) ?_ 0 _ rfl
    exact BK.out) Try.underlying28 rfl (by kernel_rfl)) rfl ?_
  exact ⟨_, _, _, _, rfl, Kd.R_nil _ _ _ _ _, Kd.R_nil _ _ _ _ _, Kd.R_nil _ _ _ _ _, Kd.R_nil _ _ _ _ _, hset (hset (hset (hset (hset HB.out 0 _) 1 _) 2 _) 3 _) 4 _⟩
end Go.Proofs.Ytkgpnloghmbmlaa.Print
namespace Go.Proofs.Ytkgpnloghmbmlaa.Print
open Go.RowKit Go.Proofs.YtkgpnloghmbmlaaW.PrintWords Go.Proofs.YtkgpnloghmbmlaaW.PrintLast Go.Proofs.YtkgpnloghmbmlaaW.PrintMore Go.Proofs.Ytkgpnloghmbmlaa.Drv Go.Proofs.Ytkgpnloghmbmlaa.Hd
set_option linter.unusedVariables false
set_option linter.unusedSimpArgs false
theorem addN (b i j : Nat) : (⟨b, i, none⟩ : Addr).add j = ⟨b, i + j, none⟩ := by unfold Addr.add; split <;> simp_all
theorem drv_two {W : World} {g : Nat} {st : Int} {sp : List Bool} {sl rg : List ByteArray} {ns : List (Nat × Pt)} {a : Nat} {tx : ByteArray} {bs : Bool} (h : Drv W g st sp sl rg ns) (ha : a < 12) (htx : tx = sl.getD a ByteArray.empty) (hbs : bs = sp.getD a false) :
    W.cell? ⟨g, 13 + a, none⟩ = some (.string tx) ∧ W.cell? ((⟨g, 13, none⟩ : Addr).add a) = some (.string tx) ∧ W.cell? ⟨g, 1 + a, none⟩ = some (.bool bs) ∧ W.cell? ((⟨g, 1, none⟩ : Addr).add a) = some (.bool bs) := by
  have h1 : W.cell? ⟨g, 13 + a, none⟩ = some (.string tx) := by rw [htx]; exact (zq4 h.blk (13 + a)).trans (dc_sl h.lsp h.lsl ha)
  have h2 : W.cell? ⟨g, 1 + a, none⟩ = some (.bool bs) := by rw [hbs]; exact (zq4 h.blk (1 + a)).trans (dc_sp h.lsp ha)
  exact ⟨h1, by rw [addN]; exact h1, h2, by rw [addN]; exact h2⟩
theorem drv_two' {W : World} {g : Nat} {st : Int} {sp : List Bool} {sl rg : List ByteArray} {fi : Value} {a : Nat} {tx : ByteArray} {bs : Bool} (h : W.heap[g]? = some (.cells (dcells st sp sl rg fi) 80 (0, 0))) (hsp : sp.length = 12) (hsl : sl.length = 12) (ha : a < 12) (htx : tx = sl.getD a ByteArray.empty) (hbs : bs = sp.getD a false) :
    W.cell? ⟨g, 13 + a, none⟩ = some (.string tx) ∧ W.cell? ((⟨g, 13, none⟩ : Addr).add a) = some (.string tx) ∧ W.cell? ⟨g, 1 + a, none⟩ = some (.bool bs) ∧ W.cell? ((⟨g, 1, none⟩ : Addr).add a) = some (.bool bs) := by
  have h1 : W.cell? ⟨g, 13 + a, none⟩ = some (.string tx) := by rw [htx]; exact (zq4 h (13 + a)).trans (dc_sl hsp hsl ha)
  have h2 : W.cell? ⟨g, 1 + a, none⟩ = some (.bool bs) := by rw [hbs]; exact (zq4 h (1 + a)).trans (dc_sp hsp ha)
  exact ⟨h1, by rw [addN]; exact h1, h2, by rw [addN]; exact h2⟩
theorem cap_keep {w W : World} {g ga : Nat} {v : Value} (h : Below g w W) (hg : ga < g) (hc : w.cell? ⟨ga, 0, none⟩ = some v) : W.cell? ⟨ga, 0, none⟩ = some v := (h.cell (p := ⟨ga, 0, none⟩) hg).trans hc
theorem hd_drv {w : World} {g : Nat} {st : Int} {sp : List Bool} {sl rg : List ByteArray} {ns : List (Nat × Pt)} (h : Drv w g st sp sl rg ns) : Hd g w w [.box g (dcells st sp sl rg (toN ns (.pointer none))) 80, .same (g + 1) w.heap.size w] :=
  ⟨Below.refl _ _, Nat.le_of_lt (blk_lt h.blk), fun p hp => (by
    rcases List.mem_cons.1 hp with rfl | hp
    · exact ⟨Nat.le_refl _, blk_lt h.blk, h.blk⟩
    · rcases List.mem_cons.1 hp with rfl | hp
      · exact ⟨Nat.le_succ _, Nat.le_refl _, fun _ _ _ => rfl⟩
      · cases hp), List.pairwise_cons.2 ⟨fun q hq => (by
    rcases List.mem_cons.1 hq with rfl | hq
    · exact .inl (Nat.le_refl _)
    · cases hq), List.pairwise_cons.2 ⟨fun _ h => (by cases h), List.Pairwise.nil⟩⟩⟩
set_option maxHeartbeats 8000000 in
set_option maxRecDepth 100000 in
theorem spoilFn_same (g ga gb gc : Nat) (st : Int) (sp : List Bool) (sl rg : List ByteArray) (ns : List (Nat × Pt)) (a b : Nat) (by_ : Int) (w : World) (hD : Drv w g st sp sl rg ns) (ha : a < 12) (hb3 : b < 3) (hby : 1 ≤ by_ ∧ by_ ≤ 255)
    (hca : w.cell? ⟨ga, 0, none⟩ = some (.int .i64 (a : Int))) (hcb : w.cell? ⟨gb, 0, none⟩ = some (.int .i64 (b : Int))) (hcc : w.cell? ⟨gc, 0, none⟩ = some (.int .i64 by_)) (hz : (sl.getD a ByteArray.empty).toList.isEmpty = true ∨ ((sl.getD a ByteArray.empty).toList.isEmpty = false ∧ sp.getD a false = true)) :
    Calls Try.prog 86 #[.pointer (some ⟨g, 0, none⟩), .pointer (some ⟨ga, 0, none⟩), .pointer (some ⟨gb, 0, none⟩), .pointer (some ⟨gc, 0, none⟩)] w fun e w' => e = .returned (.bool true) ∧ Drv w' g st sp sl rg ns ∧ Below g w w' := by
  have hu80 := Try.underlying80
  have hu75 := Try.underlying75
  have hu76 := Try.underlying76
  have hu73 := Try.underlying73
  obtain ⟨tx, htx⟩ : ∃ t, t = sl.getD a ByteArray.empty := ⟨_, rfl⟩
  obtain ⟨bs, hbs⟩ : ∃ t, t = sp.getD a false := ⟨_, rfl⟩
  rw [← htx] at hz
  try rw [← hbs] at hz
  have HX := Az.mk (fun (W : World) (h : Drv W g st sp sl rg ns) => drv_two h ha htx hbs)
  have a0 := eq_true (show (0 : Int) ≤ (a : Int) by omega)
  have a1 := eq_true (show (a : Int) < 12 by omega)
  have l1 := eq_false (show ¬ (a : Int) < 0 by omega)
  have l2 := eq_false (show ¬ (12 : Int) ≤ (a : Int) by omega)
  have l3 := eq_false (show ¬ (b : Int) < 0 by omega)
  have l4 := eq_false (show ¬ (3 : Int) ≤ (b : Int) by omega)
  have l5 := eq_false (show ¬ by_ < 1 by omega)
  have l6 := eq_false (show ¬ (255 : Int) < by_ by omega)
  have HD := Az.mk hD
  have HA := Az.mk ha
  have HCA := Az.mk hca
  have HCB := Az.mk hcb
  have HCC := Az.mk hcc
  have HTX := Az.mk htx
  have HBS := Az.mk hbs
  have HGL := Az.mk (Nat.le_of_lt (blk_lt hD.blk))
  clear hD ha hby htx hbs
  rcases hz with hne | ⟨hne, hsp⟩
  · clear hb3
    go_enter Try.func86, Try.ntmps86
    go_wp2
    refine start_ (n := 16) (S := fun w' => w'.cell? ⟨ga, 0, none⟩ = some (.int .i64 (a : Int)) ∧ w'.cell? ⟨gb, 0, none⟩ = some (.int .i64 (b : Int)) ∧ w'.cell? ⟨gc, 0, none⟩ = some (.int .i64 by_) ∧ w'.cell? ⟨g, 13 + a, none⟩ = some (.string tx) ∧ w'.cell? ((⟨g, 13, none⟩ : Addr).add a) = some (.string tx) ∧ w'.cell? ⟨g, 1 + a, none⟩ = some (.bool bs) ∧ w'.cell? ((⟨g, 1, none⟩ : Addr).add a) = some (.bool bs)) (ds := []) #[false, false, false, false, false, false, false, false, false, false, false, false, false, false, false, false] (by kernel_rfl) rfl rfl (⟨HCA.out, HCB.out, HCC.out, (HX.out w HD.out).1, (HX.out w HD.out).2.1, (HX.out w HD.out).2.2.1, (HX.out w HD.out).2.2.2⟩) (fun hHeld => ?_)
    refine zqp (i := 0) (N := some 29) (v := ?_) (a' := ?_) #[true, false, false, false, false, false, false, false, false, false, false, false, false, false, false, false] rfl rfl (by kernel_rfl) (fun _ _ _ h => h) (Or.inl ⟨by rfl, ?_⟩) ?_ ?_
    rotate_left
    · intro w'
      go_simp
      with_reducible rfl
    rotate_left
    · simp only [Act.put, List.setIfInBounds_toArray, List.set_cons_zero, List.set_cons_succ, i64_w, i32_w]
      rfl
    refine zqp (i := 2) (N := some 31) (v := ?_) (a' := ?_) #[true, false, true, false, false, false, false, false, false, false, false, false, false, false, false, false] rfl rfl (by kernel_rfl) (fun _ _ _ h => h) (Or.inl ⟨by rfl, ?_⟩) ?_ ?_
    rotate_left
    · intro w'
      go_simp
      with_reducible rfl
    rotate_left
    · simp only [Act.put, List.setIfInBounds_toArray, List.set_cons_zero, List.set_cons_succ, i64_w, i32_w]
      rfl
    refine zqp (i := 3) (N := some 32) (v := ?_) (a' := ?_) #[true, false, true, true, false, false, false, false, false, false, false, false, false, false, false, false] rfl rfl (by kernel_rfl) (fun _ _ _ h => h) (Or.inl ⟨by rfl, ?_⟩) ?_ ?_
    rotate_left
    · intro w'
      go_simp
      with_reducible rfl
    rotate_left
    · simp only [Act.put, List.setIfInBounds_toArray, List.set_cons_zero, List.set_cons_succ, i64_w, i32_w]
      rfl
    refine zqt (i := 1) (N := some 30) (v := ?_) (a' := ?_) #[true, true, true, true, false, false, false, false, false, false, false, false, false, false, false, false] rfl rfl (by kernel_rfl) (fun _ _ _ h => h) (Or.inl ⟨by rfl, ?_⟩) hHeld ?_ ?_
    rotate_left
    · rintro w' ⟨s0, s1, s2, s3, s4, s5, s6⟩
      go_simp
      with_reducible rfl
    rotate_left
    · simp only [Act.put, List.setIfInBounds_toArray, List.set_cons_zero, List.set_cons_succ, i64_w, i32_w]
      rfl
    refine zqp (i := 4) (N := some 33) (v := ?_) (a' := ?_) #[true, true, true, true, true, false, false, false, false, false, false, false, false, false, false, false] rfl rfl (by kernel_rfl) (fun _ _ _ h => h) (Or.inl ⟨by rfl, ?_⟩) ?_ ?_
    rotate_left
    · intro w'
      go_simp
      with_reducible rfl
    rotate_left
    · simp only [Act.put, List.setIfInBounds_toArray, List.set_cons_zero, List.set_cons_succ, i64_w, i32_w]
      rfl
    refine zqt (i := 5) (N := some 34) (v := ?_) (a' := ?_) #[true, true, true, true, true, true, false, false, false, false, false, false, false, false, false, false] rfl rfl (by kernel_rfl) (fun _ _ _ h => h) (Or.inl ⟨by rfl, ?_⟩) hHeld ?_ ?_
    rotate_left
    · rintro w' ⟨s0, s1, s2, s3, s4, s5, s6⟩
      go_simp
      with_reducible rfl
    rotate_left
    · simp only [Act.put, List.setIfInBounds_toArray, List.set_cons_zero, List.set_cons_succ, i64_w, i32_w]
      rfl
    refine zqp (i := 6) (N := some 35) (v := ?_) (a' := ?_) #[true, true, true, true, true, true, true, false, false, false, false, false, false, false, false, false] rfl rfl (by kernel_rfl) (fun _ _ _ h => h) (Or.inl ⟨by rfl, ?_⟩) ?_ ?_
    rotate_left
    · intro w'
      go_simp
      with_reducible rfl
    rotate_left
    · simp only [Act.put, List.setIfInBounds_toArray, List.set_cons_zero, List.set_cons_succ, i64_w, i32_w]
      rfl
    refine zqp (i := 7) (N := some 36) (v := ?_) (a' := ?_) #[true, true, true, true, true, true, true, true, false, false, false, false, false, false, false, false] rfl rfl (by kernel_rfl) (fun _ _ _ h => h) (Or.inl ⟨by rfl, ?_⟩) ?_ ?_
    rotate_left
    · intro w'
      go_simp
      with_reducible rfl
    rotate_left
    · simp only [Act.put, List.setIfInBounds_toArray, List.set_cons_zero, List.set_cons_succ, i64_w, i32_w]
      rfl
    refine zqp (i := 8) (N := some 37) (v := undef) (a' := ?_) #[true, true, true, true, true, true, true, true, true, false, false, false, false, false, false, false] rfl rfl (by kernel_rfl) (fun _ _ _ h => h) (Or.inr ⟨by rfl, rfl⟩) ?_ ?_
    rotate_left
    · simp only [Act.put, List.setIfInBounds_toArray, List.set_cons_zero, List.set_cons_succ, i64_w, i32_w]
      rfl
    refine zqp (i := 9) (N := some 38) (v := undef) (a' := ?_) #[true, true, true, true, true, true, true, true, true, true, false, false, false, false, false, false] rfl rfl (by kernel_rfl) (fun _ _ _ h => h) (Or.inr ⟨by rfl, rfl⟩) ?_ ?_
    rotate_left
    · simp only [Act.put, List.setIfInBounds_toArray, List.set_cons_zero, List.set_cons_succ, i64_w, i32_w]
      rfl
    refine zqp (i := 10) (N := some 39) (v := undef) (a' := ?_) #[true, true, true, true, true, true, true, true, true, true, true, false, false, false, false, false] rfl rfl (by kernel_rfl) (fun _ _ _ h => h) (Or.inr ⟨by rfl, rfl⟩) ?_ ?_
    rotate_left
    · simp only [Act.put, List.setIfInBounds_toArray, List.set_cons_zero, List.set_cons_succ, i64_w, i32_w]
      rfl
    refine zqp (i := 11) (N := some 40) (v := undef) (a' := ?_) #[true, true, true, true, true, true, true, true, true, true, true, true, false, false, false, false] rfl rfl (by kernel_rfl) (fun _ _ _ h => h) (Or.inr ⟨by rfl, rfl⟩) ?_ ?_
    rotate_left
    · simp only [Act.put, List.setIfInBounds_toArray, List.set_cons_zero, List.set_cons_succ, i64_w, i32_w]
      rfl
    refine zqp (i := 12) (N := some 41) (v := undef) (a' := ?_) #[true, true, true, true, true, true, true, true, true, true, true, true, true, false, false, false] rfl rfl (by kernel_rfl) (fun _ _ _ h => h) (Or.inr ⟨by rfl, rfl⟩) ?_ ?_
    rotate_left
    · simp only [Act.put, List.setIfInBounds_toArray, List.set_cons_zero, List.set_cons_succ, i64_w, i32_w]
      rfl
    refine zqp (i := 13) (N := some 42) (v := undef) (a' := ?_) #[true, true, true, true, true, true, true, true, true, true, true, true, true, true, false, false] rfl rfl (by kernel_rfl) (fun _ _ _ h => h) (Or.inr ⟨by rfl, rfl⟩) ?_ ?_
    rotate_left
    · simp only [Act.put, List.setIfInBounds_toArray, List.set_cons_zero, List.set_cons_succ, i64_w, i32_w]
      rfl
    refine zqp (i := 14) (N := some 43) (v := undef) (a' := ?_) #[true, true, true, true, true, true, true, true, true, true, true, true, true, true, true, false] rfl rfl (by kernel_rfl) (fun _ _ _ h => h) (Or.inr ⟨by rfl, rfl⟩) ?_ ?_
    rotate_left
    · simp only [Act.put, List.setIfInBounds_toArray, List.set_cons_zero, List.set_cons_succ, i64_w, i32_w]
      rfl
    refine zqp (i := 15) (N := some 44) (v := ?_) (a' := ?_) #[true, true, true, true, true, true, true, true, true, true, true, true, true, true, true, true] rfl rfl (by kernel_rfl) (fun _ _ _ h => h) (Or.inl ⟨by rfl, ?_⟩) ?_ ?_
    rotate_left
    · intro w'
      go_simp
      with_reducible rfl
    rotate_left
    · simp only [Act.put, List.setIfInBounds_toArray, List.set_cons_zero, List.set_cons_succ, i64_w, i32_w]
      rfl
    refine done_ (by kernel_rfl) ?_
    go_wp2
    go_ret
    exact ⟨rfl, drv_drew HD.out, zqd (Below.refl _ _)⟩
  · clear hb3
    subst hsp
    go_enter Try.func86, Try.ntmps86
    go_wp2
    refine start_ (n := 16) (S := fun w' => w'.cell? ⟨ga, 0, none⟩ = some (.int .i64 (a : Int)) ∧ w'.cell? ⟨gb, 0, none⟩ = some (.int .i64 (b : Int)) ∧ w'.cell? ⟨gc, 0, none⟩ = some (.int .i64 by_) ∧ w'.cell? ⟨g, 13 + a, none⟩ = some (.string tx) ∧ w'.cell? ((⟨g, 13, none⟩ : Addr).add a) = some (.string tx) ∧ w'.cell? ⟨g, 1 + a, none⟩ = some (.bool true) ∧ w'.cell? ((⟨g, 1, none⟩ : Addr).add a) = some (.bool true)) (ds := []) #[false, false, false, false, false, false, false, false, false, false, false, false, false, false, false, false] (by kernel_rfl) rfl rfl (⟨HCA.out, HCB.out, HCC.out, (HX.out w HD.out).1, (HX.out w HD.out).2.1, (HX.out w HD.out).2.2.1, (HX.out w HD.out).2.2.2⟩) (fun hHeld => ?_)
    refine zqp (i := 0) (N := some 29) (v := ?_) (a' := ?_) #[true, false, false, false, false, false, false, false, false, false, false, false, false, false, false, false] rfl rfl (by kernel_rfl) (fun _ _ _ h => h) (Or.inl ⟨by rfl, ?_⟩) ?_ ?_
    rotate_left
    · intro w'
      go_simp
      with_reducible rfl
    rotate_left
    · simp only [Act.put, List.setIfInBounds_toArray, List.set_cons_zero, List.set_cons_succ, i64_w, i32_w]
      rfl
    refine zqp (i := 2) (N := some 31) (v := ?_) (a' := ?_) #[true, false, true, false, false, false, false, false, false, false, false, false, false, false, false, false] rfl rfl (by kernel_rfl) (fun _ _ _ h => h) (Or.inl ⟨by rfl, ?_⟩) ?_ ?_
    rotate_left
    · intro w'
      go_simp
      with_reducible rfl
    rotate_left
    · simp only [Act.put, List.setIfInBounds_toArray, List.set_cons_zero, List.set_cons_succ, i64_w, i32_w]
      rfl
    refine zqp (i := 3) (N := some 32) (v := ?_) (a' := ?_) #[true, false, true, true, false, false, false, false, false, false, false, false, false, false, false, false] rfl rfl (by kernel_rfl) (fun _ _ _ h => h) (Or.inl ⟨by rfl, ?_⟩) ?_ ?_
    rotate_left
    · intro w'
      go_simp
      with_reducible rfl
    rotate_left
    · simp only [Act.put, List.setIfInBounds_toArray, List.set_cons_zero, List.set_cons_succ, i64_w, i32_w]
      rfl
    refine zqt (i := 1) (N := some 30) (v := ?_) (a' := ?_) #[true, true, true, true, false, false, false, false, false, false, false, false, false, false, false, false] rfl rfl (by kernel_rfl) (fun _ _ _ h => h) (Or.inl ⟨by rfl, ?_⟩) hHeld ?_ ?_
    rotate_left
    · rintro w' ⟨s0, s1, s2, s3, s4, s5, s6⟩
      go_simp
      with_reducible rfl
    rotate_left
    · simp only [Act.put, List.setIfInBounds_toArray, List.set_cons_zero, List.set_cons_succ, i64_w, i32_w]
      rfl
    refine zqp (i := 4) (N := some 33) (v := ?_) (a' := ?_) #[true, true, true, true, true, false, false, false, false, false, false, false, false, false, false, false] rfl rfl (by kernel_rfl) (fun _ _ _ h => h) (Or.inl ⟨by rfl, ?_⟩) ?_ ?_
    rotate_left
    · intro w'
      go_simp
      with_reducible rfl
    rotate_left
    · simp only [Act.put, List.setIfInBounds_toArray, List.set_cons_zero, List.set_cons_succ, i64_w, i32_w]
      rfl
    refine zqt (i := 5) (N := some 34) (v := ?_) (a' := ?_) #[true, true, true, true, true, true, false, false, false, false, false, false, false, false, false, false] rfl rfl (by kernel_rfl) (fun _ _ _ h => h) (Or.inl ⟨by rfl, ?_⟩) hHeld ?_ ?_
    rotate_left
    · rintro w' ⟨s0, s1, s2, s3, s4, s5, s6⟩
      go_simp
      with_reducible rfl
    rotate_left
    · simp only [Act.put, List.setIfInBounds_toArray, List.set_cons_zero, List.set_cons_succ, i64_w, i32_w]
      rfl
    refine zqp (i := 6) (N := some 35) (v := ?_) (a' := ?_) #[true, true, true, true, true, true, true, false, false, false, false, false, false, false, false, false] rfl rfl (by kernel_rfl) (fun _ _ _ h => h) (Or.inl ⟨by rfl, ?_⟩) ?_ ?_
    rotate_left
    · intro w'
      go_simp
      with_reducible rfl
    rotate_left
    · simp only [Act.put, List.setIfInBounds_toArray, List.set_cons_zero, List.set_cons_succ, i64_w, i32_w]
      rfl
    refine zqp (i := 7) (N := some 36) (v := ?_) (a' := ?_) #[true, true, true, true, true, true, true, true, false, false, false, false, false, false, false, false] rfl rfl (by kernel_rfl) (fun _ _ _ h => h) (Or.inl ⟨by rfl, ?_⟩) ?_ ?_
    rotate_left
    · intro w'
      go_simp
      with_reducible rfl
    rotate_left
    · simp only [Act.put, List.setIfInBounds_toArray, List.set_cons_zero, List.set_cons_succ, i64_w, i32_w]
      rfl
    refine zqp (i := 8) (N := some 37) (v := ?_) (a' := ?_) #[true, true, true, true, true, true, true, true, true, false, false, false, false, false, false, false] rfl rfl (by kernel_rfl) (fun _ _ _ h => h) (Or.inl ⟨by rfl, ?_⟩) ?_ ?_
    rotate_left
    · intro w'
      go_simp
      with_reducible rfl
    rotate_left
    · simp only [Act.put, List.setIfInBounds_toArray, List.set_cons_zero, List.set_cons_succ, i64_w, i32_w]
      rfl
    refine zqp (i := 10) (N := some 39) (v := ?_) (a' := ?_) #[true, true, true, true, true, true, true, true, true, false, true, false, false, false, false, false] rfl rfl (by kernel_rfl) (fun _ _ _ h => h) (Or.inl ⟨by rfl, ?_⟩) ?_ ?_
    rotate_left
    · intro w'
      go_simp
      with_reducible rfl
    rotate_left
    · simp only [Act.put, List.setIfInBounds_toArray, List.set_cons_zero, List.set_cons_succ, i64_w, i32_w]
      rfl
    refine zqp (i := 11) (N := some 40) (v := ?_) (a' := ?_) #[true, true, true, true, true, true, true, true, true, false, true, true, false, false, false, false] rfl rfl (by kernel_rfl) (fun _ _ _ h => h) (Or.inl ⟨by rfl, ?_⟩) ?_ ?_
    rotate_left
    · intro w'
      go_simp
      with_reducible rfl
    rotate_left
    · simp only [Act.put, List.setIfInBounds_toArray, List.set_cons_zero, List.set_cons_succ, i64_w, i32_w]
      rfl
    refine zqp (i := 12) (N := some 41) (v := ?_) (a' := ?_) #[true, true, true, true, true, true, true, true, true, false, true, true, true, false, false, false] rfl rfl (by kernel_rfl) (fun _ _ _ h => h) (Or.inl ⟨by rfl, ?_⟩) ?_ ?_
    rotate_left
    · intro w'
      go_simp
      with_reducible rfl
    rotate_left
    · simp only [Act.put, List.setIfInBounds_toArray, List.set_cons_zero, List.set_cons_succ, i64_w, i32_w]
      rfl
    refine zqt (i := 9) (N := some 38) (v := ?_) (a' := ?_) #[true, true, true, true, true, true, true, true, true, true, true, true, true, false, false, false] rfl rfl (by kernel_rfl) (fun _ _ _ h => h) (Or.inl ⟨by rfl, ?_⟩) hHeld ?_ ?_
    rotate_left
    · rintro w' ⟨s0, s1, s2, s3, s4, s5, s6⟩
      go_simp
      with_reducible rfl
    rotate_left
    · simp only [Act.put, List.setIfInBounds_toArray, List.set_cons_zero, List.set_cons_succ, i64_w, i32_w]
      rfl
    refine zqp (i := 13) (N := some 42) (v := ?_) (a' := ?_) #[true, true, true, true, true, true, true, true, true, true, true, true, true, true, false, false] rfl rfl (by kernel_rfl) (fun _ _ _ h => h) (Or.inl ⟨by rfl, ?_⟩) ?_ ?_
    rotate_left
    · intro w'
      go_simp
      with_reducible rfl
    rotate_left
    · simp only [Act.put, List.setIfInBounds_toArray, List.set_cons_zero, List.set_cons_succ, i64_w, i32_w]
      rfl
    refine zqt (i := 14) (N := some 43) (v := ?_) (a' := ?_) #[true, true, true, true, true, true, true, true, true, true, true, true, true, true, true, false] rfl rfl (by kernel_rfl) (fun _ _ _ h => h) (Or.inl ⟨by rfl, ?_⟩) hHeld ?_ ?_
    rotate_left
    · rintro w' ⟨s0, s1, s2, s3, s4, s5, s6⟩
      go_simp
      with_reducible rfl
    rotate_left
    · simp only [Act.put, List.setIfInBounds_toArray, List.set_cons_zero, List.set_cons_succ, i64_w, i32_w]
      rfl
    refine zqp (i := 15) (N := some 44) (v := ?_) (a' := ?_) #[true, true, true, true, true, true, true, true, true, true, true, true, true, true, true, true] rfl rfl (by kernel_rfl) (fun _ _ _ h => h) (Or.inl ⟨by rfl, ?_⟩) ?_ ?_
    rotate_left
    · intro w'
      go_simp
      with_reducible rfl
    rotate_left
    · simp only [Act.put, List.setIfInBounds_toArray, List.set_cons_zero, List.set_cons_succ, i64_w, i32_w]
      rfl
    refine done_ (by kernel_rfl) ?_
    go_wp2
    go_ret
    exact ⟨rfl, drv_drew HD.out, zqd (Below.refl _ _)⟩
set_option maxHeartbeats 8000000 in
set_option maxRecDepth 100000 in
theorem spoilFn_main (g ga gb gc : Nat) (st : Int) (sp : List Bool) (sl rg : List ByteArray) (ns : List (Nat × Pt)) (a b : Nat) (by_ : Int) (w : World) (hD : Drv w g st sp sl rg ns) (ha : a < 12) (hb3 : b < 3) (hby : 1 ≤ by_ ∧ by_ ≤ 255)
    (hca : w.cell? ⟨ga, 0, none⟩ = some (.int .i64 (a : Int))) (hcb : w.cell? ⟨gb, 0, none⟩ = some (.int .i64 (b : Int))) (hcc : w.cell? ⟨gc, 0, none⟩ = some (.int .i64 by_)) (hga : ga < g) (hgb : gb < g) (hgc : gc < g) (hne : (sl.getD a ByteArray.empty).toList.isEmpty = false) (hb : b < (sl.getD a ByteArray.empty).size) (hsp : sp.getD a false = false) :
    Calls Try.prog 86 #[.pointer (some ⟨g, 0, none⟩), .pointer (some ⟨ga, 0, none⟩), .pointer (some ⟨gb, 0, none⟩), .pointer (some ⟨gc, 0, none⟩)] w fun e w' => e = .returned (.bool true) ∧ Drv w' g st (sp.set a true) (sl.set a (turned (sl.getD a ByteArray.empty) b by_)) rg ns ∧ Below g w w' := by
  have hu80 := Try.underlying80
  have hu75 := Try.underlying75
  have hu76 := Try.underlying76
  have hu73 := Try.underlying73
  obtain ⟨tx, htx⟩ : ∃ t, t = sl.getD a ByteArray.empty := ⟨_, rfl⟩
  obtain ⟨bs, hbs⟩ : ∃ t, t = sp.getD a false := ⟨_, rfl⟩
  rw [← htx] at hne hb
  rw [hsp] at hbs
  have HT := Az.mk (fun (W : World) (h : W.heap[g]? = some (.cells (dcells st sp sl rg (toN ns (.pointer none))) 80 (0, 0))) => drv_two' h hD.lsp hD.lsl ha htx (hbs.trans hsp.symm))
  have CAP := Az.mk (fun (W : World) (h : Below g w W) => (⟨cap_keep h hga hca, cap_keep h hgb hcb, cap_keep h hgc hcc⟩ : W.cell? ⟨ga, 0, none⟩ = some (.int .i64 (a : Int)) ∧ W.cell? ⟨gb, 0, none⟩ = some (.int .i64 (b : Int)) ∧ W.cell? ⟨gc, 0, none⟩ = some (.int .i64 by_)))
  have H := Az.mk (hd_drv hD)
  have LSP := Az.mk hD.lsp
  have LSL := Az.mk hD.lsl
  have LRG := Az.mk hD.lrg
  have SG := Az.mk hD.seg
  have HLL := Az.mk hD.last_lt
  have b0 := eq_true (show (0 : Int) ≤ (b : Int) by omega)
  have b1 := eq_true (show (b : Int) < (tx.size : Int) by omega)
  have HBT : Az (b < (bytesOf tx).length) := ⟨by simpa [bytesOf] using hb⟩
  generalize hfi : toN ns (.pointer none) = fi at HT H
  have HFI := Az.mk hfi
  have a0 := eq_true (show (0 : Int) ≤ (a : Int) by omega)
  have a1 := eq_true (show (a : Int) < 12 by omega)
  have l1 := eq_false (show ¬ (a : Int) < 0 by omega)
  have l2 := eq_false (show ¬ (12 : Int) ≤ (a : Int) by omega)
  have l3 := eq_false (show ¬ (b : Int) < 0 by omega)
  have l4 := eq_false (show ¬ (3 : Int) ≤ (b : Int) by omega)
  have l5 := eq_false (show ¬ by_ < 1 by omega)
  have l6 := eq_false (show ¬ (255 : Int) < by_ by omega)
  have HD := Az.mk hD
  have HA := Az.mk ha
  have HCA := Az.mk hca
  have HCB := Az.mk hcb
  have HCC := Az.mk hcc
  have HTX := Az.mk htx
  have HBS := Az.mk hbs
  have HGL := Az.mk (Nat.le_of_lt (blk_lt hD.blk))
  clear hD ha hby htx hga hgb hgc hb3 hb hsp
  subst hbs
  clear HD hfi
  go_enter Try.func86, Try.ntmps86
  go_wp2
  clear hca hcb hcc
  refine start_ (n := 16) (S := fun w' => w'.cell? ⟨ga, 0, none⟩ = some (.int .i64 (a : Int)) ∧ w'.cell? ⟨gb, 0, none⟩ = some (.int .i64 (b : Int)) ∧ w'.cell? ⟨gc, 0, none⟩ = some (.int .i64 by_) ∧ w'.cell? ⟨g, 13 + a, none⟩ = some (.string tx) ∧ w'.cell? ((⟨g, 13, none⟩ : Addr).add a) = some (.string tx) ∧ w'.cell? ⟨g, 1 + a, none⟩ = some (.bool false) ∧ w'.cell? ((⟨g, 1, none⟩ : Addr).add a) = some (.bool false)) (ds := []) #[false, false, false, false, false, false, false, false, false, false, false, false, false, false, false, false] (by kernel_rfl) rfl rfl (⟨(CAP.out _ H.out.bel).1, (CAP.out _ H.out.bel).2.1, (CAP.out _ H.out.bel).2.2, (HT.out _ (H.out.box 0 rfl)).1, (HT.out _ (H.out.box 0 rfl)).2.1, (HT.out _ (H.out.box 0 rfl)).2.2.1, (HT.out _ (H.out.box 0 rfl)).2.2.2⟩) (fun hHeld => ?_)
  clear hHeld
  have H1 := Az.mk H.out.drew
  clear H; have H := H1; clear H1
  generalize World.drew w = wd3 at H ⊢
  have hHeld : (fun w' => w'.cell? ⟨ga, 0, none⟩ = some (.int .i64 (a : Int)) ∧ w'.cell? ⟨gb, 0, none⟩ = some (.int .i64 (b : Int)) ∧ w'.cell? ⟨gc, 0, none⟩ = some (.int .i64 by_) ∧ w'.cell? ⟨g, 13 + a, none⟩ = some (.string tx) ∧ w'.cell? ((⟨g, 13, none⟩ : Addr).add a) = some (.string tx) ∧ w'.cell? ⟨g, 1 + a, none⟩ = some (.bool false) ∧ w'.cell? ((⟨g, 1, none⟩ : Addr).add a) = some (.bool false)) wd3 := ⟨(CAP.out _ H.out.bel).1, (CAP.out _ H.out.bel).2.1, (CAP.out _ H.out.bel).2.2, (HT.out _ (H.out.box 0 rfl)).1, (HT.out _ (H.out.box 0 rfl)).2.1, (HT.out _ (H.out.box 0 rfl)).2.2.1, (HT.out _ (H.out.box 0 rfl)).2.2.2⟩
  refine zqp (i := 0) (N := some 29) (v := ?_) (a' := ?_) #[true, false, false, false, false, false, false, false, false, false, false, false, false, false, false, false] rfl rfl (by kernel_rfl) (fun _ _ _ h => h) (Or.inl ⟨by rfl, ?_⟩) ?_ ?_
  rotate_left
  · intro w'
    go_simp
    with_reducible rfl
  rotate_left
  · simp only [Act.put, List.setIfInBounds_toArray, List.set_cons_zero, List.set_cons_succ, i64_w, i32_w]
    rfl
  refine zqp (i := 2) (N := some 31) (v := ?_) (a' := ?_) #[true, false, true, false, false, false, false, false, false, false, false, false, false, false, false, false] rfl rfl (by kernel_rfl) (fun _ _ _ h => h) (Or.inl ⟨by rfl, ?_⟩) ?_ ?_
  rotate_left
  · intro w'
    go_simp
    with_reducible rfl
  rotate_left
  · simp only [Act.put, List.setIfInBounds_toArray, List.set_cons_zero, List.set_cons_succ, i64_w, i32_w]
    rfl
  refine zqp (i := 3) (N := some 32) (v := ?_) (a' := ?_) #[true, false, true, true, false, false, false, false, false, false, false, false, false, false, false, false] rfl rfl (by kernel_rfl) (fun _ _ _ h => h) (Or.inl ⟨by rfl, ?_⟩) ?_ ?_
  rotate_left
  · intro w'
    go_simp
    with_reducible rfl
  rotate_left
  · simp only [Act.put, List.setIfInBounds_toArray, List.set_cons_zero, List.set_cons_succ, i64_w, i32_w]
    rfl
  refine zqt (i := 1) (N := some 30) (v := ?_) (a' := ?_) #[true, true, true, true, false, false, false, false, false, false, false, false, false, false, false, false] rfl rfl (by kernel_rfl) (fun _ _ _ h => h) (Or.inl ⟨by rfl, ?_⟩) hHeld ?_ ?_
  rotate_left
  · rintro w' ⟨s0, s1, s2, s3, s4, s5, s6⟩
    go_simp
    with_reducible rfl
  rotate_left
  · simp only [Act.put, List.setIfInBounds_toArray, List.set_cons_zero, List.set_cons_succ, i64_w, i32_w]
    rfl
  refine zqp (i := 4) (N := some 33) (v := ?_) (a' := ?_) #[true, true, true, true, true, false, false, false, false, false, false, false, false, false, false, false] rfl rfl (by kernel_rfl) (fun _ _ _ h => h) (Or.inl ⟨by rfl, ?_⟩) ?_ ?_
  rotate_left
  · intro w'
    go_simp
    with_reducible rfl
  rotate_left
  · simp only [Act.put, List.setIfInBounds_toArray, List.set_cons_zero, List.set_cons_succ, i64_w, i32_w]
    rfl
  refine zqt (i := 5) (N := some 34) (v := ?_) (a' := ?_) #[true, true, true, true, true, true, false, false, false, false, false, false, false, false, false, false] rfl rfl (by kernel_rfl) (fun _ _ _ h => h) (Or.inl ⟨by rfl, ?_⟩) hHeld ?_ ?_
  rotate_left
  · rintro w' ⟨s0, s1, s2, s3, s4, s5, s6⟩
    go_simp
    with_reducible rfl
  rotate_left
  · simp only [Act.put, List.setIfInBounds_toArray, List.set_cons_zero, List.set_cons_succ, i64_w, i32_w]
    rfl
  refine zqp (i := 6) (N := some 35) (v := ?_) (a' := ?_) #[true, true, true, true, true, true, true, false, false, false, false, false, false, false, false, false] rfl rfl (by kernel_rfl) (fun _ _ _ h => h) (Or.inl ⟨by rfl, ?_⟩) ?_ ?_
  rotate_left
  · intro w'
    go_simp
    with_reducible rfl
  rotate_left
  · simp only [Act.put, List.setIfInBounds_toArray, List.set_cons_zero, List.set_cons_succ, i64_w, i32_w]
    rfl
  refine zqp (i := 7) (N := some 36) (v := ?_) (a' := ?_) #[true, true, true, true, true, true, true, true, false, false, false, false, false, false, false, false] rfl rfl (by kernel_rfl) (fun _ _ _ h => h) (Or.inl ⟨by rfl, ?_⟩) ?_ ?_
  rotate_left
  · intro w'
    go_simp
    with_reducible rfl
  rotate_left
  · simp only [Act.put, List.setIfInBounds_toArray, List.set_cons_zero, List.set_cons_succ, i64_w, i32_w]
    rfl
  refine zqp (i := 8) (N := some 37) (v := ?_) (a' := ?_) #[true, true, true, true, true, true, true, true, true, false, false, false, false, false, false, false] rfl rfl (by kernel_rfl) (fun _ _ _ h => h) (Or.inl ⟨by rfl, ?_⟩) ?_ ?_
  rotate_left
  · intro w'
    go_simp
    with_reducible rfl
  rotate_left
  · simp only [Act.put, List.setIfInBounds_toArray, List.set_cons_zero, List.set_cons_succ, i64_w, i32_w]
    rfl
  refine zqp (i := 10) (N := some 39) (v := ?_) (a' := ?_) #[true, true, true, true, true, true, true, true, true, false, true, false, false, false, false, false] rfl rfl (by kernel_rfl) (fun _ _ _ h => h) (Or.inl ⟨by rfl, ?_⟩) ?_ ?_
  rotate_left
  · intro w'
    go_simp
    with_reducible rfl
  rotate_left
  · simp only [Act.put, List.setIfInBounds_toArray, List.set_cons_zero, List.set_cons_succ, i64_w, i32_w]
    rfl
  refine zqp (i := 11) (N := some 40) (v := ?_) (a' := ?_) #[true, true, true, true, true, true, true, true, true, false, true, true, false, false, false, false] rfl rfl (by kernel_rfl) (fun _ _ _ h => h) (Or.inl ⟨by rfl, ?_⟩) ?_ ?_
  rotate_left
  · intro w'
    go_simp
    with_reducible rfl
  rotate_left
  · simp only [Act.put, List.setIfInBounds_toArray, List.set_cons_zero, List.set_cons_succ, i64_w, i32_w]
    rfl
  refine zqp (i := 12) (N := some 41) (v := ?_) (a' := ?_) #[true, true, true, true, true, true, true, true, true, false, true, true, true, false, false, false] rfl rfl (by kernel_rfl) (fun _ _ _ h => h) (Or.inl ⟨by rfl, ?_⟩) ?_ ?_
  rotate_left
  · intro w'
    go_simp
    with_reducible rfl
  rotate_left
  · simp only [Act.put, List.setIfInBounds_toArray, List.set_cons_zero, List.set_cons_succ, i64_w, i32_w]
    rfl
  refine zqt (i := 9) (N := some 38) (v := ?_) (a' := ?_) #[true, true, true, true, true, true, true, true, true, true, true, true, true, false, false, false] rfl rfl (by kernel_rfl) (fun _ _ _ h => h) (Or.inl ⟨by rfl, ?_⟩) hHeld ?_ ?_
  rotate_left
  · rintro w' ⟨s0, s1, s2, s3, s4, s5, s6⟩
    go_simp
    with_reducible rfl
  rotate_left
  · simp only [Act.put, List.setIfInBounds_toArray, List.set_cons_zero, List.set_cons_succ, i64_w, i32_w]
    rfl
  refine zqp (i := 13) (N := some 42) (v := ?_) (a' := ?_) #[true, true, true, true, true, true, true, true, true, true, true, true, true, true, false, false] rfl rfl (by kernel_rfl) (fun _ _ _ h => h) (Or.inl ⟨by rfl, ?_⟩) ?_ ?_
  rotate_left
  · intro w'
    go_simp
    with_reducible rfl
  rotate_left
  · simp only [Act.put, List.setIfInBounds_toArray, List.set_cons_zero, List.set_cons_succ, i64_w, i32_w]
    rfl
  refine zqt (i := 14) (N := some 43) (v := ?_) (a' := ?_) #[true, true, true, true, true, true, true, true, true, true, true, true, true, true, true, false] rfl rfl (by kernel_rfl) (fun _ _ _ h => h) (Or.inl ⟨by rfl, ?_⟩) hHeld ?_ ?_
  rotate_left
  · rintro w' ⟨s0, s1, s2, s3, s4, s5, s6⟩
    go_simp
    with_reducible rfl
  rotate_left
  · simp only [Act.put, List.setIfInBounds_toArray, List.set_cons_zero, List.set_cons_succ, i64_w, i32_w]
    rfl
  refine zqp (i := 15) (N := some 44) (v := ?_) (a' := ?_) #[true, true, true, true, true, true, true, true, true, true, true, true, true, true, true, true] rfl rfl (by kernel_rfl) (fun _ _ _ h => h) (Or.inl ⟨by rfl, ?_⟩) ?_ ?_
  rotate_left
  · intro w'
    go_simp
    with_reducible rfl
  rotate_left
  · simp only [Act.put, List.setIfInBounds_toArray, List.set_cons_zero, List.set_cons_succ, i64_w, i32_w]
    rfl
  refine done_ (by kernel_rfl) ?_
  go_wp2
  refine start_ (n := 8) (S := fun w' => w'.cell? ⟨ga, 0, none⟩ = some (.int .i64 (a : Int)) ∧ w'.cell? ⟨gb, 0, none⟩ = some (.int .i64 (b : Int)) ∧ w'.cell? ⟨gc, 0, none⟩ = some (.int .i64 by_) ∧ w'.cell? ⟨g, 13 + a, none⟩ = some (.string tx) ∧ w'.cell? ((⟨g, 13, none⟩ : Addr).add a) = some (.string tx) ∧ w'.cell? ⟨g, 1 + a, none⟩ = some (.bool false) ∧ w'.cell? ((⟨g, 1, none⟩ : Addr).add a) = some (.bool false)) (ds := []) #[false, false, false, false, false, false, false, false] (by kernel_rfl) rfl rfl (⟨(CAP.out _ H.out.bel).1, (CAP.out _ H.out.bel).2.1, (CAP.out _ H.out.bel).2.2, (HT.out _ (H.out.box 0 rfl)).1, (HT.out _ (H.out.box 0 rfl)).2.1, (HT.out _ (H.out.box 0 rfl)).2.2.1, (HT.out _ (H.out.box 0 rfl)).2.2.2⟩) (fun hHeld => ?_)
  clear hHeld
  have H1 := Az.mk H.out.drew
  clear H; have H := H1; clear H1
  generalize World.drew wd3 = wd5 at H ⊢
  have hHeld : (fun w' => w'.cell? ⟨ga, 0, none⟩ = some (.int .i64 (a : Int)) ∧ w'.cell? ⟨gb, 0, none⟩ = some (.int .i64 (b : Int)) ∧ w'.cell? ⟨gc, 0, none⟩ = some (.int .i64 by_) ∧ w'.cell? ⟨g, 13 + a, none⟩ = some (.string tx) ∧ w'.cell? ((⟨g, 13, none⟩ : Addr).add a) = some (.string tx) ∧ w'.cell? ⟨g, 1 + a, none⟩ = some (.bool false) ∧ w'.cell? ((⟨g, 1, none⟩ : Addr).add a) = some (.bool false)) wd5 := ⟨(CAP.out _ H.out.bel).1, (CAP.out _ H.out.bel).2.1, (CAP.out _ H.out.bel).2.2, (HT.out _ (H.out.box 0 rfl)).1, (HT.out _ (H.out.box 0 rfl)).2.1, (HT.out _ (H.out.box 0 rfl)).2.2.1, (HT.out _ (H.out.box 0 rfl)).2.2.2⟩
  refine zqp (i := 0) (N := some 45) (v := ?_) (a' := ?_) #[true, false, false, false, false, false, false, false] rfl rfl (by kernel_rfl) (fun _ _ _ h => h) (Or.inl ⟨by rfl, ?_⟩) ?_ ?_
  rotate_left
  · intro w'
    go_simp
    with_reducible rfl
  rotate_left
  · simp only [Act.put, List.setIfInBounds_toArray, List.set_cons_zero, List.set_cons_succ, i64_w, i32_w]
    rfl
  refine zqp (i := 2) (N := some 47) (v := ?_) (a' := ?_) #[true, false, true, false, false, false, false, false] rfl rfl (by kernel_rfl) (fun _ _ _ h => h) (Or.inl ⟨by rfl, ?_⟩) ?_ ?_
  rotate_left
  · intro w'
    go_simp
    with_reducible rfl
  rotate_left
  · simp only [Act.put, List.setIfInBounds_toArray, List.set_cons_zero, List.set_cons_succ, i64_w, i32_w]
    rfl
  refine zqp (i := 3) (N := some 48) (v := ?_) (a' := ?_) #[true, false, true, true, false, false, false, false] rfl rfl (by kernel_rfl) (fun _ _ _ h => h) (Or.inl ⟨by rfl, ?_⟩) ?_ ?_
  rotate_left
  · intro w'
    go_simp
    with_reducible rfl
  rotate_left
  · simp only [Act.put, List.setIfInBounds_toArray, List.set_cons_zero, List.set_cons_succ, i64_w, i32_w]
    rfl
  refine zqt (i := 1) (N := some 46) (v := ?_) (a' := ?_) #[true, true, true, true, false, false, false, false] rfl rfl (by kernel_rfl) (fun _ _ _ h => h) (Or.inl ⟨by rfl, ?_⟩) hHeld ?_ ?_
  rotate_left
  · rintro w' ⟨s0, s1, s2, s3, s4, s5, s6⟩
    go_simp
    with_reducible rfl
  rotate_left
  · simp only [Act.put, List.setIfInBounds_toArray, List.set_cons_zero, List.set_cons_succ, i64_w, i32_w]
    rfl
  refine zqp (i := 4) (N := some 49) (v := ?_) (a' := ?_) #[true, true, true, true, true, false, false, false] rfl rfl (by kernel_rfl) (fun _ _ _ h => h) (Or.inl ⟨by rfl, ?_⟩) ?_ ?_
  rotate_left
  · intro w'
    go_simp
    with_reducible rfl
  rotate_left
  · simp only [Act.put, List.setIfInBounds_toArray, List.set_cons_zero, List.set_cons_succ, i64_w, i32_w]
    rfl
  refine zqt (i := 5) (N := some 50) (v := ?_) (a' := ?_) #[true, true, true, true, true, true, false, false] rfl rfl (by kernel_rfl) (fun _ _ _ h => h) (Or.inl ⟨by rfl, ?_⟩) hHeld ?_ ?_
  rotate_left
  · rintro w' ⟨s0, s1, s2, s3, s4, s5, s6⟩
    go_simp
    with_reducible rfl
  rotate_left
  · simp only [Act.put, List.setIfInBounds_toArray, List.set_cons_zero, List.set_cons_succ, i64_w, i32_w]
    rfl
  refine one_ (i := 6) (N := some 51) #[true, true, true, true, true, true, true, false] rfl rfl (by kernel_rfl) (by decide) (fun K hK => ?_)
  have H5 := Az.mk (H.out.box 0 rfl)
  refine value_ (w1 := Lib.bytesWorld wd5 5 tx) (v := .slice (some ⟨wd5.heap.size, 0, none⟩) tx.size (grownCap wd5 tx.size 0 5)) (by rfl) rfl (run_conv Try.underlying9 Try.underlying22 Try.underlying5 rfl rfl) ?_
  have B51 := Az.mk (bytesAt_new wd5 5 tx)
  have H1 := Az.mk (H.out.more (p := .same wd5.heap.size (wd5.heap.size + 1) (Lib.bytesWorld wd5 5 tx)) (below_conv wd5 5 tx) (Nat.le_refl _) (by show wd5.heap.size + 1 ≤ _; rw [Lib.bytesWorld_size]; exact Nat.le_refl _) (fun _ _ _ => rfl))
  clear H; have H := H1; clear H1
  generalize Lib.bytesWorld wd5 5 tx = w51 at H B51 ⊢
  generalize grownCap wd5 tx.size 0 5 = c51
  clear hHeld
  have G51 : Az (wd5.heap.size ≠ g) := ⟨Nat.ne_of_gt (blk_lt H5.out)⟩
  generalize wd5.heap.size = g51 at H B51 G51 ⊢
  clear H5
  refine hK.out _ _ (⟨(CAP.out _ H.out.bel).1, (CAP.out _ H.out.bel).2.1, (CAP.out _ H.out.bel).2.2, (HT.out _ (H.out.box 1 rfl)).1, (HT.out _ (H.out.box 1 rfl)).2.1, (HT.out _ (H.out.box 1 rfl)).2.2.1, (HT.out _ (H.out.box 1 rfl)).2.2.2⟩) (fun hHeld => ?_)
  clear hK K
  refine norm_ (a' := ?_) ?_ ?_
  rotate_left
  · show Act.put _ (some 51) _ = _
    simp only [Act.put, List.setIfInBounds_toArray, List.set_cons_zero, List.set_cons_succ, i64_w, i32_w]
    rfl
  refine zqp (i := 7) (N := some 6) (v := ?_) (a' := ?_) #[true, true, true, true, true, true, true, true] rfl rfl (by kernel_rfl) (fun _ _ _ h => h) (Or.inl ⟨by rfl, ?_⟩) ?_ ?_
  rotate_left
  · intro w'
    go_simp
    with_reducible rfl
  rotate_left
  · simp only [Act.put, List.setIfInBounds_toArray, List.set_cons_zero, List.set_cons_succ, i64_w, i32_w]
    rfl
  refine done_ (by kernel_rfl) ?_
  go_wp2
  refine start_ (n := 9) (S := fun w' => w'.cell? ⟨ga, 0, none⟩ = some (.int .i64 (a : Int)) ∧ w'.cell? ⟨gb, 0, none⟩ = some (.int .i64 (b : Int)) ∧ w'.cell? ⟨gc, 0, none⟩ = some (.int .i64 by_) ∧ w'.cell? ⟨g51, b, none⟩ = some (.int .u8 ((bytesOf tx)[b]?.getD 0))) (ds := [8]) #[false, false, false, false, false, false, false, false, false] (by kernel_rfl) rfl rfl (⟨(CAP.out _ H.out.bel).1, (CAP.out _ H.out.bel).2.1, (CAP.out _ H.out.bel).2.2, (B51.out b HBT.out).1⟩) (fun hHeld => ?_)
  clear hHeld
  have H1 := Az.mk H.out.drew
  clear H; have H := H1; clear H1
  have B6 := Az.mk (B51.out.move (w' := w51.drew) rfl)
  clear B51
  generalize World.drew w51 = wd6 at H B6 ⊢
  have hHeld : (fun w' => w'.cell? ⟨ga, 0, none⟩ = some (.int .i64 (a : Int)) ∧ w'.cell? ⟨gb, 0, none⟩ = some (.int .i64 (b : Int)) ∧ w'.cell? ⟨gc, 0, none⟩ = some (.int .i64 by_) ∧ w'.cell? ⟨g51, b, none⟩ = some (.int .u8 ((bytesOf tx)[b]?.getD 0))) wd6 := ⟨(CAP.out _ H.out.bel).1, (CAP.out _ H.out.bel).2.1, (CAP.out _ H.out.bel).2.2, (B6.out b HBT.out).1⟩
  refine zqp (i := 0) (N := some 52) (v := ?_) (a' := ?_) #[true, false, false, false, false, false, false, false, false] rfl rfl (by kernel_rfl) (fun _ _ _ h => h) (Or.inl ⟨by rfl, ?_⟩) ?_ ?_
  rotate_left
  · intro w'
    go_simp
    with_reducible rfl
  rotate_left
  · simp only [Act.put, List.setIfInBounds_toArray, List.set_cons_zero, List.set_cons_succ, i64_w, i32_w]
    rfl
  refine zqt (i := 1) (N := some 53) (v := ?_) (a' := ?_) #[true, true, false, false, false, false, false, false, false] rfl rfl (by kernel_rfl) (fun _ _ _ h => h) (Or.inl ⟨by rfl, ?_⟩) hHeld ?_ ?_
  rotate_left
  · rintro w' ⟨s0, s1, s2, s3⟩
    go_simp
    with_reducible rfl
  rotate_left
  · simp only [Act.put, List.setIfInBounds_toArray, List.set_cons_zero, List.set_cons_succ, i64_w, i32_w]
    rfl
  refine zqp (i := 2) (N := some 54) (v := ?_) (a' := ?_) #[true, true, true, false, false, false, false, false, false] rfl rfl (by kernel_rfl) (fun _ _ _ h => h) (Or.inl ⟨by rfl, ?_⟩) ?_ ?_
  rotate_left
  · intro w'
    go_simp
    with_reducible rfl
  rotate_left
  · simp only [Act.put, List.setIfInBounds_toArray, List.set_cons_zero, List.set_cons_succ, i64_w, i32_w]
    rfl
  refine zqt (i := 3) (N := some 55) (v := ?_) (a' := ?_) #[true, true, true, true, false, false, false, false, false] rfl rfl (by kernel_rfl) (fun _ _ _ h => h) (Or.inl ⟨by rfl, ?_⟩) hHeld ?_ ?_
  rotate_left
  · rintro w' ⟨s0, s1, s2, s3⟩
    go_simp
    with_reducible rfl
  rotate_left
  · simp only [Act.put, List.setIfInBounds_toArray, List.set_cons_zero, List.set_cons_succ, i64_w, i32_w]
    rfl
  refine zqt (i := 4) (N := some 56) (v := ?_) (a' := ?_) #[true, true, true, true, true, false, false, false, false] rfl rfl (by kernel_rfl) (fun _ _ _ h => h) (Or.inl ⟨by rfl, ?_⟩) hHeld ?_ ?_
  rotate_left
  · rintro w' ⟨s0, s1, s2, s3⟩
    go_simp
    with_reducible rfl
  rotate_left
  · simp only [Act.put, List.setIfInBounds_toArray, List.set_cons_zero, List.set_cons_succ, i64_w, i32_w]
    rfl
  refine zqp (i := 5) (N := some 57) (v := ?_) (a' := ?_) #[true, true, true, true, true, true, false, false, false] rfl rfl (by kernel_rfl) (fun _ _ _ h => h) (Or.inl ⟨by rfl, ?_⟩) ?_ ?_
  rotate_left
  · intro w'
    go_simp
    with_reducible rfl
  rotate_left
  · simp only [Act.put, List.setIfInBounds_toArray, List.set_cons_zero, List.set_cons_succ, i64_w, i32_w]
    rfl
  refine zqp (i := 6) (N := some 58) (v := ?_) (a' := ?_) #[true, true, true, true, true, true, true, false, false] rfl rfl (by kernel_rfl) (fun _ _ _ h => h) (Or.inl ⟨by rfl, ?_⟩) ?_ ?_
  rotate_left
  · intro w'
    go_simp
    with_reducible rfl
  rotate_left
  · simp only [Act.put, List.setIfInBounds_toArray, List.set_cons_zero, List.set_cons_succ, i64_w, i32_w]
    rfl
  refine zqp (i := 7) (N := some 59) (v := ?_) (a' := ?_) #[true, true, true, true, true, true, true, true, false] rfl rfl (by kernel_rfl) (fun _ _ _ h => h) (Or.inl ⟨by rfl, ?_⟩) ?_ ?_
  rotate_left
  · intro w'
    go_simp
    with_reducible rfl
  rotate_left
  · simp only [Act.put, List.setIfInBounds_toArray, List.set_cons_zero, List.set_cons_succ, i64_w, i32_w]
    rfl
  refine last_ (i := 8) (N := none) #[true, true, true, true, true, true, true, true, true] rfl rfl (by kernel_rfl) (by decide) (fun K hK => ?_)
  refine skip_ (by rfl) rfl (run_sc (v := .int .u8 (bits .xor .u8 ((bytesOf tx)[b]?.getD 0) (by_ % 256))) sizeS5 (B6.out b HBT.out).1 (B6.out b HBT.out).2 rfl rfl rfl rfl) ?_
  have B7 := Az.mk (B6.out.put (v := (bits .xor .u8 ((bytesOf tx)[b]?.getD 0) (by_ % 256))) HBT.out)
  have H1 := Az.mk (H.out.set_same 0 rfl (j := b) ⟨Nat.le_refl _, Nat.lt_succ_self _⟩ (.int .u8 (bits .xor .u8 ((bytesOf tx)[b]?.getD 0) (by_ % 256))))
  clear H; have H := H1; clear H1
  clear hHeld B6
  generalize World.setCell wd6 _ _ = w6s at H B7 ⊢
  refine hK.out _ _ ?_
  clear hK K
  refine norm_ (a' := ?_) ?_ ?_
  rotate_left
  · rfl
  refine done_ (by kernel_rfl) ?_
  go_wp2
  refine start_ (n := 15) (S := fun w' => w'.cell? ⟨ga, 0, none⟩ = some (.int .i64 (a : Int)) ∧ w'.cell? ⟨gb, 0, none⟩ = some (.int .i64 (b : Int)) ∧ w'.cell? ⟨gc, 0, none⟩ = some (.int .i64 by_) ∧ BytesAt w' g51 ((bytesOf tx).set b (bits .xor .u8 ((bytesOf tx)[b]?.getD 0) (by_ % 256)))) (ds := [14]) #[false, false, false, false, false, false, false, false, false, false, false, false, false, false, false] (by kernel_rfl) rfl rfl (⟨(CAP.out _ H.out.bel).1, (CAP.out _ H.out.bel).2.1, (CAP.out _ H.out.bel).2.2, B7.out⟩) (fun hHeld => ?_)
  clear hHeld
  have H1 := Az.mk H.out.drew
  clear H; have H := H1; clear H1
  have B8 := Az.mk (B7.out.move (w' := w6s.drew) rfl)
  clear B7
  generalize World.drew w6s = wd7 at H B8 ⊢
  have hHeld : (fun w' => w'.cell? ⟨ga, 0, none⟩ = some (.int .i64 (a : Int)) ∧ w'.cell? ⟨gb, 0, none⟩ = some (.int .i64 (b : Int)) ∧ w'.cell? ⟨gc, 0, none⟩ = some (.int .i64 by_) ∧ BytesAt w' g51 ((bytesOf tx).set b (bits .xor .u8 ((bytesOf tx)[b]?.getD 0) (by_ % 256)))) wd7 := ⟨(CAP.out _ H.out.bel).1, (CAP.out _ H.out.bel).2.1, (CAP.out _ H.out.bel).2.2, B8.out⟩
  refine zqp (i := 0) (N := some 60) (v := ?_) (a' := ?_) #[true, false, false, false, false, false, false, false, false, false, false, false, false, false, false] rfl rfl (by kernel_rfl) (fun _ _ _ h => h) (Or.inl ⟨by rfl, ?_⟩) ?_ ?_
  rotate_left
  · intro w'
    go_simp
    with_reducible rfl
  rotate_left
  · simp only [Act.put, List.setIfInBounds_toArray, List.set_cons_zero, List.set_cons_succ, i64_w, i32_w]
    rfl
  refine zqp (i := 2) (N := some 62) (v := ?_) (a' := ?_) #[true, false, true, false, false, false, false, false, false, false, false, false, false, false, false] rfl rfl (by kernel_rfl) (fun _ _ _ h => h) (Or.inl ⟨by rfl, ?_⟩) ?_ ?_
  rotate_left
  · intro w'
    go_simp
    with_reducible rfl
  rotate_left
  · simp only [Act.put, List.setIfInBounds_toArray, List.set_cons_zero, List.set_cons_succ, i64_w, i32_w]
    rfl
  refine zqp (i := 4) (N := some 64) (v := ?_) (a' := ?_) #[true, false, true, false, true, false, false, false, false, false, false, false, false, false, false] rfl rfl (by kernel_rfl) (fun _ _ _ h => h) (Or.inl ⟨by rfl, ?_⟩) ?_ ?_
  rotate_left
  · intro w'
    go_simp
    with_reducible rfl
  rotate_left
  · simp only [Act.put, List.setIfInBounds_toArray, List.set_cons_zero, List.set_cons_succ, i64_w, i32_w]
    rfl
  refine zqt (i := 5) (N := some 65) (v := .string (strOfNums ((bytesOf tx).set b (bits .xor .u8 ((bytesOf tx)[b]?.getD 0) (by_ % 256))))) (a' := ?_) #[true, false, true, false, true, true, false, false, false, false, false, false, false, false, false] rfl rfl (by kernel_rfl) (fun _ _ _ h => h) (Or.inl ⟨by rfl, fun w' s0 => run_back Try.underlying9 Try.underlying22 Try.underlying5 rfl rfl (by rw [List.length_set]; simp [bytesOf]) s0.2.2.2⟩) hHeld ?_ ?_
  rotate_left
  · simp only [Act.put, List.setIfInBounds_toArray, List.set_cons_zero, List.set_cons_succ, i64_w, i32_w]
    rfl
  refine zqp (i := 6) (N := some 66) (v := ?_) (a' := ?_) #[true, false, true, false, true, true, true, false, false, false, false, false, false, false, false] rfl rfl (by kernel_rfl) (fun _ _ _ h => h) (Or.inl ⟨by rfl, ?_⟩) ?_ ?_
  rotate_left
  · intro w'
    go_simp
    with_reducible rfl
  rotate_left
  · simp only [Act.put, List.setIfInBounds_toArray, List.set_cons_zero, List.set_cons_succ, i64_w, i32_w]
    rfl
  refine zqp (i := 7) (N := some 67) (v := ?_) (a' := ?_) #[true, false, true, false, true, true, true, true, false, false, false, false, false, false, false] rfl rfl (by kernel_rfl) (fun _ _ _ h => h) (Or.inl ⟨by rfl, ?_⟩) ?_ ?_
  rotate_left
  · intro w'
    go_simp
    with_reducible rfl
  rotate_left
  · simp only [Act.put, List.setIfInBounds_toArray, List.set_cons_zero, List.set_cons_succ, i64_w, i32_w]
    rfl
  refine zqp (i := 10) (N := some 69) (v := ?_) (a' := ?_) #[true, false, true, false, true, true, true, true, false, false, true, false, false, false, false] rfl rfl (by kernel_rfl) (fun _ _ _ h => h) (Or.inl ⟨by rfl, ?_⟩) ?_ ?_
  rotate_left
  · intro w'
    go_simp
    with_reducible rfl
  rotate_left
  · simp only [Act.put, List.setIfInBounds_toArray, List.set_cons_zero, List.set_cons_succ, i64_w, i32_w]
    rfl
  refine zqp (i := 11) (N := some 70) (v := ?_) (a' := ?_) #[true, false, true, false, true, true, true, true, false, false, true, true, false, false, false] rfl rfl (by kernel_rfl) (fun _ _ _ h => h) (Or.inl ⟨by rfl, ?_⟩) ?_ ?_
  rotate_left
  · intro w'
    go_simp
    with_reducible rfl
  rotate_left
  · simp only [Act.put, List.setIfInBounds_toArray, List.set_cons_zero, List.set_cons_succ, i64_w, i32_w]
    rfl
  refine zqp (i := 12) (N := some 71) (v := ?_) (a' := ?_) #[true, false, true, false, true, true, true, true, false, false, true, true, true, false, false] rfl rfl (by kernel_rfl) (fun _ _ _ h => h) (Or.inl ⟨by rfl, ?_⟩) ?_ ?_
  rotate_left
  · intro w'
    go_simp
    with_reducible rfl
  rotate_left
  · simp only [Act.put, List.setIfInBounds_toArray, List.set_cons_zero, List.set_cons_succ, i64_w, i32_w]
    rfl
  refine zqt (i := 1) (N := some 61) (v := ?_) (a' := ?_) #[true, true, true, false, true, true, true, true, false, false, true, true, true, false, false] rfl rfl (by kernel_rfl) (fun _ _ _ h => h) (Or.inl ⟨by rfl, ?_⟩) hHeld ?_ ?_
  rotate_left
  · rintro w' ⟨s0, s1, s2, s3⟩
    go_simp
    with_reducible rfl
  rotate_left
  · simp only [Act.put, List.setIfInBounds_toArray, List.set_cons_zero, List.set_cons_succ, i64_w, i32_w]
    rfl
  refine zqp (i := 8) (N := some 68) (v := ?_) (a' := ?_) #[true, true, true, false, true, true, true, true, true, false, true, true, true, false, false] rfl rfl (by kernel_rfl) (fun _ _ _ h => h) (Or.inl ⟨by rfl, ?_⟩) ?_ ?_
  rotate_left
  · intro w'
    go_simp
    with_reducible rfl
  rotate_left
  · simp only [Act.put, List.setIfInBounds_toArray, List.set_cons_zero, List.set_cons_succ, i64_w, i32_w]
    rfl
  refine zqt (i := 3) (N := some 63) (v := ?_) (a' := ?_) #[true, true, true, true, true, true, true, true, true, false, true, true, true, false, false] rfl rfl (by kernel_rfl) (fun _ _ _ h => h) (Or.inl ⟨by rfl, ?_⟩) hHeld ?_ ?_
  rotate_left
  · rintro w' ⟨s0, s1, s2, s3⟩
    go_simp
    with_reducible rfl
  rotate_left
  · simp only [Act.put, List.setIfInBounds_toArray, List.set_cons_zero, List.set_cons_succ, i64_w, i32_w]
    rfl
  refine one_ (i := 9) (N := none) #[true, true, true, true, true, true, true, true, true, true, true, true, true, false, false] rfl rfl (by kernel_rfl) (by decide) (fun K hK => ?_)
  refine skip_ (by rfl) rfl (run_sc (v := .string (strOfNums ((bytesOf tx).set b (bits .xor .u8 ((bytesOf tx)[b]?.getD 0) (by_ % 256))))) sizeS9 (A := ⟨g, 13 + a, none⟩) (u := .string tx) (HT.out _ (H.out.box 1 rfl)).1 (zq5 (H.out.box 1 rfl) _) rfl rfl rfl rfl) ?_
  have H1 := Az.mk (H.out.set_box 1 rfl (13 + a) (.string (strOfNums ((bytesOf tx).set b (bits .xor .u8 ((bytesOf tx)[b]?.getD 0) (by_ % 256))))))
  rw [set_sl LSP.out LSL.out HA.out] at H1
  clear H; have H := H1; clear H1
  clear hHeld
  have B9 := Az.mk (B8.out.move (Below.heap_setCell wd7 ⟨g, 13 + a, none⟩ (.string (strOfNums ((bytesOf tx).set b (bits .xor .u8 ((bytesOf tx)[b]?.getD 0) (by_ % 256))))) g51 G51.out))
  generalize World.setCell wd7 _ _ = w7s at H B9 ⊢
  refine hK.out _ _ (⟨(CAP.out _ H.out.bel).1, (CAP.out _ H.out.bel).2.1, (CAP.out _ H.out.bel).2.2, B9.out⟩) (fun hHeld => ?_)
  clear hK K
  refine norm_ (a' := ?_) ?_ ?_
  rotate_left
  · rfl
  refine zqp (i := 13) (N := some 72) (v := ?_) (a' := ?_) #[true, true, true, true, true, true, true, true, true, true, true, true, true, true, false] rfl rfl (by kernel_rfl) (fun _ _ _ h => h) (Or.inl ⟨by rfl, ?_⟩) ?_ ?_
  rotate_left
  · intro w'
    go_simp
    with_reducible rfl
  rotate_left
  · simp only [Act.put, List.setIfInBounds_toArray, List.set_cons_zero, List.set_cons_succ, i64_w, i32_w]
    rfl
  refine last_ (i := 14) (N := none) #[true, true, true, true, true, true, true, true, true, true, true, true, true, true, true] rfl rfl (by kernel_rfl) (by decide) (fun K hK => ?_)
  refine skip_ (by rfl) rfl (run_sc (v := .bool true) sizeS4 (A := ⟨g, 1 + a, none⟩) ((zq4 (H.out.box 1 rfl) (1 + a)).trans (dc_sp LSP.out HA.out)) (zq5 (H.out.box 1 rfl) _) rfl rfl rfl rfl) ?_
  have H1 := Az.mk (H.out.set_box 1 rfl (1 + a) (.bool true))
  rw [set_sp LSP.out HA.out] at H1
  clear H; have H := H1; clear H1
  generalize World.setCell w7s _ _ = w7t at H ⊢
  refine hK.out _ _ ?_
  clear hK K
  refine norm_ (a' := ?_) ?_ ?_
  rotate_left
  · rfl
  refine done_ (by kernel_rfl) ?_
  go_wp2
  go_ret
  have e := HTX.out
  subst e
  refine ⟨rfl, ⟨by rw [HFI.out]; exact H.out.box 1 rfl, SG.out.keep fun k h1 h2 => H.out.same 2 rfl k h1 (Nat.lt_of_le_of_lt h2 HLL.out), by rw [List.length_set]; exact LSP.out, by rw [List.length_set]; exact LSL.out, LRG.out⟩, H.out.bel⟩
end Go.Proofs.Ytkgpnloghmbmlaa.Print
