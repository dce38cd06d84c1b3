/- Proved, with what follows on it: the row of the law FnExactDiskPut. Conditions: the row's alone. Texts of this session and words that the kit's print laid for this seat, merged and cut by shrink.py, a program of this session. -/
import Derived.Test.YtkgpnloghmbmlaaZFnExactDiskPutE
namespace Go.Proofs.Ytkgpnloghmbmlaa.Hd
open Go.RowKit Go.Proofs.Ytkgpnloghmbmlaa.Print Go.Proofs.YtkgpnloghmbmlaaW.PrintWords Go.Proofs.YtkgpnloghmbmlaaW.PrintLast Go.Proofs.Ytkgpnloghmbmlaa.Pure
set_option linter.unusedVariables false
set_option linter.unusedSimpArgs false
theorem below_of_none {w w1 : World} (hg : w.grownBy w1 none) : Below w.heap.size w w1 := ⟨hg.os, hg.tape, hg.output, hg.size, fun k hk => hg.block k hk (by simp)⟩
theorem own_new {v : Value} {n : Nat} (h : ∃ b, v.ownBlock = some b ∧ n ≤ b) : ∀ k, v.ownBlock = some k → n ≤ k := fun k hk => by
  obtain ⟨b, hb, hn⟩ := h
  rw [hb] at hk
  injection hk with hk
  omega
theorem own_lt' {α : Type} {d : Kd α} {t b : Nat} {w : World} {ok : Nat → Prop} {v : Value} {xs : List α} (h : d.R t w b ok v xs) : ∀ k, v.ownBlock = some k → k < w.heap.size := fun k hk => by
  obtain ⟨_, inner, ho, _⟩ := h
  exact own_lt ho k hk
def Ownerless {α : Type} (d : Kd α) : Prop := ∀ (w w' : World) (b : Nat) (ok ok' : Nat → Prop) (x : α) (cs : List Value), d.M w b ok x cs → d.M w' b ok' x cs
theorem ownerless_string : Ownerless Kd.string := fun _ _ _ _ _ _ _ h => h
theorem ownerless_bool : Ownerless Kd.bool := fun _ _ _ _ _ _ _ h => h
theorem ownerless_k54 : Ownerless k54 := fun _ _ _ _ _ _ _ h => h
theorem R_own_only {α : Type} {d : Kd α} {t b : Nat} {w w' : World} {ok : Nat → Prop} {v : Value} {xs : List α} (h : d.R t w b ok v xs) (hd : Ownerless d) (hk : ∀ k, v.ownBlock = some k → w'.heap[k]? = w.heap[k]?) : d.R t w' b ok v xs := by
  obtain ⟨h0, inner, ho, hr⟩ := h
  exact ⟨h0, inner, own_move ho hk, hr.imp_ fun _ _ hp => hd _ _ _ _ _ _ _ hp⟩
theorem ne_types {α β : Type} {d : Kd α} {d' : Kd β} {t t' b b' : Nat} {w : World} {ok ok' : Nat → Prop} {v v' : Value} {xs : List α} {ys : List β} (h : d.R t w b ok v xs) (h' : d'.R t' w b' ok' v' ys) (ht : t ≠ t') : ∀ k, v.ownBlock = some k → some k ≠ v'.ownBlock := fun k hk e => by
  obtain ⟨_, _, ho, _⟩ := h
  obtain ⟨_, _, ho', _⟩ := h'
  obtain ⟨c, hc⟩ := own_typed ho k hk
  obtain ⟨c', hc'⟩ := own_typed ho' k e.symm
  rw [hc] at hc'
  injection hc' with hc'
  injection hc' with _ hc'
  exact ht hc'
theorem R_far_types {α β : Type} {d : Kd α} {d' : Kd β} {t t' b b' : Nat} {w w1 : World} {ok ok' : Nat → Prop} {v v' : Value} {xs : List α} {ys : List β} (h : d.R t w b ok v xs) (h' : d'.R t' w b' ok' v' ys) (ht : t ≠ t') (hg : w.grownBy w1 v'.ownBlock) (hd : Ownerless d) : d.R t w1 b ok v xs :=
  R_own_only h hd fun k hk => hg.block k (own_lt' h k hk) (ne_types h h' ht k hk)
theorem R_far_ne {α : Type} {d : Kd α} {t b : Nat} {w w1 : World} {ok : Nat → Prop} {v v' : Value} {xs : List α} (h : d.R t w b ok v xs) (hg : w.grownBy w1 v'.ownBlock) (hn : v'.ownBlock = none ∨ v'.ownBlock ≠ v.ownBlock) (hd : Ownerless d) : d.R t w1 b ok v xs :=
  R_own_only h hd fun k hk => hg.block k (own_lt' h k hk) (atom_of' hn hk)
theorem R_far_ne' {α : Type} {d : Kd α} {t b : Nat} {w w1 : World} {ok : Nat → Prop} {v v' : Value} {xs : List α} (h : d.R t w b ok v xs) (hg : w.grownBy w1 v'.ownBlock) (hn : v.ownBlock = none ∨ v.ownBlock ≠ v'.ownBlock) (hd : Ownerless d) : d.R t w1 b ok v xs :=
  R_own_only h hd fun k hk => hg.block k (own_lt' h k hk) (atom_of hn hk)
theorem ne_left {v v1 u : Value} {n : Nat} (h : v1.ownBlock = v.ownBlock ∨ ∃ b, v1.ownBlock = some b ∧ n ≤ b) (hn : v.ownBlock = none ∨ v.ownBlock ≠ u.ownBlock) (hu : ∀ k, u.ownBlock = some k → k < n) : v1.ownBlock = none ∨ v1.ownBlock ≠ u.ownBlock := by
  rcases h with h | h
  · rw [h]; exact hn
  · exact own_apart' (own_new h) hu
theorem ne_right {v v1 u : Value} {n : Nat} (h : v1.ownBlock = v.ownBlock ∨ ∃ b, v1.ownBlock = some b ∧ n ≤ b) (hn : u.ownBlock = none ∨ u.ownBlock ≠ v.ownBlock) (hu : ∀ k, u.ownBlock = some k → k < n) : u.ownBlock = none ∨ u.ownBlock ≠ v1.ownBlock := by
  rcases h with h | h
  · rw [h]; exact hn
  · exact own_apart hu (own_new h)
theorem own_ge2 {α : Type} {d : Kd α} {t b g g' s s' : Nat} {w : World} {ok : Nat → Prop} {v : Value} {xs : List α} {cs cs' : Array Value} (h : d.R t w b ok v xs) (hg : w.heap[g]? = some (.cells cs s (0, 0))) (hg' : w.heap[g']? = some (.cells cs' s' (0, 0))) (ht : t ≠ s ∧ t ≠ s') : ∀ k, v.ownBlock = some k → b ≤ k ∧ k ≠ g ∧ k ≠ g' := fun k hk => by
  obtain ⟨_, _, ho, _⟩ := h
  obtain ⟨c, hc⟩ := own_typed ho k hk
  refine ⟨own_base ho k hk, ?_, ?_⟩
  · rintro rfl
    rw [hc] at hg
    injection hg with hg
    injection hg with _ hg
    exact ht.1 hg
  · rintro rfl
    rw [hc] at hg'
    injection hg' with hg'
    injection hg' with _ hg'
    exact ht.2 hg'
theorem Hd.grown2 {base : Nat} {w0 w w1 : World} {g g' s s' : Nat} {cs cs' : Array Value} {row : Option Nat} (h : Hd base w0 w [.box g cs s, .box g' cs' s']) (hg : w.grownBy w1 row) (hr : ∀ k, row = some k → base ≤ k ∧ k ≠ g ∧ k ≠ g') : Hd base w0 w1 [.box g cs s, .box g' cs' s'] :=
  h.grown hg fun k hk => ⟨(hr k hk).1, fun p hp => by
    have := hr k hk
    rcases List.mem_cons.1 hp with rfl | hp
    · have : (Part.box g cs s).lo = g := rfl; have : (Part.box g cs s).hi = g + 1 := rfl; omega
    · rcases List.mem_cons.1 hp with rfl | hp
      · have : (Part.box g' cs' s').lo = g' := rfl; have : (Part.box g' cs' s').hi = g' + 1 := rfl; omega
      · cases hp⟩
theorem R_set_far {α : Type} {d : Kd α} {t b g s : Nat} {w : World} {ok : Nat → Prop} {v : Value} {xs : List α} {cs : Array Value} (h : d.R t w b ok v xs) (hg : w.heap[g]? = some (.cells cs s (0, 0))) (ht : t ≠ s) (cs' : Array Value) (hd : Ownerless d) : d.R t (w.setRow g cs') b ok v xs :=
  R_own_only h hd fun k hk => setRow_other w g k cs' fun e => by
    obtain ⟨_, _, ho, _⟩ := h
    obtain ⟨c, hc⟩ := own_typed ho k hk
    subst e
    rw [hc] at hg
    injection hg with hg
    injection hg with _ hg
    exact ht hg
theorem infoL9 : (Try.prog.info? 9).map (fun i => (i.zero, i.size, i.bytes)) = some (some (.string ⟨#[]⟩), 1, 16) := by kernel_rfl
theorem infoL4 : (Try.prog.info? 4).map (fun i => (i.zero, i.size, i.bytes)) = some (some (.bool false), 1, 1) := by kernel_rfl
theorem infoL54 : (Try.prog.info? 54).map (fun i => (i.zero, i.size, i.bytes)) = some (some (.agg #[.bool false, .int .i64 0, .string ⟨#[]⟩]), 3, 32) := by kernel_rfl
theorem sizeL28 : (Try.prog.info? 28).map (·.size) = some 5 := by kernel_rfl
def TC : Bool × List (List Nat × List Nat) := (true, [([], []), ([0], [0]), ([], []), ([], []), ([3], [3]), ([2, 4], [2, 4]), ([], []), ([], []), ([7], [7]), ([6, 8, 5], [6, 8]), ([], []), ([], []), ([11], [11]), ([10, 12, 9], [10, 12]), ([], []), ([], []), ([15], [15]), ([14, 16, 13], [14, 16]), ([1, 5, 9, 13, 17], [1, 5, 9, 13, 17]), ([18, 17, 0, 1, 2, 3, 4, 5, 6, 7, 8, 9, 10, 11, 12, 13, 14, 15, 16, 17, 18], [18])])
def BC : List Nat := [0, 1, 0, 0, 8, 28, 0, 0, 128, 508, 0, 0, 2048, 8188, 0, 0, 32768, 131068, 262143, 524287]
theorem tabC : rtab .any (opsOf Try.f80 1) = TC := by kernel_rfl
theorem bitsC : waitsOk TC.2 BC = true := by kernel_rfl
set_option maxHeartbeats 8000000 in
set_option maxRecDepth 100000 in
theorem l3Copy_call {w : World} {M : Mm} {D : Dd} (hf : FitsD D) (h : Rd w M D) : Calls Try.prog 80 #[.agg (cD M D)] w (Gives D w) := by
  have hu28 := Try.underlying28
  have hs28 := sizeL28
  have HF := Az.mk hf
  have HR := Az.mk h
  have H := Az.mk (Hd.start w)
  clear hf h
  go_enter Try.func80, Try.ntmps80
  go_wp2_with (first | ((with_reducible refine zqg (N := 1) rfl ?_); refine H.out.bx rfl (cD M D) 28 ?hr ?_; (case hr => first | (go_simp; done) | (go_simp; rfl)); intro g1 wa H1; clear H; have H := H1; clear H1) | ((with_reducible refine zqg (N := 2) rfl ?_); refine H.out.bx rfl #[.int .i64 0, .slice none 0 0, .slice none 0 0, .slice none 0 0, .slice none 0 0] 28 ?hr ?_; (case hr => first | (go_simp; done) | (go_simp; rfl)); intro g2 wb H1; clear H; have H := H1; clear H1))
  refine start_ (n := 20) (S := fun w' => True) (ds := []) #[false, false, false, false, false, false, false, false, false, false, false, false, false, false, false, false, false, false, false, false] (by kernel_rfl) rfl rfl trivial (fun hHeld => ?_)
  refine with_tabW tabC bitsC (fun HT_ HW_ => ?_)
  have HD := Az.mk H.out.drew
  clear hHeld H
  generalize wb.drew = wd at HD ⊢
  refine zqp (i := 0) (N := some 3) (v := ?_) (a' := ?_) #[true, false, false, false, false, false, false, false, false, false, false, false, false, false, false, false, false, false, false, false] rfl rfl (by kernel_rfl) (fun _ _ _ h => h) (Or.inl ⟨by rfl, ?_⟩) ?_ ?_
  rotate_left
  · intro w'
    go_simp
    with_reducible rfl
  rotate_left
  · simp only [Act.put, List.setIfInBounds_toArray, List.set_cons_zero, List.set_cons_succ, i64_w, i32_w]
    rfl
  refine zqp (i := 3) (N := some 6) (v := ?_) (a' := ?_) #[true, false, false, true, false, false, false, false, false, false, false, false, false, false, false, false, false, false, false, false] rfl rfl (by kernel_rfl) (fun _ _ _ h => h) (Or.inl ⟨by rfl, ?_⟩) ?_ ?_
  rotate_left
  · intro w'
    go_simp
    with_reducible rfl
  rotate_left
  · simp only [Act.put, List.setIfInBounds_toArray, List.set_cons_zero, List.set_cons_succ, i64_w, i32_w]
    rfl
  refine zqp (i := 7) (N := some 10) (v := ?_) (a' := ?_) #[true, false, false, true, false, false, false, true, false, false, false, false, false, false, false, false, false, false, false, false] rfl rfl (by kernel_rfl) (fun _ _ _ h => h) (Or.inl ⟨by rfl, ?_⟩) ?_ ?_
  rotate_left
  · intro w'
    go_simp
    with_reducible rfl
  rotate_left
  · simp only [Act.put, List.setIfInBounds_toArray, List.set_cons_zero, List.set_cons_succ, i64_w, i32_w]
    rfl
  refine zqp (i := 11) (N := some 14) (v := ?_) (a' := ?_) #[true, false, false, true, false, false, false, true, false, false, false, true, false, false, false, false, false, false, false, false] rfl rfl (by kernel_rfl) (fun _ _ _ h => h) (Or.inl ⟨by rfl, ?_⟩) ?_ ?_
  rotate_left
  · intro w'
    go_simp
    with_reducible rfl
  rotate_left
  · simp only [Act.put, List.setIfInBounds_toArray, List.set_cons_zero, List.set_cons_succ, i64_w, i32_w]
    rfl
  refine zqp (i := 15) (N := some 18) (v := ?_) (a' := ?_) #[true, false, false, true, false, false, false, true, false, false, false, true, false, false, false, true, false, false, false, false] rfl rfl (by kernel_rfl) (fun _ _ _ h => h) (Or.inl ⟨by rfl, ?_⟩) ?_ ?_
  rotate_left
  · intro w'
    go_simp
    with_reducible rfl
  rotate_left
  · simp only [Act.put, List.setIfInBounds_toArray, List.set_cons_zero, List.set_cons_succ, i64_w, i32_w]
    rfl
  refine inv_at [1, 2, 4, 5, 6, 8, 9, 10, 12, 13, 14, 16, 17, 18, 19] (fun a0_ b a w' => ∃ (b1 : Value) (b2 : Value) (b3 : Value) (b4 : Value) (a1 : Value) (a2 : Value) (a3 : Value) (a4 : Value) (m18_ : Value), a = putSel a0_ b [(1, 4, .int .i64 D.st), (2, 5, b1), (4, 7, .slice M.A1 D.l1.length M.c1), (5, 8, a1), (6, 9, b2), (8, 11, .slice M.A2 D.l2.length M.c2), (9, 12, a2), (10, 13, b3), (12, 15, .slice M.A3 D.l3.length M.c3), (13, 16, a3), (14, 17, b4), (16, 19, .slice M.A4 D.l4.length M.c4), (17, 20, a4), (18, 21, m18_)] ∧ (b 19 = false → Hd w.heap.size w w' [.box g2 #[.int .i64 0, .slice none 0 0, .slice none 0 0, .slice none 0 0, .slice none 0 0] 28, .box g1 (cD M D) 28]) ∧ (b 2 = true → b 5 = false → Kd.R Kd.string 9 w' w.heap.size (fun _ => True) b1 ([] : List ByteArray)) ∧ (b 5 = true → b 19 = false → Kd.R Kd.string 9 w' w.heap.size (fun _ => True) a1 D.l1) ∧ (b 6 = true → b 9 = false → Kd.R Kd.string 9 w' w.heap.size (fun _ => True) b2 ([] : List ByteArray)) ∧ (b 9 = true → b 19 = false → Kd.R Kd.string 9 w' w.heap.size (fun _ => True) a2 D.l2) ∧ (b 10 = true → b 13 = false → Kd.R Kd.bool 4 w' w.heap.size (fun _ => True) b3 ([] : List Bool)) ∧ (b 13 = true → b 19 = false → Kd.R Kd.bool 4 w' w.heap.size (fun _ => True) a3 D.l3) ∧ (b 14 = true → b 17 = false → Kd.R k54 54 w' w.heap.size (fun _ => True) b4 ([] : List S54)) ∧ (b 17 = true → b 19 = false → Kd.R k54 54 w' w.heap.size (fun _ => True) a4 D.l4) ∧ (b 2 = true → b 6 = true → b 5 = false → b 9 = false → (b1 : Value).ownBlock = none ∨ (b1 : Value).ownBlock ≠ (b2 : Value).ownBlock) ∧ (b 5 = true → b 6 = true → b 9 = false → (a1 : Value).ownBlock = none ∨ (a1 : Value).ownBlock ≠ (b2 : Value).ownBlock) ∧ (b 5 = true → b 9 = true → (a1 : Value).ownBlock = none ∨ (a1 : Value).ownBlock ≠ (a2 : Value).ownBlock) ∧ (b 19 = true → (Hd w.heap.size w w' [.box g2 #[.int .i64 D.st, a1, a2, a3, a4] 28, .box g1 (cD M D) 28] ∧ Kd.R Kd.string 9 w' w.heap.size (fun _ => True) a1 D.l1 ∧ Kd.R Kd.string 9 w' w.heap.size (fun _ => True) a2 D.l2 ∧ Kd.R Kd.bool 4 w' w.heap.size (fun _ => True) a3 D.l3 ∧ Kd.R k54 54 w' w.heap.size (fun _ => True) a4 D.l4)) ∧ (b 18 = true → (m18_ : Value) = .agg #[.int .i64 D.st, a1, a2, a3, a4])) HT_.out HW_.out (by kernel_rfl) (by kernel_rfl) ?_ ?_ ?_
  · exact ⟨.bool false, .bool false, .bool false, .bool false, .bool false, .bool false, .bool false, .bool false, .bool false, by simp only [putSel, Bool.false_eq_true, if_false], fun _ => HD.out, fun h_ => absurd h_ (by decide), fun h_ => absurd h_ (by decide), fun h_ => absurd h_ (by decide), fun h_ => absurd h_ (by decide), fun h_ => absurd h_ (by decide), fun h_ => absurd h_ (by decide), fun h_ => absurd h_ (by decide), fun h_ => absurd h_ (by decide), fun h_ => absurd h_ (by decide), fun h_ => absurd h_ (by decide), fun h_ => absurd h_ (by decide), fun h_ => absurd h_ (by decide), fun h_ => absurd h_ (by decide)⟩
  · skip
    clear HD
    refine steps_cons ?_ ?_
    · rintro b a w' ⟨b1, b2, b3, b4, a1, a2, a3, a4, m18_, ha, Q_HD, Q_FB1, Q_FA1, Q_FB2, Q_FA2, Q_FB3, Q_FA3, Q_FB4, Q_FA4, Q_NBB, Q_NAB, Q_NAA, Q_HE, Q_X18_⟩ hb_ hon hoff
      refine ⟨_, rfl, fun K hK => ?_⟩
      have e3 : a.tmps[3]? = some (.pointer (some ⟨g1, 0, none⟩)) := by rw [ha]; exact (putSel_off rfl).trans rfl
      replace ha := Az.mk ha
      have HD := Az.mk (Q_HD (hoff 19 (by kernel_rfl)))
      refine value_ (w1 := w') (v := .int .i64 D.st) (by rfl) rfl (HD.out.run_cell 1 rfl 0 rfl rfl (eval_of e3) Try.underlying3 rfl) ?_
      refine hK.out _ _ ⟨b1, b2, b3, b4, a1, a2, a3, a4, m18_, (by rw [ha.out]; exact putSel_upk 0 hb_ rfl rfl rfl), fun _ => HD.out, fun h0_ h1_ => (Q_FB1 h0_ h1_), fun h0_ h1_ => (Q_FA1 h0_ h1_), fun h0_ h1_ => (Q_FB2 h0_ h1_), fun h0_ h1_ => (Q_FA2 h0_ h1_), fun h0_ h1_ => (Q_FB3 h0_ h1_), fun h0_ h1_ => (Q_FA3 h0_ h1_), fun h0_ h1_ => (Q_FB4 h0_ h1_), fun h0_ h1_ => (Q_FA4 h0_ h1_), fun h0_ h1_ h2_ h3_ => (Q_NBB h0_ h1_ h2_ h3_), fun h0_ h1_ h2_ => (Q_NAB h0_ h1_ h2_), fun h0_ h1_ => (Q_NAA h0_ h1_), fun h0_ => absurd ((hoff 19 (by kernel_rfl)).symm.trans h0_) (by decide), fun h0_ => absurd ((hoff 18 (by kernel_rfl)).symm.trans h0_) (by decide)⟩
    refine steps_cons ?_ ?_
    · rintro b a w' ⟨b1, b2, b3, b4, a1, a2, a3, a4, m18_, ha, Q_HD, Q_FB1, Q_FA1, Q_FB2, Q_FA2, Q_FB3, Q_FA3, Q_FB4, Q_FA4, Q_NBB, Q_NAB, Q_NAA, Q_HE, Q_X18_⟩ hb_ hon hoff
      refine ⟨_, rfl, fun K hK => ?_⟩
      replace ha := Az.mk ha
      have HD := Az.mk (Q_HD (hoff 19 (by kernel_rfl)))
      refine Kd.R_lit_step Kd.string w.heap.size 9 (by rfl) (N := 5) rfl (xs := ([] : List ByteArray)) (inner := []) (ok := fun _ => True) (okp := fun _ => True) (w0 := w) ?hr (Reps.none _ _) (fun _ hk => hk) trivial HD.out.bel HD.out.base_le (by simp) ?_
      (case hr => first | (go_simp; done) | (go_simp; rfl))
      intro v1 w1 hr1 _ hg1 hn1
      have hb1 := below_of_none hg1
      refine hK.out _ _ ⟨v1, b2, b3, b4, a1, a2, a3, a4, m18_, (by rw [ha.out]; exact putSel_upk 1 hb_ rfl rfl rfl), fun _ => HD.out.step hb1, fun _ _ => hr1, fun h0_ _ => absurd ((hoff 5 (by kernel_rfl)).symm.trans h0_) (by decide), fun h0_ h1_ => Kd.R_below (Q_FB2 h0_ h1_) hb1, fun h0_ _ => absurd ((hoff 9 (by kernel_rfl)).symm.trans h0_) (by decide), fun h0_ h1_ => Kd.R_below (Q_FB3 h0_ h1_) hb1, fun h0_ _ => absurd ((hoff 13 (by kernel_rfl)).symm.trans h0_) (by decide), fun h0_ h1_ => Kd.R_below (Q_FB4 h0_ h1_) hb1, fun h0_ _ => absurd ((hoff 17 (by kernel_rfl)).symm.trans h0_) (by decide), fun h0_ h1_ h2_ h3_ => own_apart' (own_new hn1) (own_lt' (Q_FB2 h1_ h3_)), fun h0_ _ _ => absurd ((hoff 5 (by kernel_rfl)).symm.trans h0_) (by decide), fun h0_ _ => absurd ((hoff 5 (by kernel_rfl)).symm.trans h0_) (by decide), fun h0_ => absurd ((hoff 19 (by kernel_rfl)).symm.trans h0_) (by decide), fun h0_ => absurd ((hoff 18 (by kernel_rfl)).symm.trans h0_) (by decide)⟩
    refine steps_cons ?_ ?_
    · rintro b a w' ⟨b1, b2, b3, b4, a1, a2, a3, a4, m18_, ha, Q_HD, Q_FB1, Q_FA1, Q_FB2, Q_FA2, Q_FB3, Q_FA3, Q_FB4, Q_FA4, Q_NBB, Q_NAB, Q_NAA, Q_HE, Q_X18_⟩ hb_ hon hoff
      refine ⟨_, rfl, fun K hK => ?_⟩
      have e6 : a.tmps[6]? = some (.pointer (some ⟨g1, 1, none⟩)) := by rw [ha]; exact (putSel_off rfl).trans rfl
      replace ha := Az.mk ha
      have HD := Az.mk (Q_HD (hoff 19 (by kernel_rfl)))
      refine value_ (w1 := w') (v := .slice M.A1 D.l1.length M.c1) (by rfl) rfl (HD.out.run_cell 1 rfl 1 rfl rfl (eval_of e6) Try.underlying24 rfl) ?_
      refine hK.out _ _ ⟨b1, b2, b3, b4, a1, a2, a3, a4, m18_, (by rw [ha.out]; exact putSel_upk 2 hb_ rfl rfl rfl), fun _ => HD.out, fun h0_ h1_ => (Q_FB1 h0_ h1_), fun h0_ _ => absurd ((hoff 5 (by kernel_rfl)).symm.trans h0_) (by decide), fun h0_ h1_ => (Q_FB2 h0_ h1_), fun h0_ _ => absurd ((hoff 9 (by kernel_rfl)).symm.trans h0_) (by decide), fun h0_ h1_ => (Q_FB3 h0_ h1_), fun h0_ _ => absurd ((hoff 13 (by kernel_rfl)).symm.trans h0_) (by decide), fun h0_ h1_ => (Q_FB4 h0_ h1_), fun h0_ _ => absurd ((hoff 17 (by kernel_rfl)).symm.trans h0_) (by decide), fun h0_ h1_ h2_ h3_ => (Q_NBB h0_ h1_ h2_ h3_), fun h0_ _ _ => absurd ((hoff 5 (by kernel_rfl)).symm.trans h0_) (by decide), fun h0_ _ => absurd ((hoff 5 (by kernel_rfl)).symm.trans h0_) (by decide), fun h0_ => absurd ((hoff 19 (by kernel_rfl)).symm.trans h0_) (by decide), fun h0_ => absurd ((hoff 18 (by kernel_rfl)).symm.trans h0_) (by decide)⟩
    refine steps_cons ?_ ?_
    · rintro b a w' ⟨b1, b2, b3, b4, a1, a2, a3, a4, m18_, ha, Q_HD, Q_FB1, Q_FA1, Q_FB2, Q_FA2, Q_FB3, Q_FA3, Q_FB4, Q_FA4, Q_NBB, Q_NAB, Q_NAA, Q_HE, Q_X18_⟩ hb_ hon hoff
      refine ⟨_, rfl, fun K hK => ?_⟩
      have e5 : a.tmps[5]? = some (b1) := by rw [ha]; exact putSel_on (e := (2, 5, b1)) 1 rfl rfl (hon 2 (by kernel_rfl)) rfl
      have e7 : a.tmps[7]? = some (.slice M.A1 D.l1.length M.c1) := by rw [ha]; exact putSel_on (e := (4, 7, .slice M.A1 D.l1.length M.c1)) 2 rfl rfl (hon 4 (by kernel_rfl)) rfl
      replace ha := Az.mk ha
      have HD := Az.mk (Q_HD (hoff 19 (by kernel_rfl)))
      have FB1 := Az.mk (Q_FB1 (hon 2 (by kernel_rfl)) hb_)
      refine Kd.R_append_rows_step Kd.string (w0 := w) w.heap.size (by rfl) (.tmp 5) (.tmp 7) 24 9 (.string ⟨#[]⟩) 16 rfl Try.underlying24 infoL9 rfl (by decide) (by omega) b1 [] D.l1 M.A1 D.l1.length M.c1 (fun _ => True) (fun _ => False) (eval_of e5) (eval_of e7) FB1.out (HD.out.C HR.out.r1) (fun _ _ h => h) (fun _ h => h.elim) (fun _ _ => trivial) HD.out.bel HD.out.base_le ?hl ?_
      (case hl => have := HF.out.h1; simp only [List.length_nil]; omega)
      intro v1 w1 hr1 _ hg1 hn1
      rw [List.nil_append] at hr1
      refine hK.out _ _ ⟨b1, b2, b3, b4, v1, a2, a3, a4, m18_, (by rw [ha.out]; exact putSel_upk 3 hb_ rfl rfl rfl), fun _ => HD.out.grown2 hg1 (own_ge2 FB1.out (HD.out.box 0 rfl) (HD.out.box 1 rfl) (by decide)), fun _ h1_ => absurd ((up_self b 5).symm.trans h1_) (by decide), fun _ _ => hr1, fun h0_ h1_ => R_far_ne (Q_FB2 h0_ h1_) hg1 (Q_NBB (hon 2 (by kernel_rfl)) h0_ hb_ h1_) ownerless_string, fun h0_ _ => absurd ((hoff 9 (by kernel_rfl)).symm.trans h0_) (by decide), fun h0_ h1_ => R_far_types (Q_FB3 h0_ h1_) FB1.out (by decide) hg1 (ownerless_bool), fun h0_ _ => absurd ((hoff 13 (by kernel_rfl)).symm.trans h0_) (by decide), fun h0_ h1_ => R_far_types (Q_FB4 h0_ h1_) FB1.out (by decide) hg1 (ownerless_k54), fun h0_ _ => absurd ((hoff 17 (by kernel_rfl)).symm.trans h0_) (by decide), fun _ _ h2_ _ => absurd ((up_self b 5).symm.trans h2_) (by decide), fun h0_ h1_ h2_ => ne_left hn1 (Q_NBB (hon 2 (by kernel_rfl)) h1_ hb_ h2_) (own_lt' (Q_FB2 h1_ h2_)), fun _ h1_ => absurd ((hoff 9 (by kernel_rfl)).symm.trans h1_) (by decide), fun h0_ => absurd ((hoff 19 (by kernel_rfl)).symm.trans h0_) (by decide), fun h0_ => absurd ((hoff 18 (by kernel_rfl)).symm.trans h0_) (by decide)⟩
    refine steps_cons ?_ ?_
    · rintro b a w' ⟨b1, b2, b3, b4, a1, a2, a3, a4, m18_, ha, Q_HD, Q_FB1, Q_FA1, Q_FB2, Q_FA2, Q_FB3, Q_FA3, Q_FB4, Q_FA4, Q_NBB, Q_NAB, Q_NAA, Q_HE, Q_X18_⟩ hb_ hon hoff
      refine ⟨_, rfl, fun K hK => ?_⟩
      replace ha := Az.mk ha
      have HD := Az.mk (Q_HD (hoff 19 (by kernel_rfl)))
      refine Kd.R_lit_step Kd.string w.heap.size 9 (by rfl) (N := 9) rfl (xs := ([] : List ByteArray)) (inner := []) (ok := fun _ => True) (okp := fun _ => True) (w0 := w) ?hr (Reps.none _ _) (fun _ hk => hk) trivial HD.out.bel HD.out.base_le (by simp) ?_
      (case hr => first | (go_simp; done) | (go_simp; rfl))
      intro v1 w1 hr1 _ hg1 hn1
      have hb1 := below_of_none hg1
      refine hK.out _ _ ⟨b1, v1, b3, b4, a1, a2, a3, a4, m18_, (by rw [ha.out]; exact putSel_upk 4 hb_ rfl rfl rfl), fun _ => HD.out.step hb1, fun h0_ h1_ => Kd.R_below (Q_FB1 h0_ h1_) hb1, fun h0_ h1_ => Kd.R_below (Q_FA1 h0_ h1_) hb1, fun _ _ => hr1, fun h0_ _ => absurd ((hoff 9 (by kernel_rfl)).symm.trans h0_) (by decide), fun h0_ h1_ => Kd.R_below (Q_FB3 h0_ h1_) hb1, fun h0_ _ => absurd ((hoff 13 (by kernel_rfl)).symm.trans h0_) (by decide), fun h0_ h1_ => Kd.R_below (Q_FB4 h0_ h1_) hb1, fun h0_ _ => absurd ((hoff 17 (by kernel_rfl)).symm.trans h0_) (by decide), fun h0_ h1_ h2_ h3_ => own_apart (own_lt' (Q_FB1 h0_ h2_)) (own_new hn1), fun h0_ h1_ h2_ => own_apart (own_lt' (Q_FA1 h0_ (hoff 19 (by kernel_rfl)))) (own_new hn1), fun _ h1_ => absurd ((hoff 9 (by kernel_rfl)).symm.trans h1_) (by decide), fun h0_ => absurd ((hoff 19 (by kernel_rfl)).symm.trans h0_) (by decide), fun h0_ => absurd ((hoff 18 (by kernel_rfl)).symm.trans h0_) (by decide)⟩
    refine steps_cons ?_ ?_
    · rintro b a w' ⟨b1, b2, b3, b4, a1, a2, a3, a4, m18_, ha, Q_HD, Q_FB1, Q_FA1, Q_FB2, Q_FA2, Q_FB3, Q_FA3, Q_FB4, Q_FA4, Q_NBB, Q_NAB, Q_NAA, Q_HE, Q_X18_⟩ hb_ hon hoff
      refine ⟨_, rfl, fun K hK => ?_⟩
      have e10 : a.tmps[10]? = some (.pointer (some ⟨g1, 2, none⟩)) := by rw [ha]; exact (putSel_off rfl).trans rfl
      replace ha := Az.mk ha
      have HD := Az.mk (Q_HD (hoff 19 (by kernel_rfl)))
      refine value_ (w1 := w') (v := .slice M.A2 D.l2.length M.c2) (by rfl) rfl (HD.out.run_cell 1 rfl 2 rfl rfl (eval_of e10) Try.underlying24 rfl) ?_
      refine hK.out _ _ ⟨b1, b2, b3, b4, a1, a2, a3, a4, m18_, (by rw [ha.out]; exact putSel_upk 5 hb_ rfl rfl rfl), fun _ => HD.out, fun h0_ h1_ => (Q_FB1 h0_ h1_), fun h0_ h1_ => (Q_FA1 h0_ h1_), fun h0_ h1_ => (Q_FB2 h0_ h1_), fun h0_ _ => absurd ((hoff 9 (by kernel_rfl)).symm.trans h0_) (by decide), fun h0_ h1_ => (Q_FB3 h0_ h1_), fun h0_ _ => absurd ((hoff 13 (by kernel_rfl)).symm.trans h0_) (by decide), fun h0_ h1_ => (Q_FB4 h0_ h1_), fun h0_ _ => absurd ((hoff 17 (by kernel_rfl)).symm.trans h0_) (by decide), fun h0_ h1_ h2_ h3_ => (Q_NBB h0_ h1_ h2_ h3_), fun h0_ h1_ h2_ => (Q_NAB h0_ h1_ h2_), fun _ h1_ => absurd ((hoff 9 (by kernel_rfl)).symm.trans h1_) (by decide), fun h0_ => absurd ((hoff 19 (by kernel_rfl)).symm.trans h0_) (by decide), fun h0_ => absurd ((hoff 18 (by kernel_rfl)).symm.trans h0_) (by decide)⟩
    refine steps_cons ?_ ?_
    · rintro b a w' ⟨b1, b2, b3, b4, a1, a2, a3, a4, m18_, ha, Q_HD, Q_FB1, Q_FA1, Q_FB2, Q_FA2, Q_FB3, Q_FA3, Q_FB4, Q_FA4, Q_NBB, Q_NAB, Q_NAA, Q_HE, Q_X18_⟩ hb_ hon hoff
      refine ⟨_, rfl, fun K hK => ?_⟩
      have e9 : a.tmps[9]? = some (b2) := by rw [ha]; exact putSel_on (e := (6, 9, b2)) 4 rfl rfl (hon 6 (by kernel_rfl)) rfl
      have e11 : a.tmps[11]? = some (.slice M.A2 D.l2.length M.c2) := by rw [ha]; exact putSel_on (e := (8, 11, .slice M.A2 D.l2.length M.c2)) 5 rfl rfl (hon 8 (by kernel_rfl)) rfl
      replace ha := Az.mk ha
      have HD := Az.mk (Q_HD (hoff 19 (by kernel_rfl)))
      have FA1 := Az.mk (Q_FA1 (hon 5 (by kernel_rfl)) (hoff 19 (by kernel_rfl)))
      have FB2 := Az.mk (Q_FB2 (hon 6 (by kernel_rfl)) hb_)
      have NAB := Az.mk (Q_NAB (hon 5 (by kernel_rfl)) (hon 6 (by kernel_rfl)) hb_)
      refine Kd.R_append_rows_step Kd.string (w0 := w) w.heap.size (by rfl) (.tmp 9) (.tmp 11) 24 9 (.string ⟨#[]⟩) 16 rfl Try.underlying24 infoL9 rfl (by decide) (by omega) b2 [] D.l2 M.A2 D.l2.length M.c2 (fun _ => True) (fun _ => False) (eval_of e9) (eval_of e11) FB2.out (HD.out.C HR.out.r2) (fun _ _ h => h) (fun _ h => h.elim) (fun _ _ => trivial) HD.out.bel HD.out.base_le ?hl ?_
      (case hl => have := HF.out.h2; simp only [List.length_nil]; omega)
      intro v1 w1 hr1 _ hg1 hn1
      rw [List.nil_append] at hr1
      refine hK.out _ _ ⟨b1, b2, b3, b4, a1, v1, a3, a4, m18_, (by rw [ha.out]; exact putSel_upk 6 hb_ rfl rfl rfl), fun _ => HD.out.grown2 hg1 (own_ge2 FB2.out (HD.out.box 0 rfl) (HD.out.box 1 rfl) (by decide)), fun _ h1_ => absurd ((hon 5 (by kernel_rfl)).symm.trans h1_) (by decide), fun _ _ => R_far_ne' FA1.out hg1 (NAB.out) (ownerless_string), fun _ h1_ => absurd ((up_self b 9).symm.trans h1_) (by decide), fun _ _ => hr1, fun h0_ h1_ => R_far_types (Q_FB3 h0_ h1_) FB2.out (by decide) hg1 (ownerless_bool), fun h0_ _ => absurd ((hoff 13 (by kernel_rfl)).symm.trans h0_) (by decide), fun h0_ h1_ => R_far_types (Q_FB4 h0_ h1_) FB2.out (by decide) hg1 (ownerless_k54), fun h0_ _ => absurd ((hoff 17 (by kernel_rfl)).symm.trans h0_) (by decide), fun _ _ _ h3_ => absurd ((up_self b 9).symm.trans h3_) (by decide), fun _ _ h2_ => absurd ((up_self b 9).symm.trans h2_) (by decide), fun _ _ => ne_right hn1 NAB.out (own_lt' FA1.out), fun h0_ => absurd ((hoff 19 (by kernel_rfl)).symm.trans h0_) (by decide), fun h0_ => absurd ((hoff 18 (by kernel_rfl)).symm.trans h0_) (by decide)⟩
    refine steps_cons ?_ ?_
    · rintro b a w' ⟨b1, b2, b3, b4, a1, a2, a3, a4, m18_, ha, Q_HD, Q_FB1, Q_FA1, Q_FB2, Q_FA2, Q_FB3, Q_FA3, Q_FB4, Q_FA4, Q_NBB, Q_NAB, Q_NAA, Q_HE, Q_X18_⟩ hb_ hon hoff
      refine ⟨_, rfl, fun K hK => ?_⟩
      replace ha := Az.mk ha
      have HD := Az.mk (Q_HD (hoff 19 (by kernel_rfl)))
      refine Kd.R_lit_step Kd.bool w.heap.size 4 (by rfl) (N := 13) rfl (xs := ([] : List Bool)) (inner := []) (ok := fun _ => True) (okp := fun _ => True) (w0 := w) ?hr (Reps.none _ _) (fun _ hk => hk) trivial HD.out.bel HD.out.base_le (by simp) ?_
      (case hr => first | (go_simp; done) | (go_simp; rfl))
      intro v1 w1 hr1 _ hg1 hn1
      have hb1 := below_of_none hg1
      refine hK.out _ _ ⟨b1, b2, v1, b4, a1, a2, a3, a4, m18_, (by rw [ha.out]; exact putSel_upk 7 hb_ rfl rfl rfl), fun _ => HD.out.step hb1, fun h0_ h1_ => Kd.R_below (Q_FB1 h0_ h1_) hb1, fun h0_ h1_ => Kd.R_below (Q_FA1 h0_ h1_) hb1, fun h0_ h1_ => Kd.R_below (Q_FB2 h0_ h1_) hb1, fun h0_ h1_ => Kd.R_below (Q_FA2 h0_ h1_) hb1, fun _ _ => hr1, fun h0_ _ => absurd ((hoff 13 (by kernel_rfl)).symm.trans h0_) (by decide), fun h0_ h1_ => Kd.R_below (Q_FB4 h0_ h1_) hb1, fun h0_ _ => absurd ((hoff 17 (by kernel_rfl)).symm.trans h0_) (by decide), fun h0_ h1_ h2_ h3_ => (Q_NBB h0_ h1_ h2_ h3_), fun h0_ h1_ h2_ => (Q_NAB h0_ h1_ h2_), fun h0_ h1_ => (Q_NAA h0_ h1_), fun h0_ => absurd ((hoff 19 (by kernel_rfl)).symm.trans h0_) (by decide), fun h0_ => absurd ((hoff 18 (by kernel_rfl)).symm.trans h0_) (by decide)⟩
    refine steps_cons ?_ ?_
    · rintro b a w' ⟨b1, b2, b3, b4, a1, a2, a3, a4, m18_, ha, Q_HD, Q_FB1, Q_FA1, Q_FB2, Q_FA2, Q_FB3, Q_FA3, Q_FB4, Q_FA4, Q_NBB, Q_NAB, Q_NAA, Q_HE, Q_X18_⟩ hb_ hon hoff
      refine ⟨_, rfl, fun K hK => ?_⟩
      have e14 : a.tmps[14]? = some (.pointer (some ⟨g1, 3, none⟩)) := by rw [ha]; exact (putSel_off rfl).trans rfl
      replace ha := Az.mk ha
      have HD := Az.mk (Q_HD (hoff 19 (by kernel_rfl)))
      refine value_ (w1 := w') (v := .slice M.A3 D.l3.length M.c3) (by rfl) rfl (HD.out.run_cell 1 rfl 3 rfl rfl (eval_of e14) Try.underlying25 rfl) ?_
      refine hK.out _ _ ⟨b1, b2, b3, b4, a1, a2, a3, a4, m18_, (by rw [ha.out]; exact putSel_upk 8 hb_ rfl rfl rfl), fun _ => HD.out, fun h0_ h1_ => (Q_FB1 h0_ h1_), fun h0_ h1_ => (Q_FA1 h0_ h1_), fun h0_ h1_ => (Q_FB2 h0_ h1_), fun h0_ h1_ => (Q_FA2 h0_ h1_), fun h0_ h1_ => (Q_FB3 h0_ h1_), fun h0_ _ => absurd ((hoff 13 (by kernel_rfl)).symm.trans h0_) (by decide), fun h0_ h1_ => (Q_FB4 h0_ h1_), fun h0_ _ => absurd ((hoff 17 (by kernel_rfl)).symm.trans h0_) (by decide), fun h0_ h1_ h2_ h3_ => (Q_NBB h0_ h1_ h2_ h3_), fun h0_ h1_ h2_ => (Q_NAB h0_ h1_ h2_), fun h0_ h1_ => (Q_NAA h0_ h1_), fun h0_ => absurd ((hoff 19 (by kernel_rfl)).symm.trans h0_) (by decide), fun h0_ => absurd ((hoff 18 (by kernel_rfl)).symm.trans h0_) (by decide)⟩
    refine steps_cons ?_ ?_
    · rintro b a w' ⟨b1, b2, b3, b4, a1, a2, a3, a4, m18_, ha, Q_HD, Q_FB1, Q_FA1, Q_FB2, Q_FA2, Q_FB3, Q_FA3, Q_FB4, Q_FA4, Q_NBB, Q_NAB, Q_NAA, Q_HE, Q_X18_⟩ hb_ hon hoff
      refine ⟨_, rfl, fun K hK => ?_⟩
      have e13 : a.tmps[13]? = some (b3) := by rw [ha]; exact putSel_on (e := (10, 13, b3)) 7 rfl rfl (hon 10 (by kernel_rfl)) rfl
      have e15 : a.tmps[15]? = some (.slice M.A3 D.l3.length M.c3) := by rw [ha]; exact putSel_on (e := (12, 15, .slice M.A3 D.l3.length M.c3)) 8 rfl rfl (hon 12 (by kernel_rfl)) rfl
      replace ha := Az.mk ha
      have HD := Az.mk (Q_HD (hoff 19 (by kernel_rfl)))
      have FA1 := Az.mk (Q_FA1 (hon 5 (by kernel_rfl)) (hoff 19 (by kernel_rfl)))
      have FA2 := Az.mk (Q_FA2 (hon 9 (by kernel_rfl)) (hoff 19 (by kernel_rfl)))
      have FB3 := Az.mk (Q_FB3 (hon 10 (by kernel_rfl)) hb_)
      have NAA := Az.mk (Q_NAA (hon 5 (by kernel_rfl)) (hon 9 (by kernel_rfl)))
      refine Kd.R_append_rows_step Kd.bool (w0 := w) w.heap.size (by rfl) (.tmp 13) (.tmp 15) 25 4 (.bool false) 1 rfl Try.underlying25 infoL4 rfl (by decide) (by omega) b3 [] D.l3 M.A3 D.l3.length M.c3 (fun _ => True) (fun _ => False) (eval_of e13) (eval_of e15) FB3.out (HD.out.C HR.out.r3) (fun _ _ h => h) (fun _ h => h.elim) (fun _ _ => trivial) HD.out.bel HD.out.base_le ?hl ?_
      (case hl => have := HF.out.h3; simp only [List.length_nil]; omega)
      intro v1 w1 hr1 _ hg1 hn1
      rw [List.nil_append] at hr1
      refine hK.out _ _ ⟨b1, b2, b3, b4, a1, a2, v1, a4, m18_, (by rw [ha.out]; exact putSel_upk 9 hb_ rfl rfl rfl), fun _ => HD.out.grown2 hg1 (own_ge2 FB3.out (HD.out.box 0 rfl) (HD.out.box 1 rfl) (by decide)), fun _ h1_ => absurd ((hon 5 (by kernel_rfl)).symm.trans h1_) (by decide), fun _ _ => R_far_types FA1.out FB3.out (by decide) hg1 (ownerless_string), fun _ h1_ => absurd ((hon 9 (by kernel_rfl)).symm.trans h1_) (by decide), fun _ _ => R_far_types FA2.out FB3.out (by decide) hg1 (ownerless_string), fun _ h1_ => absurd ((up_self b 13).symm.trans h1_) (by decide), fun _ _ => hr1, fun h0_ h1_ => R_far_types (Q_FB4 h0_ h1_) FB3.out (by decide) hg1 (ownerless_k54), fun h0_ _ => absurd ((hoff 17 (by kernel_rfl)).symm.trans h0_) (by decide), fun _ _ h2_ _ => absurd ((hon 5 (by kernel_rfl)).symm.trans h2_) (by decide), fun _ _ h2_ => absurd ((hon 9 (by kernel_rfl)).symm.trans h2_) (by decide), fun _ _ => NAA.out, fun h0_ => absurd ((hoff 19 (by kernel_rfl)).symm.trans h0_) (by decide), fun h0_ => absurd ((hoff 18 (by kernel_rfl)).symm.trans h0_) (by decide)⟩
    refine steps_cons ?_ ?_
    · rintro b a w' ⟨b1, b2, b3, b4, a1, a2, a3, a4, m18_, ha, Q_HD, Q_FB1, Q_FA1, Q_FB2, Q_FA2, Q_FB3, Q_FA3, Q_FB4, Q_FA4, Q_NBB, Q_NAB, Q_NAA, Q_HE, Q_X18_⟩ hb_ hon hoff
      refine ⟨_, rfl, fun K hK => ?_⟩
      replace ha := Az.mk ha
      have HD := Az.mk (Q_HD (hoff 19 (by kernel_rfl)))
      refine Kd.R_lit_step k54 w.heap.size 54 (by rfl) (N := 17) rfl (xs := ([] : List S54)) (inner := []) (ok := fun _ => True) (okp := fun _ => True) (w0 := w) ?hr (Reps.none _ _) (fun _ hk => hk) trivial HD.out.bel HD.out.base_le (by simp) ?_
      (case hr => first | (go_simp; done) | (go_simp; rfl))
      intro v1 w1 hr1 _ hg1 hn1
      have hb1 := below_of_none hg1
      refine hK.out _ _ ⟨b1, b2, b3, v1, a1, a2, a3, a4, m18_, (by rw [ha.out]; exact putSel_upk 10 hb_ rfl rfl rfl), fun _ => HD.out.step hb1, fun h0_ h1_ => Kd.R_below (Q_FB1 h0_ h1_) hb1, fun h0_ h1_ => Kd.R_below (Q_FA1 h0_ h1_) hb1, fun h0_ h1_ => Kd.R_below (Q_FB2 h0_ h1_) hb1, fun h0_ h1_ => Kd.R_below (Q_FA2 h0_ h1_) hb1, fun h0_ h1_ => Kd.R_below (Q_FB3 h0_ h1_) hb1, fun h0_ h1_ => Kd.R_below (Q_FA3 h0_ h1_) hb1, fun _ _ => hr1, fun h0_ _ => absurd ((hoff 17 (by kernel_rfl)).symm.trans h0_) (by decide), fun h0_ h1_ h2_ h3_ => (Q_NBB h0_ h1_ h2_ h3_), fun h0_ h1_ h2_ => (Q_NAB h0_ h1_ h2_), fun h0_ h1_ => (Q_NAA h0_ h1_), fun h0_ => absurd ((hoff 19 (by kernel_rfl)).symm.trans h0_) (by decide), fun h0_ => absurd ((hoff 18 (by kernel_rfl)).symm.trans h0_) (by decide)⟩
    refine steps_cons ?_ ?_
    · rintro b a w' ⟨b1, b2, b3, b4, a1, a2, a3, a4, m18_, ha, Q_HD, Q_FB1, Q_FA1, Q_FB2, Q_FA2, Q_FB3, Q_FA3, Q_FB4, Q_FA4, Q_NBB, Q_NAB, Q_NAA, Q_HE, Q_X18_⟩ hb_ hon hoff
      refine ⟨_, rfl, fun K hK => ?_⟩
      have e18 : a.tmps[18]? = some (.pointer (some ⟨g1, 4, none⟩)) := by rw [ha]; exact (putSel_off rfl).trans rfl
      replace ha := Az.mk ha
      have HD := Az.mk (Q_HD (hoff 19 (by kernel_rfl)))
      refine value_ (w1 := w') (v := .slice M.A4 D.l4.length M.c4) (by rfl) rfl (HD.out.run_cell 1 rfl 4 rfl rfl (eval_of e18) Try.underlying26 rfl) ?_
      refine hK.out _ _ ⟨b1, b2, b3, b4, a1, a2, a3, a4, m18_, (by rw [ha.out]; exact putSel_upk 11 hb_ rfl rfl rfl), fun _ => HD.out, fun h0_ h1_ => (Q_FB1 h0_ h1_), fun h0_ h1_ => (Q_FA1 h0_ h1_), fun h0_ h1_ => (Q_FB2 h0_ h1_), fun h0_ h1_ => (Q_FA2 h0_ h1_), fun h0_ h1_ => (Q_FB3 h0_ h1_), fun h0_ h1_ => (Q_FA3 h0_ h1_), fun h0_ h1_ => (Q_FB4 h0_ h1_), fun h0_ _ => absurd ((hoff 17 (by kernel_rfl)).symm.trans h0_) (by decide), fun h0_ h1_ h2_ h3_ => (Q_NBB h0_ h1_ h2_ h3_), fun h0_ h1_ h2_ => (Q_NAB h0_ h1_ h2_), fun h0_ h1_ => (Q_NAA h0_ h1_), fun h0_ => absurd ((hoff 19 (by kernel_rfl)).symm.trans h0_) (by decide), fun h0_ => absurd ((hoff 18 (by kernel_rfl)).symm.trans h0_) (by decide)⟩
    refine steps_cons ?_ ?_
    · rintro b a w' ⟨b1, b2, b3, b4, a1, a2, a3, a4, m18_, ha, Q_HD, Q_FB1, Q_FA1, Q_FB2, Q_FA2, Q_FB3, Q_FA3, Q_FB4, Q_FA4, Q_NBB, Q_NAB, Q_NAA, Q_HE, Q_X18_⟩ hb_ hon hoff
      refine ⟨_, rfl, fun K hK => ?_⟩
      have e17 : a.tmps[17]? = some (b4) := by rw [ha]; exact putSel_on (e := (14, 17, b4)) 10 rfl rfl (hon 14 (by kernel_rfl)) rfl
      have e19 : a.tmps[19]? = some (.slice M.A4 D.l4.length M.c4) := by rw [ha]; exact putSel_on (e := (16, 19, .slice M.A4 D.l4.length M.c4)) 11 rfl rfl (hon 16 (by kernel_rfl)) rfl
      replace ha := Az.mk ha
      have HD := Az.mk (Q_HD (hoff 19 (by kernel_rfl)))
      have FA1 := Az.mk (Q_FA1 (hon 5 (by kernel_rfl)) (hoff 19 (by kernel_rfl)))
      have FA2 := Az.mk (Q_FA2 (hon 9 (by kernel_rfl)) (hoff 19 (by kernel_rfl)))
      have FA3 := Az.mk (Q_FA3 (hon 13 (by kernel_rfl)) (hoff 19 (by kernel_rfl)))
      have FB4 := Az.mk (Q_FB4 (hon 14 (by kernel_rfl)) hb_)
      have NAA := Az.mk (Q_NAA (hon 5 (by kernel_rfl)) (hon 9 (by kernel_rfl)))
      refine Kd.R_append_rows_step k54 (w0 := w) w.heap.size (by rfl) (.tmp 17) (.tmp 19) 26 54 (.agg #[.bool false, .int .i64 0, .string ⟨#[]⟩]) 32 rfl Try.underlying26 infoL54 rfl (by decide) (by omega) b4 [] D.l4 M.A4 D.l4.length M.c4 (fun _ => True) (fun _ => False) (eval_of e17) (eval_of e19) FB4.out (HD.out.C HR.out.r4) (fun _ _ h => h) (fun _ h => h.elim) (fun _ _ => trivial) HD.out.bel HD.out.base_le ?hl ?_
      (case hl => have := HF.out.h4; simp only [List.length_nil]; omega)
      intro v1 w1 hr1 _ hg1 hn1
      rw [List.nil_append] at hr1
      refine hK.out _ _ ⟨b1, b2, b3, b4, a1, a2, a3, v1, m18_, (by rw [ha.out]; exact putSel_upk 12 hb_ rfl rfl rfl), fun _ => HD.out.grown2 hg1 (own_ge2 FB4.out (HD.out.box 0 rfl) (HD.out.box 1 rfl) (by decide)), fun _ h1_ => absurd ((hon 5 (by kernel_rfl)).symm.trans h1_) (by decide), fun _ _ => R_far_types FA1.out FB4.out (by decide) hg1 (ownerless_string), fun _ h1_ => absurd ((hon 9 (by kernel_rfl)).symm.trans h1_) (by decide), fun _ _ => R_far_types FA2.out FB4.out (by decide) hg1 (ownerless_string), fun _ h1_ => absurd ((hon 13 (by kernel_rfl)).symm.trans h1_) (by decide), fun _ _ => R_far_types FA3.out FB4.out (by decide) hg1 (ownerless_bool), fun _ h1_ => absurd ((up_self b 17).symm.trans h1_) (by decide), fun _ _ => hr1, fun _ _ h2_ _ => absurd ((hon 5 (by kernel_rfl)).symm.trans h2_) (by decide), fun _ _ h2_ => absurd ((hon 9 (by kernel_rfl)).symm.trans h2_) (by decide), fun _ _ => NAA.out, fun h0_ => absurd ((hoff 19 (by kernel_rfl)).symm.trans h0_) (by decide), fun h0_ => absurd ((hoff 18 (by kernel_rfl)).symm.trans h0_) (by decide)⟩
    refine steps_cons ?_ ?_
    · rintro b a w' ⟨b1, b2, b3, b4, a1, a2, a3, a4, m18_, ha, Q_HD, Q_FB1, Q_FA1, Q_FB2, Q_FA2, Q_FB3, Q_FA3, Q_FB4, Q_FA4, Q_NBB, Q_NAB, Q_NAA, Q_HE, Q_X18_⟩ hb_ hon hoff
      refine ⟨_, rfl, fun K hK => ?_⟩
      have e4 : a.tmps[4]? = some (.int .i64 D.st) := by rw [ha]; exact putSel_on (e := (1, 4, .int .i64 D.st)) 0 rfl rfl (hon 1 (by kernel_rfl)) rfl
      have e8 : a.tmps[8]? = some (a1) := by rw [ha]; exact putSel_on (e := (5, 8, a1)) 3 rfl rfl (hon 5 (by kernel_rfl)) rfl
      have e12 : a.tmps[12]? = some (a2) := by rw [ha]; exact putSel_on (e := (9, 12, a2)) 6 rfl rfl (hon 9 (by kernel_rfl)) rfl
      have e16 : a.tmps[16]? = some (a3) := by rw [ha]; exact putSel_on (e := (13, 16, a3)) 9 rfl rfl (hon 13 (by kernel_rfl)) rfl
      have e20 : a.tmps[20]? = some (a4) := by rw [ha]; exact putSel_on (e := (17, 20, a4)) 12 rfl rfl (hon 17 (by kernel_rfl)) rfl
      replace ha := Az.mk ha
      have HD := Az.mk (Q_HD (hoff 19 (by kernel_rfl)))
      have FA1 := Az.mk (Q_FA1 (hon 5 (by kernel_rfl)) (hoff 19 (by kernel_rfl)))
      have FA2 := Az.mk (Q_FA2 (hon 9 (by kernel_rfl)) (hoff 19 (by kernel_rfl)))
      have FA3 := Az.mk (Q_FA3 (hon 13 (by kernel_rfl)) (hoff 19 (by kernel_rfl)))
      have FA4 := Az.mk (Q_FA4 (hon 17 (by kernel_rfl)) (hoff 19 (by kernel_rfl)))
      have NAA := Az.mk (Q_NAA (hon 5 (by kernel_rfl)) (hon 9 (by kernel_rfl)))
      obtain ⟨p1, q1, rfl⟩ := Kd.R_slice FA1.out
      obtain ⟨p2, q2, rfl⟩ := Kd.R_slice FA2.out
      obtain ⟨p3, q3, rfl⟩ := Kd.R_slice FA3.out
      obtain ⟨p4, q4, rfl⟩ := Kd.R_slice FA4.out
      refine value_ (w1 := w') (v := .agg #[.int .i64 D.st, (.slice p1 D.l1.length q1), (.slice p2 D.l2.length q2), (.slice p3 D.l3.length q3), (.slice p4 D.l4.length q4)]) (by rfl) rfl ?_ ?_
      · go_simp
        (try simp only [i64_w])
        try rfl
      refine hK.out _ _ ⟨b1, b2, b3, b4, (.slice p1 D.l1.length q1), (.slice p2 D.l2.length q2), (.slice p3 D.l3.length q3), (.slice p4 D.l4.length q4), (.agg #[.int .i64 D.st, (.slice p1 D.l1.length q1), (.slice p2 D.l2.length q2), (.slice p3 D.l3.length q3), (.slice p4 D.l4.length q4)]), (by rw [ha.out]; exact putSel_upk 13 hb_ rfl rfl rfl), fun _ => HD.out, fun _ h1_ => absurd ((hon 5 (by kernel_rfl)).symm.trans h1_) (by decide), fun _ _ => FA1.out, fun _ h1_ => absurd ((hon 9 (by kernel_rfl)).symm.trans h1_) (by decide), fun _ _ => FA2.out, fun _ h1_ => absurd ((hon 13 (by kernel_rfl)).symm.trans h1_) (by decide), fun _ _ => FA3.out, fun _ h1_ => absurd ((hon 17 (by kernel_rfl)).symm.trans h1_) (by decide), fun _ _ => FA4.out, fun _ _ h2_ _ => absurd ((hon 5 (by kernel_rfl)).symm.trans h2_) (by decide), fun _ _ h2_ => absurd ((hon 9 (by kernel_rfl)).symm.trans h2_) (by decide), fun _ _ => NAA.out, fun h0_ => absurd ((hoff 19 (by kernel_rfl)).symm.trans h0_) (by decide), fun _ => rfl⟩
    refine steps_cons ?_ ?_
    · rintro b a w' ⟨b1, b2, b3, b4, a1, a2, a3, a4, m18_, ha, Q_HD, Q_FB1, Q_FA1, Q_FB2, Q_FA2, Q_FB3, Q_FA3, Q_FB4, Q_FA4, Q_NBB, Q_NAB, Q_NAA, Q_HE, Q_X18_⟩ hb_ hon hoff
      refine ⟨_, rfl, fun K hK => ?_⟩
      have e2 : a.tmps[2]? = some (.pointer (some ⟨g2, 0, none⟩)) := by rw [ha]; exact (putSel_off rfl).trans rfl
      have e21 : a.tmps[21]? = some (m18_) := by rw [ha]; exact putSel_on (e := (18, 21, m18_)) 13 rfl rfl (hon 18 (by kernel_rfl)) rfl
      rw [Q_X18_ (hon 18 (by kernel_rfl))] at e21
      replace ha := Az.mk ha
      have HD := Az.mk (Q_HD hb_)
      have FA1 := Az.mk (Q_FA1 (hon 5 (by kernel_rfl)) hb_)
      have FA2 := Az.mk (Q_FA2 (hon 9 (by kernel_rfl)) hb_)
      have FA3 := Az.mk (Q_FA3 (hon 13 (by kernel_rfl)) hb_)
      have FA4 := Az.mk (Q_FA4 (hon 17 (by kernel_rfl)) hb_)
      have NAA := Az.mk (Q_NAA (hon 5 (by kernel_rfl)) (hon 9 (by kernel_rfl)))
      have ho : (#[.int .i64 D.st, a1, a2, a3, a4] : Array Value).all (·.oneCell') = true := by
        obtain ⟨_, _, h1⟩ := Kd.R_slice FA1.out
        obtain ⟨_, _, h2⟩ := Kd.R_slice FA2.out
        obtain ⟨_, _, h3⟩ := Kd.R_slice FA3.out
        obtain ⟨_, _, h4⟩ := Kd.R_slice FA4.out
        rw [h1, h2, h3, h4]
        simp [Value.oneCell']
      refine skip_ (by rfl) rfl (HD.out.run_st 0 rfl rfl (eval_of e2) _ (eval_of e21) hs28 rfl ho) ?_
      refine hK.out _ _ ⟨b1, b2, b3, b4, a1, a2, a3, a4, m18_, (by rw [ha.out]; exact putSel_none (v := undef) rfl), fun h0_ => absurd ((up_self b 19).symm.trans h0_) (by decide), fun _ h1_ => absurd ((hon 5 (by kernel_rfl)).symm.trans h1_) (by decide), fun _ h1_ => absurd ((up_self b 19).symm.trans h1_) (by decide), fun _ h1_ => absurd ((hon 9 (by kernel_rfl)).symm.trans h1_) (by decide), fun _ h1_ => absurd ((up_self b 19).symm.trans h1_) (by decide), fun _ h1_ => absurd ((hon 13 (by kernel_rfl)).symm.trans h1_) (by decide), fun _ h1_ => absurd ((up_self b 19).symm.trans h1_) (by decide), fun _ h1_ => absurd ((hon 17 (by kernel_rfl)).symm.trans h1_) (by decide), fun _ h1_ => absurd ((up_self b 19).symm.trans h1_) (by decide), fun _ _ h2_ _ => absurd ((hon 5 (by kernel_rfl)).symm.trans h2_) (by decide), fun _ _ h2_ => absurd ((hon 9 (by kernel_rfl)).symm.trans h2_) (by decide), fun _ _ => NAA.out, fun _ => ⟨HD.out.set_row 0 rfl _, R_set_far FA1.out (HD.out.box 0 rfl) (by decide) _ ownerless_string, R_set_far FA2.out (HD.out.box 0 rfl) (by decide) _ ownerless_string, R_set_far FA3.out (HD.out.box 0 rfl) (by decide) _ ownerless_bool, R_set_far FA4.out (HD.out.box 0 rfl) (by decide) _ ownerless_k54⟩, Q_X18_⟩
    exact steps_nil
  · rintro b a w' hall ⟨b1, b2, b3, b4, a1, a2, a3, a4, m18_, ha, Q_HD, Q_FB1, Q_FA1, Q_FB2, Q_FA2, Q_FB3, Q_FA3, Q_FB4, Q_FA4, Q_NBB, Q_NAB, Q_NAA, Q_HE, Q_X18_⟩
    clear HD
    have hb1_ := hall 1 (by kernel_rfl)
    have hb2_ := hall 2 (by kernel_rfl)
    have hb4_ := hall 4 (by kernel_rfl)
    have hb5_ := hall 5 (by kernel_rfl)
    have hb6_ := hall 6 (by kernel_rfl)
    have hb8_ := hall 8 (by kernel_rfl)
    have hb9_ := hall 9 (by kernel_rfl)
    have hb10_ := hall 10 (by kernel_rfl)
    have hb12_ := hall 12 (by kernel_rfl)
    have hb13_ := hall 13 (by kernel_rfl)
    have hb14_ := hall 14 (by kernel_rfl)
    have hb16_ := hall 16 (by kernel_rfl)
    have hb17_ := hall 17 (by kernel_rfl)
    have hb18_ := hall 18 (by kernel_rfl)
    have hb19_ := hall 19 (by kernel_rfl)
    subst ha
    obtain rfl := Q_X18_ hb18_
    simp only [putSel, hb1_, hb2_, hb4_, hb5_, hb6_, hb8_, hb9_, hb10_, hb12_, hb13_, hb14_, hb16_, hb17_, hb18_, hb19_, if_true, Act.put, List.setIfInBounds_toArray, List.set_cons_zero, List.set_cons_succ]
    clear Q_HD
    clear Q_FB1
    clear Q_FA1
    clear Q_FB2
    clear Q_FA2
    clear Q_FB3
    clear Q_FA3
    clear Q_FB4
    clear Q_FA4
    clear Q_NBB
    clear Q_NAB
    have NAA := Az.mk (Q_NAA hb5_ hb9_)
    clear Q_NAA
    have HE := Az.mk (Q_HE hb19_)
    clear Q_HE
    clear hall hb1_ hb2_ hb4_ hb5_ hb6_ hb8_ hb9_ hb10_ hb12_ hb13_ hb14_ hb16_ hb17_ hb18_ hb19_
    obtain ⟨HE1, o1, o2, o3, o4⟩ := HE.out
    go_wp2
    refine bodyPost_ret (results_cell_row rfl _ _ g2 28 _ (0, 0) _ rfl (HE1.box 0 rfl) Try.underlying28 rfl (by kernel_rfl)) rfl ?_
    have hn : ∀ k, a1.ownBlock = some k → some k ≠ a2.ownBlock := fun k hk => atom_of NAA.out hk
    have hn' : ∀ k, a2.ownBlock = some k → some k ≠ a1.ownBlock := fun k hk => atom_of' NAA.out hk
    obtain ⟨A1, c1, rfl⟩ := Kd.R_slice o1
    obtain ⟨A2, c2, rfl⟩ := Kd.R_slice o2
    obtain ⟨A3, c3, rfl⟩ := Kd.R_slice o3
    obtain ⟨A4, c4, rfl⟩ := Kd.R_slice o4
    refine ⟨⟨A1, c1, A2, c2, A3, c3, A4, c4⟩, rfl, ⟨R_base o1 (fun k hk => (own_ge o1 k hk).1) (fun k hk => ⟨own_lt' o1 k hk, hn k hk⟩), R_base o2 (fun k hk => (own_ge o2 k hk).1) (fun k hk => ⟨own_lt' o2 k hk, hn' k hk⟩), R_base o3 (fun k hk => (own_ge o3 k hk).1) (fun k hk => own_lt' o3 k hk), R_base54 o4 (fun k hk => (own_ge o4 k hk).1) (fun k hk => own_lt' o4 k hk)⟩, HE1.bel⟩
theorem gives_to {w w' : World} {e : Ending} {D : Dd} (h : Gives D w e w') : ∃ v1_ v2_ v3_ v4_ : Value, e = .returned (.agg #[.int .i64 D.st, v1_, v2_, v3_, v4_]) ∧ Kd.R Kd.string 9 w' w.heap.size (fun k_ => some k_ ≠ (v2_ : Value).ownBlock) v1_ D.l1 ∧ Kd.R Kd.string 9 w' w.heap.size (fun k_ => some k_ ≠ (v1_ : Value).ownBlock) v2_ D.l2 ∧ Kd.R Kd.bool 4 w' w.heap.size (fun _ => True) v3_ D.l3 ∧ Kd.R k54 54 w' w.heap.size (fun _ => True) v4_ D.l4 ∧ Below w.heap.size w w' := by
  obtain ⟨M, he, ho, hb⟩ := h
  exact ⟨M.s1 D, M.s2 D, M.s3 D, M.s4 D, he, Kd.R_mono ho.o1 fun _ h => h.2, Kd.R_mono ho.o2 fun _ h => h.2, Kd.R_mono ho.o3 fun _ _ => trivial, Kd.R_mono ho.o4 fun _ _ => trivial, hb⟩
end Go.Proofs.Ytkgpnloghmbmlaa.Hd
namespace Go.Proofs.Ytkgpnloghmbmlaa.Print
open Go.RowKit Go.Proofs.YtkgpnloghmbmlaaW.PrintWords Go.Proofs.Ytkgpnloghmbmlaa.Hd
def spec_l3Copy.f (a0_0 : Int) (l0_1 l0_2 : List ByteArray) (l0_3 : List Bool) (l0_4 : List S54) : Option (Int × List ByteArray × List ByteArray × List Bool × List S54) :=
  if l0_1.length ≤ 1048576 ∧ l0_2.length ≤ 1048576 ∧ l0_3.length ≤ 1048576 ∧ l0_4.length ≤ 1048576 then some (a0_0, l0_1, l0_2, l0_3, l0_4) else none
theorem spec_l3Copy.calls (a0_0 : Int) (A0_1 : Option Addr) (c0_1 : Nat) (l0_1 : List ByteArray) (A0_2 : Option Addr) (c0_2 : Nat) (l0_2 : List ByteArray) (A0_3 : Option Addr) (c0_3 : Nat) (l0_3 : List Bool) (A0_4 : Option Addr) (c0_4 : Nat) (l0_4 : List (S54)) (r1 : Int) (r2 : List ByteArray) (r3 : List ByteArray) (r4 : List Bool) (r5 : List (S54)) (w : World) (hr0_1 : Kd.C Kd.string w A0_1 l0_1.length l0_1) (hc0_1 : l0_1.length ≤ c0_1) (hr0_2 : Kd.C Kd.string w A0_2 l0_2.length l0_2) (hc0_2 : l0_2.length ≤ c0_2) (hr0_3 : Kd.C Kd.bool w A0_3 l0_3.length l0_3) (hc0_3 : l0_3.length ≤ c0_3) (hr0_4 : Kd.C k54 w A0_4 l0_4.length l0_4) (hc0_4 : l0_4.length ≤ c0_4) (h : spec_l3Copy.f a0_0 l0_1 l0_2 l0_3 l0_4 = some (r1, r2, r3, r4, r5)) :
    Calls Try.prog 80 #[.agg #[.int .i64 a0_0, .slice A0_1 l0_1.length c0_1, .slice A0_2 l0_2.length c0_2, .slice A0_3 l0_3.length c0_3, .slice A0_4 l0_4.length c0_4]] w fun e w' => ∃ v1_ v2_ v3_ v4_ : Value, e = .returned (.agg #[.int .i64 r1, v1_, v2_, v3_, v4_]) ∧ Kd.R Kd.string 9 w' w.heap.size (fun k_ => some k_ ≠ (v2_ : Value).ownBlock) v1_ r2 ∧ Kd.R Kd.string 9 w' w.heap.size (fun k_ => some k_ ≠ (v1_ : Value).ownBlock) v2_ r3 ∧ Kd.R Kd.bool 4 w' w.heap.size (fun _ => True) v3_ r4 ∧ Kd.R k54 54 w' w.heap.size (fun _ => True) v4_ r5 ∧ Below w.heap.size w w' := by
  unfold spec_l3Copy.f at h
  split at h
  · rename_i hf
    simp only [Option.some.injEq, Prod.mk.injEq] at h
    obtain ⟨rfl, rfl, rfl, rfl, rfl⟩ := h
    exact (l3Copy_call (M := ⟨A0_1, c0_1, A0_2, c0_2, A0_3, c0_3, A0_4, c0_4⟩) (D := ⟨a0_0, l0_1, l0_2, l0_3, l0_4⟩) ⟨hf.1, hf.2.1, hf.2.2.1, hf.2.2.2⟩ ⟨hr0_1, hc0_1, hr0_2, hc0_2, hr0_3, hc0_3, hr0_4, hc0_4⟩).mono fun e w' h => gives_to h
  · cases h
end Go.Proofs.Ytkgpnloghmbmlaa.Print
namespace Go.Proofs.Ytkgpnloghmbmlaa.Print
open Go.RowKit Go.Proofs.YtkgpnloghmbmlaaW.PrintWords Go.Proofs.YtkgpnloghmbmlaaW.PrintLast Go.Proofs.YtkgpnloghmbmlaaW.PrintMore
attribute [local go_sem] max2_int min2_int max_two min_two max_three min_three max_four min_four   -- for this text's walks alone
set_option linter.unusedVariables false
set_option linter.unusedSimpArgs false
end Go.Proofs.Ytkgpnloghmbmlaa.Print
namespace Go.Proofs.Ytkgpnloghmbmlaa.Print
open Go.RowKit Go.Proofs.YtkgpnloghmbmlaaW.PrintWords Go.Proofs.YtkgpnloghmbmlaaW.PrintLast Go.Proofs.YtkgpnloghmbmlaaW.PrintMore
attribute [local go_sem] max2_int min2_int max_two min_two max_three min_three max_four min_four   -- for this text's walks alone
set_option linter.unusedVariables false
set_option linter.unusedSimpArgs false
def spec_l3Write.f (k : Nat) (a0_0 : Int) (l0_1 : List ByteArray) (l0_2 : List ByteArray) (l0_3 : List Bool) (l0_4 : List (S54)) (a1_0 : Bool) (a1_1 : Int) (a1_2 : ByteArray) : Option (Int × List ByteArray × List ByteArray × List Bool × (List (S54))) := if a0_0 = 1 then (some (a0_0, l0_1, l0_2, l0_3, l0_4)) else (if (l0_4.length : Int) = 40 then ((spec_l3Flush.f k a0_0 l0_1 l0_2 l0_3 l0_4).bind fun bt652 => (if bt652.2.2.2.2.length < 4398046511104 then (some (bt652.1, bt652.2.1, bt652.2.2.1, bt652.2.2.2.1, (bt652.2.2.2.2 ++ [(⟨a1_0, a1_1, a1_2⟩ : S54)]))) else (none))) else (if l0_4.length < 4398046511104 then (some (a0_0, l0_1, l0_2, l0_3, (l0_4 ++ [(⟨a1_0, a1_1, a1_2⟩ : S54)]))) else (none)))
set_option maxHeartbeats 8000000 in
set_option maxRecDepth 100000 in
theorem spec_l3Write.calls (k : Nat) (a0_0 : Int) (P0_1_ : Nat → Prop) (u9000_ : Value) (l0_1 : List ByteArray) (P0_2_ : Nat → Prop) (u9001_ : Value) (l0_2 : List ByteArray) (P0_3_ : Nat → Prop) (u9002_ : Value) (l0_3 : List Bool) (P0_4_ : Nat → Prop) (u9003_ : Value) (l0_4 : List (S54)) (a1_0 : Bool) (a1_1 : Int) (a1_2 : ByteArray) (r1 : Int) (r2 : List ByteArray) (r3 : List ByteArray) (r4 : List Bool) (r5 : List (S54)) (w0 w : World) (hB : Below w0.heap.size w0 w) (ho0_1 : Kd.R Kd.string 9 w w0.heap.size P0_1_ u9000_ l0_1) (hp0_1_0_2 : ∀ k_, P0_1_ k_ → ¬ P0_2_ k_) (ho0_2 : Kd.R Kd.string 9 w w0.heap.size P0_2_ u9001_ l0_2) (hp0_2_0_1 : ∀ k_, P0_2_ k_ → ¬ P0_1_ k_) (ho0_3 : Kd.R Kd.bool 4 w w0.heap.size P0_3_ u9002_ l0_3) (ho0_4 : Kd.R k54 54 w w0.heap.size P0_4_ u9003_ l0_4) (h : spec_l3Write.f k a0_0 l0_1 l0_2 l0_3 l0_4 a1_0 a1_1 a1_2 = some (r1, r2, r3, r4, r5)) :
    Calls Try.prog 85 #[.agg #[.int .i64 a0_0, u9000_, u9001_, u9002_, u9003_], .agg #[.bool a1_0, .int .i64 a1_1, .string a1_2]] w fun e w' => ∃ v1_ v2_ v3_ v4_ : Value, e = .returned (.agg #[.int .i64 r1, v1_, v2_, v3_, v4_]) ∧ Kd.R Kd.string 9 w' w0.heap.size (fun k_ => ((P0_1_ k_ ∨ P0_2_ k_ ∨ P0_3_ k_ ∨ P0_4_ k_) ∨ w.heap.size ≤ k_) ∧ some k_ ≠ (v2_ : Value).ownBlock) v1_ r2 ∧ Kd.R Kd.string 9 w' w0.heap.size (fun k_ => ((P0_1_ k_ ∨ P0_2_ k_ ∨ P0_3_ k_ ∨ P0_4_ k_) ∨ w.heap.size ≤ k_) ∧ some k_ ≠ (v1_ : Value).ownBlock) v2_ r3 ∧ Kd.R Kd.bool 4 w' w0.heap.size (fun k_ => ((P0_1_ k_ ∨ P0_2_ k_ ∨ P0_3_ k_ ∨ P0_4_ k_) ∨ w.heap.size ≤ k_)) v3_ r4 ∧ Kd.R k54 54 w' w0.heap.size (fun k_ => ((P0_1_ k_ ∨ P0_2_ k_ ∨ P0_3_ k_ ∨ P0_4_ k_) ∨ w.heap.size ≤ k_)) v4_ r5 ∧ Below w0.heap.size w0 w' ∧ Kept w w' (fun k_ => P0_1_ k_ ∨ P0_2_ k_ ∨ P0_3_ k_ ∨ P0_4_ k_) := by
  have hu28 := Try.underlying28
  have hu54 := Try.underlying54
  have HO0_1 := Az.mk (show Kd.R Kd.string 9 w w0.heap.size (fun k_ => ((P0_1_ k_ ∨ P0_2_ k_ ∨ P0_3_ k_ ∨ P0_4_ k_) ∨ w.heap.size ≤ k_) ∧ some k_ ≠ (u9001_ : Value).ownBlock) u9000_ l0_1 from Kd.R_mono ho0_1 (fun k_ hk => ⟨(.inl (.inl hk)), fun e_ => hp0_1_0_2 k_ hk (ho0_2.1 k_ e_.symm)⟩))
  have HO0_2 := Az.mk (show Kd.R Kd.string 9 w w0.heap.size (fun k_ => ((P0_1_ k_ ∨ P0_2_ k_ ∨ P0_3_ k_ ∨ P0_4_ k_) ∨ w.heap.size ≤ k_) ∧ some k_ ≠ (u9000_ : Value).ownBlock) u9001_ l0_2 from Kd.R_mono ho0_2 (fun k_ hk => ⟨(.inl (.inr (.inl hk))), fun e_ => hp0_2_0_1 k_ hk (ho0_1.1 k_ e_.symm)⟩))
  have HO0_3 := Az.mk (show Kd.R Kd.bool 4 w w0.heap.size (fun k_ => ((P0_1_ k_ ∨ P0_2_ k_ ∨ P0_3_ k_ ∨ P0_4_ k_) ∨ w.heap.size ≤ k_)) u9002_ l0_3 from Kd.R_mono ho0_3 (fun k_ hk => (.inl (.inr (.inr (.inl hk))))))
  have HO0_4 := Az.mk (show Kd.R k54 54 w w0.heap.size (fun k_ => ((P0_1_ k_ ∨ P0_2_ k_ ∨ P0_3_ k_ ∨ P0_4_ k_) ∨ w.heap.size ≤ k_)) u9003_ l0_4 from Kd.R_mono ho0_4 (fun k_ hk => (.inl (.inr (.inr (.inr hk))))))
  have HK := Az.mk (Kept.refl w (fun k_ => P0_1_ k_ ∨ P0_2_ k_ ∨ P0_3_ k_ ∨ P0_4_ k_))
  have HW0 := Az.mk hB.size
  have HB := Az.mk hB
  clear hB
  have H : (if a0_0 = 1 then (some (a0_0, l0_1, l0_2, l0_3, l0_4)) else (if (l0_4.length : Int) = 40 then ((spec_l3Flush.f k a0_0 l0_1 l0_2 l0_3 l0_4).bind fun bt652 => (if bt652.2.2.2.2.length < 4398046511104 then (some (bt652.1, bt652.2.1, bt652.2.2.1, bt652.2.2.2.1, (bt652.2.2.2.2 ++ [(⟨a1_0, a1_1, a1_2⟩ : S54)]))) else (none))) else (if l0_4.length < 4398046511104 then (some (a0_0, l0_1, l0_2, l0_3, (l0_4 ++ [(⟨a1_0, a1_1, a1_2⟩ : S54)]))) else (none)))) = some (r1, r2, r3, r4, r5) := h
  clear h
  by_cases c3 : a0_0 = 1
  · rw [if_pos c3] at H
    have c3b0 : (a0_0 == 1) = true := beq_iff_eq.mpr c3
    have c3b1 : (a0_0 != 1) = false := bne_eq_false_iff_eq.mpr c3
    clear c3
    simp only [Option.some.injEq, Prod.mk.injEq] at H
    obtain ⟨rfl, rfl, rfl, rfl, rfl⟩ := H
    obtain ⟨Ao4, co4, eo4⟩ := Kd.R_slice HO0_1.out
    subst eo4
    obtain ⟨Ao5, co5, eo5⟩ := Kd.R_slice HO0_2.out
    subst eo5
    obtain ⟨Ao6, co6, eo6⟩ := Kd.R_slice HO0_3.out
    subst eo6
    obtain ⟨Ao7, co7, eo7⟩ := Kd.R_slice HO0_4.out
    subst eo7
    go_enter Try.func85, Try.ntmps85
    go_wp2_with (first | ((with_reducible refine zqg (N := 2) rfl ?_); refine zqb ?hg (N := 2) ?hd (cs := #[.int .i64 a0_0, .slice Ao4 l0_1.length co4, .slice Ao5 l0_2.length co5, .slice Ao6 l0_3.length co6, .slice Ao7 l0_4.length co7]) (t := 28) ?hr ?_; (case hd => rfl); (case hg => rfl); (case hr => first | (go_simp; done) | (go_simp; rfl)); intro gb649 hg w8 hbox hb; have n0_ := Az.mk (Kd.R_below (by (with_reducible repeat (first | apply Kd.R_alloc | apply Kd.R_drewN | apply Kd.R_drew)); exact HO0_1.out) hb); have n1_ := Az.mk (Kd.R_below (by (with_reducible repeat (first | apply Kd.R_alloc | apply Kd.R_drewN | apply Kd.R_drew)); exact HO0_2.out) hb); have n2_ := Az.mk (Kd.R_below (by (with_reducible repeat (first | apply Kd.R_alloc | apply Kd.R_drewN | apply Kd.R_drew)); exact HO0_3.out) hb); have n3_ := Az.mk (Kd.R_below (by (with_reducible repeat (first | apply Kd.R_alloc | apply Kd.R_drewN | apply Kd.R_drew)); exact HO0_4.out) hb); have n4_ := Az.mk (Kept.below (S := (fun k_ => P0_1_ k_ ∨ P0_2_ k_ ∨ P0_3_ k_ ∨ P0_4_ k_)) (by repeat (first | (with_reducible first | exact HK.out | apply Kept.alloc | apply Kept.drewN | apply Kept.drew) | exact HK.out)) hb); have n5_ := Az.mk (below_step (by repeat (first | (with_reducible first | exact HB.out | apply zq2 | apply zq1 | apply below_drew1) | exact HB.out)) hb); have n6_ := Az.mk (hbox); have n7_ := Az.mk ((by rw [hg]; exact (by first | exact HK.out.1 | exact (show Kept w _ (fun k_ => P0_1_ k_ ∨ P0_2_ k_ ∨ P0_3_ k_ ∨ P0_4_ k_) from by repeat (first | (with_reducible first | exact HK.out | apply Kept.alloc | apply Kept.drewN | apply Kept.drew) | exact HK.out)).1) : w.heap.size ≤ gb649)); have n8_ := Az.mk ((by rw [hg]; exact (below_size (by repeat (first | (with_reducible first | exact HB.out | apply zq2 | apply zq1 | apply below_drew1) | exact HB.out))) : w0.heap.size ≤ gb649)); clear HO0_1; clear HO0_2; clear HO0_3; clear HO0_4; clear HK; clear HB; have HO0_1 := n0_; have HO0_2 := n1_; have HO0_3 := n2_; have HO0_4 := n3_; have HK := n4_; have HB := n5_; have BK649 := n6_; have GW649 := n7_; have GE649 := n8_; clear n0_ n1_ n2_ n3_ n4_ n5_ n6_ n7_ n8_; clear hb hbox hg) | ((with_reducible refine zqg (N := 3) rfl ?_); refine zqb ?hg (N := 3) ?hd (cs := #[.bool a1_0, .int .i64 a1_1, .string a1_2]) (t := 54) ?hr ?_; (case hd => rfl); (case hg => rfl); (case hr => first | (go_simp; done) | (go_simp; rfl)); intro gb650 hg w9 hbox hb; have n0_ := Az.mk (Kd.R_below (by (with_reducible repeat (first | apply Kd.R_alloc | apply Kd.R_drewN | apply Kd.R_drew)); exact HO0_1.out) hb); have n1_ := Az.mk (Kd.R_below (by (with_reducible repeat (first | apply Kd.R_alloc | apply Kd.R_drewN | apply Kd.R_drew)); exact HO0_2.out) hb); have n2_ := Az.mk (Kd.R_below (by (with_reducible repeat (first | apply Kd.R_alloc | apply Kd.R_drewN | apply Kd.R_drew)); exact HO0_3.out) hb); have n3_ := Az.mk (Kd.R_below (Kd.R_elderB (by (with_reducible repeat (first | apply Kd.R_alloc | apply Kd.R_drewN | apply Kd.R_drew)); exact HO0_4.out) gb650 (Nat.le_of_eq hg.symm)) hb); have n4_ := Az.mk (blk_below (g := gb649) (o := .cells #[.int .i64 a0_0, .slice Ao4 l0_1.length co4, .slice Ao5 l0_2.length co5, .slice Ao6 l0_3.length co6, .slice Ao7 l0_4.length co7] 28 (0, 0)) (by (with_reducible repeat (first | refine zq6 ?_ _ | refine zq8 ?_ | refine zq7 ?_ _)); exact BK649.out) hb); have n5_ := Az.mk (Kept.below (S := (fun k_ => P0_1_ k_ ∨ P0_2_ k_ ∨ P0_3_ k_ ∨ P0_4_ k_)) (by repeat (first | (with_reducible first | exact HK.out | apply Kept.alloc | apply Kept.drewN | apply Kept.drew | refine Kept.setCell ?_ (.inr GW649.out) _) | exact HK.out)) hb); have n6_ := Az.mk (below_step (by repeat (first | (with_reducible first | exact HB.out | apply zq2 | apply zq1 | apply below_drew1 | refine zq3 ?_ GE649.out) | exact HB.out)) hb); have n7_ := Az.mk (hbox); have n8_ := Az.mk ((by rw [hg]; exact (by first | exact HK.out.1 | exact (show Kept w _ (fun k_ => P0_1_ k_ ∨ P0_2_ k_ ∨ P0_3_ k_ ∨ P0_4_ k_) from by repeat (first | (with_reducible first | exact HK.out | apply Kept.alloc | apply Kept.drewN | apply Kept.drew | refine Kept.setCell ?_ (.inr GW649.out) _) | exact HK.out)).1) : w.heap.size ≤ gb650)); have n9_ := Az.mk ((by rw [hg]; exact (below_size (by repeat (first | (with_reducible first | exact HB.out | apply zq2 | apply zq1 | apply below_drew1 | refine zq3 ?_ GE649.out) | exact HB.out))) : w0.heap.size ≤ gb650)); have n10_ := Az.mk ((by rw [hg]; exact Nat.ne_of_lt (blk_lt (g := gb649) (o := .cells #[.int .i64 a0_0, .slice Ao4 l0_1.length co4, .slice Ao5 l0_2.length co5, .slice Ao6 l0_3.length co6, .slice Ao7 l0_4.length co7] 28 (0, 0)) (by (with_reducible repeat (first | refine zq6 ?_ _ | refine zq8 ?_ | refine zq7 ?_ _)); exact BK649.out)) : gb649 ≠ gb650)); have n11_ := Az.mk ((by rw [hg]; exact Nat.ne_of_gt (blk_lt (g := gb649) (o := .cells #[.int .i64 a0_0, .slice Ao4 l0_1.length co4, .slice Ao5 l0_2.length co5, .slice Ao6 l0_3.length co6, .slice Ao7 l0_4.length co7] 28 (0, 0)) (by (with_reducible repeat (first | refine zq6 ?_ _ | refine zq8 ?_ | refine zq7 ?_ _)); exact BK649.out)) : gb650 ≠ gb649)); clear HO0_1; clear HO0_2; clear HO0_3; clear HO0_4; clear BK649; clear HK; clear HB; have HO0_1 := n0_; have HO0_2 := n1_; have HO0_3 := n2_; have HO0_4 := n3_; have BK649 := n4_; have HK := n5_; have HB := n6_; have BK650 := n7_; have GW650 := n8_; have GE650 := n9_; have NB649_650 := n10_; have NB650_649 := n11_; clear n0_ n1_ n2_ n3_ n4_ n5_ n6_ n7_ n8_ n9_ n10_ n11_; clear hb hbox hg) | ((with_reducible refine zqg (N := 4) rfl ?_); refine zqb ?hg (N := 4) ?hd (cs := #[.int .i64 0, .slice none 0 0, .slice none 0 0, .slice none 0 0, .slice none 0 0]) (t := 28) ?hr ?_; (case hd => rfl); (case hg => rfl); (case hr => first | (go_simp; done) | (go_simp; rfl)); intro gb651 hg w10 hbox hb; have n0_ := Az.mk (Kd.R_below (by (with_reducible repeat (first | apply Kd.R_alloc | apply Kd.R_drewN | apply Kd.R_drew)); exact HO0_1.out) hb); have n1_ := Az.mk (Kd.R_below (by (with_reducible repeat (first | apply Kd.R_alloc | apply Kd.R_drewN | apply Kd.R_drew)); exact HO0_2.out) hb); have n2_ := Az.mk (Kd.R_below (by (with_reducible repeat (first | apply Kd.R_alloc | apply Kd.R_drewN | apply Kd.R_drew)); exact HO0_3.out) hb); have n3_ := Az.mk (Kd.R_below (by (with_reducible repeat (first | apply Kd.R_alloc | apply Kd.R_drewN | apply Kd.R_drew)); exact HO0_4.out) hb); have n4_ := Az.mk (blk_below (g := gb649) (o := .cells #[.int .i64 a0_0, .slice Ao4 l0_1.length co4, .slice Ao5 l0_2.length co5, .slice Ao6 l0_3.length co6, .slice Ao7 l0_4.length co7] 28 (0, 0)) (by (with_reducible repeat (first | refine zq6 ?_ _ | refine zq8 ?_ | refine zq7 ?_ _)); exact BK649.out) hb); have n5_ := Az.mk (blk_below (g := gb650) (o := .cells #[.bool a1_0, .int .i64 a1_1, .string a1_2] 54 (0, 0)) (by (with_reducible repeat (first | refine zq6 ?_ _ | refine zq8 ?_ | refine zq7 ?_ _)); exact BK650.out) hb); have n6_ := Az.mk (Kept.below (S := (fun k_ => P0_1_ k_ ∨ P0_2_ k_ ∨ P0_3_ k_ ∨ P0_4_ k_)) (by repeat (first | (with_reducible first | exact HK.out | apply Kept.alloc | apply Kept.drewN | apply Kept.drew | refine Kept.setCell ?_ (.inr GW649.out) _ | refine Kept.setCell ?_ (.inr GW650.out) _) | exact HK.out)) hb); have n7_ := Az.mk (below_step (by repeat (first | (with_reducible first | exact HB.out | apply zq2 | apply zq1 | apply below_drew1 | refine zq3 ?_ GE649.out | refine zq3 ?_ GE650.out) | exact HB.out)) hb); have n8_ := Az.mk (hbox); have n9_ := Az.mk ((by rw [hg]; exact (by first | exact HK.out.1 | exact (show Kept w _ (fun k_ => P0_1_ k_ ∨ P0_2_ k_ ∨ P0_3_ k_ ∨ P0_4_ k_) from by repeat (first | (with_reducible first | exact HK.out | apply Kept.alloc | apply Kept.drewN | apply Kept.drew | refine Kept.setCell ?_ (.inr GW649.out) _ | refine Kept.setCell ?_ (.inr GW650.out) _) | exact HK.out)).1) : w.heap.size ≤ gb651)); have n10_ := Az.mk ((by rw [hg]; exact (below_size (by repeat (first | (with_reducible first | exact HB.out | apply zq2 | apply zq1 | apply below_drew1 | refine zq3 ?_ GE649.out | refine zq3 ?_ GE650.out) | exact HB.out))) : w0.heap.size ≤ gb651)); have n11_ := Az.mk ((by rw [hg]; exact Nat.ne_of_lt (blk_lt (g := gb649) (o := .cells #[.int .i64 a0_0, .slice Ao4 l0_1.length co4, .slice Ao5 l0_2.length co5, .slice Ao6 l0_3.length co6, .slice Ao7 l0_4.length co7] 28 (0, 0)) (by (with_reducible repeat (first | refine zq6 ?_ _ | refine zq8 ?_ | refine zq7 ?_ _)); exact BK649.out)) : gb649 ≠ gb651)); have n12_ := Az.mk ((by rw [hg]; exact Nat.ne_of_gt (blk_lt (g := gb649) (o := .cells #[.int .i64 a0_0, .slice Ao4 l0_1.length co4, .slice Ao5 l0_2.length co5, .slice Ao6 l0_3.length co6, .slice Ao7 l0_4.length co7] 28 (0, 0)) (by (with_reducible repeat (first | refine zq6 ?_ _ | refine zq8 ?_ | refine zq7 ?_ _)); exact BK649.out)) : gb651 ≠ gb649)); have n13_ := Az.mk ((by rw [hg]; exact Nat.ne_of_lt (blk_lt (g := gb650) (o := .cells #[.bool a1_0, .int .i64 a1_1, .string a1_2] 54 (0, 0)) (by (with_reducible repeat (first | refine zq6 ?_ _ | refine zq8 ?_ | refine zq7 ?_ _)); exact BK650.out)) : gb650 ≠ gb651)); have n14_ := Az.mk ((by rw [hg]; exact Nat.ne_of_gt (blk_lt (g := gb650) (o := .cells #[.bool a1_0, .int .i64 a1_1, .string a1_2] 54 (0, 0)) (by (with_reducible repeat (first | refine zq6 ?_ _ | refine zq8 ?_ | refine zq7 ?_ _)); exact BK650.out)) : gb651 ≠ gb650)); clear HO0_1; clear HO0_2; clear HO0_3; clear HO0_4; clear BK649; clear BK650; clear HK; clear HB; have HO0_1 := n0_; have HO0_2 := n1_; have HO0_3 := n2_; have HO0_4 := n3_; have BK649 := n4_; have BK650 := n5_; have HK := n6_; have HB := n7_; have BK651 := n8_; have GW651 := n9_; have GE651 := n10_; have NB649_651 := n11_; have NB651_649 := n12_; have NB650_651 := n13_; have NB651_650 := n14_; clear n0_ n1_ n2_ n3_ n4_ n5_ n6_ n7_ n8_ n9_ n10_ n11_ n12_ n13_ n14_; clear hb hbox hg; have hnb11 := NB649_650.out; have hnc11 := NB650_649.out; have hnb12 := NB649_651.out; have hnc12 := NB651_649.out; have hcz13_0 : w10.cell? ⟨gb649, 0, none⟩ = some (.int .i64 a0_0) := (zq4 BK649.out 0).trans rfl; have hcz13_1 : w10.cell? ⟨gb649, 1, none⟩ = some (.slice Ao4 l0_1.length co4) := (zq4 BK649.out 1).trans rfl; have hcz13_2 : w10.cell? ⟨gb649, 2, none⟩ = some (.slice Ao5 l0_2.length co5) := (zq4 BK649.out 2).trans rfl; have hcz13_3 : w10.cell? ⟨gb649, 3, none⟩ = some (.slice Ao6 l0_3.length co6) := (zq4 BK649.out 3).trans rfl; have hcz13_4 : w10.cell? ⟨gb649, 4, none⟩ = some (.slice Ao7 l0_4.length co7) := (zq4 BK649.out 4).trans rfl; have hfz13_0 := zq5 BK649.out 0; have hfz13_1 := zq5 BK649.out 1; have hfz13_2 := zq5 BK649.out 2; have hfz13_3 := zq5 BK649.out 3; have hfz13_4 := zq5 BK649.out 4; have hnb14 := NB651_650.out; have hnc14 := NB650_651.out; have hcz15_0 : w10.cell? ⟨gb651, 0, none⟩ = some (.int .i64 0) := (zq4 BK651.out 0).trans rfl; have hcz15_1 : w10.cell? ⟨gb651, 1, none⟩ = some (.slice none 0 0) := (zq4 BK651.out 1).trans rfl; have hcz15_2 : w10.cell? ⟨gb651, 2, none⟩ = some (.slice none 0 0) := (zq4 BK651.out 2).trans rfl; have hcz15_3 : w10.cell? ⟨gb651, 3, none⟩ = some (.slice none 0 0) := (zq4 BK651.out 3).trans rfl; have hcz15_4 : w10.cell? ⟨gb651, 4, none⟩ = some (.slice none 0 0) := (zq4 BK651.out 4).trans rfl; have hfz15_0 := zq5 BK651.out 0; have hfz15_1 := zq5 BK651.out 1; have hfz15_2 := zq5 BK651.out 2; have hfz15_3 := zq5 BK651.out 3; have hfz15_4 := zq5 BK651.out 4))
    refine bodyPost_ret (results_cell_row rfl _ _ gb651 28 #[.int .i64 a0_0, .slice Ao4 l0_1.length co4, .slice Ao5 l0_2.length co5, .slice Ao6 l0_3.length co6, .slice Ao7 l0_4.length co7] (0, 0) _ rfl (by (with_reducible repeat (first | refine zq6 ?_ _ | refine zq8 ?_ | refine zq7 ?_ _)); refine blk_put (cs := #[.int .i64 a0_0, .slice Ao4 l0_1.length co4, .slice Ao5 l0_2.length co5, .slice Ao6 l0_3.length co6, .slice none 0 0]) ?_ 4 _ rfl; (with_reducible repeat (first | refine zq6 ?_ _ | refine zq8 ?_ | refine zq7 ?_ _)); refine blk_put (cs := #[.int .i64 a0_0, .slice Ao4 l0_1.length co4, .slice Ao5 l0_2.length co5, .slice none 0 0, .slice none 0 0]) ?_ 3 _ rfl; (with_reducible repeat (first | refine zq6 ?_ _ | refine zq8 ?_ | refine zq7 ?_ _)); refine blk_put (cs := #[.int .i64 a0_0, .slice Ao4 l0_1.length co4, .slice none 0 0, .slice none 0 0, .slice none 0 0]) ?_ 2 _ rfl; (with_reducible repeat (first | refine zq6 ?_ _ | refine zq8 ?_ | refine zq7 ?_ _)); refine blk_put (cs := #[.int .i64 a0_0, .slice none 0 0, .slice none 0 0, .slice none 0 0, .slice none 0 0]) ?_ 1 _ rfl; (with_reducible repeat (first | refine zq6 ?_ _ | refine zq8 ?_ | refine zq7 ?_ _)); refine blk_put (cs := #[.int .i64 0, .slice none 0 0, .slice none 0 0, .slice none 0 0, .slice none 0 0]) ?_ 0 _ rfl; (with_reducible repeat (first | refine zq6 ?_ _ | refine zq8 ?_ | refine zq7 ?_ _)); exact BK651.out) Try.underlying28 rfl (by kernel_rfl)) rfl ?_
    exact ⟨_, _, _, _, by first | rfl | (simp [errW_none, errW_some] <;> rfl) | (simp [*, errW_none, errW_some] <;> rfl), by (with_reducible repeat (first | apply Kd.R_alloc | apply Kd.R_drewN | apply Kd.R_drew)); exact Kd.R_mono (Kd.R_far (p := ⟨gb651, 4, none⟩) (Kd.R_far (p := ⟨gb651, 3, none⟩) (Kd.R_far (p := ⟨gb651, 2, none⟩) (Kd.R_far (p := ⟨gb651, 1, none⟩) (Kd.R_far (p := ⟨gb651, 0, none⟩) (Kd.R_types HO0_1.out BK651.out (by decide)) (fun _ hk => hk.2) (.int .i64 a0_0)) (fun _ hk => hk.2) (.slice Ao4 l0_1.length co4)) (fun _ hk => hk.2) (.slice Ao5 l0_2.length co5)) (fun _ hk => hk.2) (.slice Ao6 l0_3.length co6)) (fun _ hk => hk.2) (.slice Ao7 l0_4.length co7)) (fun _ hk => ⟨hk.1.1, hk.1.2⟩), by (with_reducible repeat (first | apply Kd.R_alloc | apply Kd.R_drewN | apply Kd.R_drew)); exact Kd.R_mono (Kd.R_far (p := ⟨gb651, 4, none⟩) (Kd.R_far (p := ⟨gb651, 3, none⟩) (Kd.R_far (p := ⟨gb651, 2, none⟩) (Kd.R_far (p := ⟨gb651, 1, none⟩) (Kd.R_far (p := ⟨gb651, 0, none⟩) (Kd.R_types HO0_2.out BK651.out (by decide)) (fun _ hk => hk.2) (.int .i64 a0_0)) (fun _ hk => hk.2) (.slice Ao4 l0_1.length co4)) (fun _ hk => hk.2) (.slice Ao5 l0_2.length co5)) (fun _ hk => hk.2) (.slice Ao6 l0_3.length co6)) (fun _ hk => hk.2) (.slice Ao7 l0_4.length co7)) (fun _ hk => ⟨hk.1.1, hk.1.2⟩), by (with_reducible repeat (first | apply Kd.R_alloc | apply Kd.R_drewN | apply Kd.R_drew)); exact Kd.R_mono (Kd.R_far (p := ⟨gb651, 4, none⟩) (Kd.R_far (p := ⟨gb651, 3, none⟩) (Kd.R_far (p := ⟨gb651, 2, none⟩) (Kd.R_far (p := ⟨gb651, 1, none⟩) (Kd.R_far (p := ⟨gb651, 0, none⟩) (Kd.R_types HO0_3.out BK651.out (by decide)) (fun _ hk => hk.2) (.int .i64 a0_0)) (fun _ hk => hk.2) (.slice Ao4 l0_1.length co4)) (fun _ hk => hk.2) (.slice Ao5 l0_2.length co5)) (fun _ hk => hk.2) (.slice Ao6 l0_3.length co6)) (fun _ hk => hk.2) (.slice Ao7 l0_4.length co7)) (fun _ hk => hk.1), by (with_reducible repeat (first | apply Kd.R_alloc | apply Kd.R_drewN | apply Kd.R_drew)); exact Kd.R_mono (Kd.R_far (p := ⟨gb651, 4, none⟩) (Kd.R_far (p := ⟨gb651, 3, none⟩) (Kd.R_far (p := ⟨gb651, 2, none⟩) (Kd.R_far (p := ⟨gb651, 1, none⟩) (Kd.R_far (p := ⟨gb651, 0, none⟩) (Kd.R_types HO0_4.out BK651.out (by decide)) (fun _ hk => hk.2) (.int .i64 a0_0)) (fun _ hk => hk.2) (.slice Ao4 l0_1.length co4)) (fun _ hk => hk.2) (.slice Ao5 l0_2.length co5)) (fun _ hk => hk.2) (.slice Ao6 l0_3.length co6)) (fun _ hk => hk.2) (.slice Ao7 l0_4.length co7)) (fun _ hk => hk.1.1), by repeat (first | (with_reducible first | exact HB.out | apply zq2 | apply zq1 | apply below_drew1 | refine zq3 ?_ GE649.out | refine zq3 ?_ GE650.out | refine zq3 ?_ GE651.out) | exact HB.out), by repeat (first | (with_reducible first | exact HK.out | apply Kept.alloc | apply Kept.drewN | apply Kept.drew | refine Kept.setCell ?_ (.inr GW649.out) _ | refine Kept.setCell ?_ (.inr GW650.out) _ | refine Kept.setCell ?_ (.inr GW651.out) _) | exact HK.out)⟩
  · rw [if_neg c3] at H
    have c3b0 : (a0_0 == 1) = false := beq_eq_false_iff_ne.mpr c3
    have c3b1 : (a0_0 != 1) = true := bne_iff_ne.mpr c3
    by_cases c16 : (l0_4.length : Int) = 40
    · rw [if_pos c16] at H
      have c16b0 : ((l0_4.length : Int) == 40) = true := beq_iff_eq.mpr c16
      have c16b1 : ((l0_4.length : Int) != 40) = false := bne_eq_false_iff_eq.mpr c16
      clear c16
      replace H := Option.bind_eq_some_iff.mp H
      obtain ⟨⟨t652, t653, t656, t659, t662⟩, A170, H⟩ := H
      replace H : (if t662.length < 4398046511104 then (some (t652, t653, t656, t659, (t662 ++ [(⟨a1_0, a1_1, a1_2⟩ : S54)]))) else (none)) = some (r1, r2, r3, r4, r5) := H
      have A17 := Az.mk A170
      clear A170
      by_cases c18 : t662.length < 4398046511104
      · rw [if_pos c18] at H
        have LMc18 := Az.mk c18
        clear c18
        obtain ⟨y665, hy665⟩ : ∃ y_ : List (S54), y_ = (t662 ++ [(⟨a1_0, a1_1, a1_2⟩ : S54)]) := ⟨_, rfl⟩
        replace H : (some (t652, t653, t656, t659, y665)) = some (r1, r2, r3, r4, r5) := by first | (rw [hy665]; with_reducible exact H) | (have H2_ := (Option.bind_some _ _).symm.trans H; rw [hy665]; with_reducible exact H2_) | (have H2_ := (Option.bind_some _ _).symm.trans H; with_reducible exact H2_) | with_reducible exact H | (rw [hy665]; exact H) | exact H
        have Ny665 := Az.mk hy665
        clear hy665
        simp only [Option.some.injEq, Prod.mk.injEq] at H
        obtain ⟨rfl, rfl, rfl, rfl, rfl⟩ := H
        obtain ⟨Ao19, co19, eo19⟩ := Kd.R_slice HO0_1.out
        subst eo19
        obtain ⟨Ao20, co20, eo20⟩ := Kd.R_slice HO0_2.out
        subst eo20
        obtain ⟨Ao21, co21, eo21⟩ := Kd.R_slice HO0_3.out
        subst eo21
        obtain ⟨Ao22, co22, eo22⟩ := Kd.R_slice HO0_4.out
        subst eo22
        go_enter Try.func85, Try.ntmps85
        go_wp2_with (first | ((with_reducible refine zqg (N := 2) rfl ?_); refine zqb ?hg (N := 2) ?hd (cs := #[.int .i64 a0_0, .slice Ao19 l0_1.length co19, .slice Ao20 l0_2.length co20, .slice Ao21 l0_3.length co21, .slice Ao22 l0_4.length co22]) (t := 28) ?hr ?_; (case hd => rfl); (case hg => rfl); (case hr => first | (go_simp; done) | (go_simp; rfl)); intro gb649 hg w23 hbox hb; have n0_ := Az.mk (Kd.R_below (by (with_reducible repeat (first | apply Kd.R_alloc | apply Kd.R_drewN | apply Kd.R_drew)); exact HO0_1.out) hb); have n1_ := Az.mk (Kd.R_below (by (with_reducible repeat (first | apply Kd.R_alloc | apply Kd.R_drewN | apply Kd.R_drew)); exact HO0_2.out) hb); have n2_ := Az.mk (Kd.R_below (by (with_reducible repeat (first | apply Kd.R_alloc | apply Kd.R_drewN | apply Kd.R_drew)); exact HO0_3.out) hb); have n3_ := Az.mk (Kd.R_below (by (with_reducible repeat (first | apply Kd.R_alloc | apply Kd.R_drewN | apply Kd.R_drew)); exact HO0_4.out) hb); have n4_ := Az.mk (Kept.below (S := (fun k_ => P0_1_ k_ ∨ P0_2_ k_ ∨ P0_3_ k_ ∨ P0_4_ k_)) (by repeat (first | (with_reducible first | exact HK.out | apply Kept.alloc | apply Kept.drewN | apply Kept.drew) | exact HK.out)) hb); have n5_ := Az.mk (below_step (by repeat (first | (with_reducible first | exact HB.out | apply zq2 | apply zq1 | apply below_drew1) | exact HB.out)) hb); have n6_ := Az.mk (hbox); have n7_ := Az.mk ((by rw [hg]; exact (by first | exact HK.out.1 | exact (show Kept w _ (fun k_ => P0_1_ k_ ∨ P0_2_ k_ ∨ P0_3_ k_ ∨ P0_4_ k_) from by repeat (first | (with_reducible first | exact HK.out | apply Kept.alloc | apply Kept.drewN | apply Kept.drew) | exact HK.out)).1) : w.heap.size ≤ gb649)); have n8_ := Az.mk ((by rw [hg]; exact (below_size (by repeat (first | (with_reducible first | exact HB.out | apply zq2 | apply zq1 | apply below_drew1) | exact HB.out))) : w0.heap.size ≤ gb649)); clear HO0_1; clear HO0_2; clear HO0_3; clear HO0_4; clear HK; clear HB; have HO0_1 := n0_; have HO0_2 := n1_; have HO0_3 := n2_; have HO0_4 := n3_; have HK := n4_; have HB := n5_; have BK649 := n6_; have GW649 := n7_; have GE649 := n8_; clear n0_ n1_ n2_ n3_ n4_ n5_ n6_ n7_ n8_; clear hb hbox hg) | ((with_reducible refine zqg (N := 3) rfl ?_); refine zqb ?hg (N := 3) ?hd (cs := #[.bool a1_0, .int .i64 a1_1, .string a1_2]) (t := 54) ?hr ?_; (case hd => rfl); (case hg => rfl); (case hr => first | (go_simp; done) | (go_simp; rfl)); intro gb650 hg w24 hbox hb; have n0_ := Az.mk (Kd.R_below (by (with_reducible repeat (first | apply Kd.R_alloc | apply Kd.R_drewN | apply Kd.R_drew)); exact HO0_1.out) hb); have n1_ := Az.mk (Kd.R_below (by (with_reducible repeat (first | apply Kd.R_alloc | apply Kd.R_drewN | apply Kd.R_drew)); exact HO0_2.out) hb); have n2_ := Az.mk (Kd.R_below (by (with_reducible repeat (first | apply Kd.R_alloc | apply Kd.R_drewN | apply Kd.R_drew)); exact HO0_3.out) hb); have n3_ := Az.mk (Kd.R_below (Kd.R_elderB (by (with_reducible repeat (first | apply Kd.R_alloc | apply Kd.R_drewN | apply Kd.R_drew)); exact HO0_4.out) gb650 (Nat.le_of_eq hg.symm)) hb); have n4_ := Az.mk (blk_below (g := gb649) (o := .cells #[.int .i64 a0_0, .slice Ao19 l0_1.length co19, .slice Ao20 l0_2.length co20, .slice Ao21 l0_3.length co21, .slice Ao22 l0_4.length co22] 28 (0, 0)) (by (with_reducible repeat (first | refine zq6 ?_ _ | refine zq8 ?_ | refine zq7 ?_ _)); exact BK649.out) hb); have n5_ := Az.mk (Kept.below (S := (fun k_ => P0_1_ k_ ∨ P0_2_ k_ ∨ P0_3_ k_ ∨ P0_4_ k_)) (by repeat (first | (with_reducible first | exact HK.out | apply Kept.alloc | apply Kept.drewN | apply Kept.drew | refine Kept.setCell ?_ (.inr GW649.out) _) | exact HK.out)) hb); have n6_ := Az.mk (below_step (by repeat (first | (with_reducible first | exact HB.out | apply zq2 | apply zq1 | apply below_drew1 | refine zq3 ?_ GE649.out) | exact HB.out)) hb); have n7_ := Az.mk (hbox); have n8_ := Az.mk ((by rw [hg]; exact (by first | exact HK.out.1 | exact (show Kept w _ (fun k_ => P0_1_ k_ ∨ P0_2_ k_ ∨ P0_3_ k_ ∨ P0_4_ k_) from by repeat (first | (with_reducible first | exact HK.out | apply Kept.alloc | apply Kept.drewN | apply Kept.drew | refine Kept.setCell ?_ (.inr GW649.out) _) | exact HK.out)).1) : w.heap.size ≤ gb650)); have n9_ := Az.mk ((by rw [hg]; exact (below_size (by repeat (first | (with_reducible first | exact HB.out | apply zq2 | apply zq1 | apply below_drew1 | refine zq3 ?_ GE649.out) | exact HB.out))) : w0.heap.size ≤ gb650)); have n10_ := Az.mk ((by rw [hg]; exact Nat.ne_of_lt (blk_lt (g := gb649) (o := .cells #[.int .i64 a0_0, .slice Ao19 l0_1.length co19, .slice Ao20 l0_2.length co20, .slice Ao21 l0_3.length co21, .slice Ao22 l0_4.length co22] 28 (0, 0)) (by (with_reducible repeat (first | refine zq6 ?_ _ | refine zq8 ?_ | refine zq7 ?_ _)); exact BK649.out)) : gb649 ≠ gb650)); have n11_ := Az.mk ((by rw [hg]; exact Nat.ne_of_gt (blk_lt (g := gb649) (o := .cells #[.int .i64 a0_0, .slice Ao19 l0_1.length co19, .slice Ao20 l0_2.length co20, .slice Ao21 l0_3.length co21, .slice Ao22 l0_4.length co22] 28 (0, 0)) (by (with_reducible repeat (first | refine zq6 ?_ _ | refine zq8 ?_ | refine zq7 ?_ _)); exact BK649.out)) : gb650 ≠ gb649)); clear HO0_1; clear HO0_2; clear HO0_3; clear HO0_4; clear BK649; clear HK; clear HB; have HO0_1 := n0_; have HO0_2 := n1_; have HO0_3 := n2_; have HO0_4 := n3_; have BK649 := n4_; have HK := n5_; have HB := n6_; have BK650 := n7_; have GW650 := n8_; have GE650 := n9_; have NB649_650 := n10_; have NB650_649 := n11_; clear n0_ n1_ n2_ n3_ n4_ n5_ n6_ n7_ n8_ n9_ n10_ n11_; clear hb hbox hg) | ((with_reducible refine zqg (N := 4) rfl ?_); refine zqb ?hg (N := 4) ?hd (cs := #[.int .i64 0, .slice none 0 0, .slice none 0 0, .slice none 0 0, .slice none 0 0]) (t := 28) ?hr ?_; (case hd => rfl); (case hg => rfl); (case hr => first | (go_simp; done) | (go_simp; rfl)); intro gb651 hg w25 hbox hb; have n0_ := Az.mk (Kd.R_below (by (with_reducible repeat (first | apply Kd.R_alloc | apply Kd.R_drewN | apply Kd.R_drew)); exact HO0_1.out) hb); have n1_ := Az.mk (Kd.R_below (by (with_reducible repeat (first | apply Kd.R_alloc | apply Kd.R_drewN | apply Kd.R_drew)); exact HO0_2.out) hb); have n2_ := Az.mk (Kd.R_below (by (with_reducible repeat (first | apply Kd.R_alloc | apply Kd.R_drewN | apply Kd.R_drew)); exact HO0_3.out) hb); have n3_ := Az.mk (Kd.R_below (by (with_reducible repeat (first | apply Kd.R_alloc | apply Kd.R_drewN | apply Kd.R_drew)); exact HO0_4.out) hb); have n4_ := Az.mk (blk_below (g := gb649) (o := .cells #[.int .i64 a0_0, .slice Ao19 l0_1.length co19, .slice Ao20 l0_2.length co20, .slice Ao21 l0_3.length co21, .slice Ao22 l0_4.length co22] 28 (0, 0)) (by (with_reducible repeat (first | refine zq6 ?_ _ | refine zq8 ?_ | refine zq7 ?_ _)); exact BK649.out) hb); have n5_ := Az.mk (blk_below (g := gb650) (o := .cells #[.bool a1_0, .int .i64 a1_1, .string a1_2] 54 (0, 0)) (by (with_reducible repeat (first | refine zq6 ?_ _ | refine zq8 ?_ | refine zq7 ?_ _)); exact BK650.out) hb); have n6_ := Az.mk (Kept.below (S := (fun k_ => P0_1_ k_ ∨ P0_2_ k_ ∨ P0_3_ k_ ∨ P0_4_ k_)) (by repeat (first | (with_reducible first | exact HK.out | apply Kept.alloc | apply Kept.drewN | apply Kept.drew | refine Kept.setCell ?_ (.inr GW649.out) _ | refine Kept.setCell ?_ (.inr GW650.out) _) | exact HK.out)) hb); have n7_ := Az.mk (below_step (by repeat (first | (with_reducible first | exact HB.out | apply zq2 | apply zq1 | apply below_drew1 | refine zq3 ?_ GE649.out | refine zq3 ?_ GE650.out) | exact HB.out)) hb); have n8_ := Az.mk (hbox); have n9_ := Az.mk ((by rw [hg]; exact (by first | exact HK.out.1 | exact (show Kept w _ (fun k_ => P0_1_ k_ ∨ P0_2_ k_ ∨ P0_3_ k_ ∨ P0_4_ k_) from by repeat (first | (with_reducible first | exact HK.out | apply Kept.alloc | apply Kept.drewN | apply Kept.drew | refine Kept.setCell ?_ (.inr GW649.out) _ | refine Kept.setCell ?_ (.inr GW650.out) _) | exact HK.out)).1) : w.heap.size ≤ gb651)); have n10_ := Az.mk ((by rw [hg]; exact (below_size (by repeat (first | (with_reducible first | exact HB.out | apply zq2 | apply zq1 | apply below_drew1 | refine zq3 ?_ GE649.out | refine zq3 ?_ GE650.out) | exact HB.out))) : w0.heap.size ≤ gb651)); have n11_ := Az.mk ((by rw [hg]; exact Nat.ne_of_lt (blk_lt (g := gb649) (o := .cells #[.int .i64 a0_0, .slice Ao19 l0_1.length co19, .slice Ao20 l0_2.length co20, .slice Ao21 l0_3.length co21, .slice Ao22 l0_4.length co22] 28 (0, 0)) (by (with_reducible repeat (first | refine zq6 ?_ _ | refine zq8 ?_ | refine zq7 ?_ _)); exact BK649.out)) : gb649 ≠ gb651)); have n12_ := Az.mk ((by rw [hg]; exact Nat.ne_of_gt (blk_lt (g := gb649) (o := .cells #[.int .i64 a0_0, .slice Ao19 l0_1.length co19, .slice Ao20 l0_2.length co20, .slice Ao21 l0_3.length co21, .slice Ao22 l0_4.length co22] 28 (0, 0)) (by (with_reducible repeat (first | refine zq6 ?_ _ | refine zq8 ?_ | refine zq7 ?_ _)); exact BK649.out)) : gb651 ≠ gb649)); have n13_ := Az.mk ((by rw [hg]; exact Nat.ne_of_lt (blk_lt (g := gb650) (o := .cells #[.bool a1_0, .int .i64 a1_1, .string a1_2] 54 (0, 0)) (by (with_reducible repeat (first | refine zq6 ?_ _ | refine zq8 ?_ | refine zq7 ?_ _)); exact BK650.out)) : gb650 ≠ gb651)); have n14_ := Az.mk ((by rw [hg]; exact Nat.ne_of_gt (blk_lt (g := gb650) (o := .cells #[.bool a1_0, .int .i64 a1_1, .string a1_2] 54 (0, 0)) (by (with_reducible repeat (first | refine zq6 ?_ _ | refine zq8 ?_ | refine zq7 ?_ _)); exact BK650.out)) : gb651 ≠ gb650)); clear HO0_1; clear HO0_2; clear HO0_3; clear HO0_4; clear BK649; clear BK650; clear HK; clear HB; have HO0_1 := n0_; have HO0_2 := n1_; have HO0_3 := n2_; have HO0_4 := n3_; have BK649 := n4_; have BK650 := n5_; have HK := n6_; have HB := n7_; have BK651 := n8_; have GW651 := n9_; have GE651 := n10_; have NB649_651 := n11_; have NB651_649 := n12_; have NB650_651 := n13_; have NB651_650 := n14_; clear n0_ n1_ n2_ n3_ n4_ n5_ n6_ n7_ n8_ n9_ n10_ n11_ n12_ n13_ n14_; clear hb hbox hg; have hnb26 := NB649_650.out; have hnc26 := NB650_649.out; have hnb27 := NB649_651.out; have hnc27 := NB651_649.out; have hcz28_0 : w25.cell? ⟨gb649, 0, none⟩ = some (.int .i64 a0_0) := (zq4 BK649.out 0).trans rfl; have hcz28_1 : w25.cell? ⟨gb649, 1, none⟩ = some (.slice Ao19 l0_1.length co19) := (zq4 BK649.out 1).trans rfl; have hcz28_2 : w25.cell? ⟨gb649, 2, none⟩ = some (.slice Ao20 l0_2.length co20) := (zq4 BK649.out 2).trans rfl; have hcz28_3 : w25.cell? ⟨gb649, 3, none⟩ = some (.slice Ao21 l0_3.length co21) := (zq4 BK649.out 3).trans rfl; have hcz28_4 : w25.cell? ⟨gb649, 4, none⟩ = some (.slice Ao22 l0_4.length co22) := (zq4 BK649.out 4).trans rfl; have hfz28_0 := zq5 BK649.out 0; have hfz28_1 := zq5 BK649.out 1; have hfz28_2 := zq5 BK649.out 2; have hfz28_3 := zq5 BK649.out 3; have hfz28_4 := zq5 BK649.out 4) | ((with_reducible refine gate_callee (f := 79) rfl ?_); refine zq9 (some 14) rfl rfl Try.func79 (by kernel_rfl) rfl #[.agg #[.int .i64 a0_0, .slice Ao19 l0_1.length co19, .slice Ao20 l0_2.length co20, .slice Ao21 l0_3.length co21, .slice Ao22 l0_4.length co22]] rfl (by (try simp only [List.map_toArray, List.map_cons, List.map_nil]); first | done | rfl | (simp only [List.length_drop, List.length_take]; rfl)) ?_; (with_reducible refine (spec_l3Flush.calls k a0_0 (fun k_ => some k_ = (.slice Ao19 l0_1.length co19 : Value).ownBlock) (.slice Ao19 l0_1.length co19) l0_1 (fun k_ => some k_ = (.slice Ao20 l0_2.length co20 : Value).ownBlock) (.slice Ao20 l0_2.length co20) l0_2 (fun k_ => some k_ = (.slice Ao21 l0_3.length co21 : Value).ownBlock) (.slice Ao21 l0_3.length co21) l0_3 (fun k_ => some k_ = (.slice Ao22 l0_4.length co22 : Value).ownBlock) (.slice Ao22 l0_4.length co22) l0_4 t652 t653 t656 t659 t662 w0 _ ?side1 ?side2 ?side3 ?side4 ?side5 ?side6 ?side7 A17.out).mono ?_); (case side1 => repeat (first | (with_reducible first | exact HB.out | apply zq2 | apply zq1 | apply below_drew1 | refine zq3 ?_ GE649.out | refine zq3 ?_ GE650.out | refine zq3 ?_ GE651.out) | exact HB.out)); (case side2 => exact Kd.R_tight rfl HO0_1.out); (case side3 => exact fun k_ e_ => (HO0_1.out.1 k_ e_.symm).2); (case side4 => exact Kd.R_tight rfl HO0_2.out); (case side5 => exact fun k_ e_ => (HO0_2.out.1 k_ e_.symm).2); (case side6 => exact Kd.R_tight rfl HO0_3.out); (case side7 => exact Kd.R_tight rfl HO0_4.out); rintro e w29 ⟨v654, v657, v660, v663, rfl, ho0, ho1, ho2, ho3, hb, hkp⟩; refine ⟨_, rfl, ?_⟩; have n0_ := Az.mk (blk_kept (by (with_reducible repeat (first | refine zq6 ?_ _ | refine zq8 ?_ | refine zq7 ?_ _)); exact BK649.out) hkp (fun hs_ => Or.elim hs_ (fun e_ => (fun e_ => (Kd.R_ne HO0_1.out BK649.out (by decide)) e_) e_) (fun e_ => Or.elim e_ (fun e_ => (fun e_ => (Kd.R_ne HO0_2.out BK649.out (by decide)) e_) e_) (fun e_ => Or.elim e_ (fun e_ => (fun e_ => (Kd.R_ne HO0_3.out BK649.out (by decide)) e_) e_) (fun e_ => (fun e_ => (Kd.R_ne HO0_4.out BK649.out (by decide)) e_) e_))))); have n1_ := Az.mk (blk_kept (by (with_reducible repeat (first | refine zq6 ?_ _ | refine zq8 ?_ | refine zq7 ?_ _)); exact BK650.out) hkp (fun hs_ => Or.elim hs_ (fun e_ => (fun e_ => (Kd.R_ne HO0_1.out BK650.out (by decide)) e_) e_) (fun e_ => Or.elim e_ (fun e_ => (fun e_ => (Kd.R_ne HO0_2.out BK650.out (by decide)) e_) e_) (fun e_ => Or.elim e_ (fun e_ => (fun e_ => (Kd.R_ne HO0_3.out BK650.out (by decide)) e_) e_) (fun e_ => (fun e_ => (Kd.R_away HO0_4.out (fun _ hk => hk.2)) e_) e_))))); have n2_ := Az.mk (blk_kept (by (with_reducible repeat (first | refine zq6 ?_ _ | refine zq8 ?_ | refine zq7 ?_ _)); exact BK651.out) hkp (fun hs_ => Or.elim hs_ (fun e_ => (fun e_ => (Kd.R_ne HO0_1.out BK651.out (by decide)) e_) e_) (fun e_ => Or.elim e_ (fun e_ => (fun e_ => (Kd.R_ne HO0_2.out BK651.out (by decide)) e_) e_) (fun e_ => Or.elim e_ (fun e_ => (fun e_ => (Kd.R_ne HO0_3.out BK651.out (by decide)) e_) e_) (fun e_ => (fun e_ => (Kd.R_ne HO0_4.out BK651.out (by decide)) e_) e_))))); have n3_ := Az.mk (Kd.R_mono (ok' := fun k_ => ((P0_1_ k_ ∨ P0_2_ k_ ∨ P0_3_ k_ ∨ P0_4_ k_) ∨ w.heap.size ≤ k_) ∧ some k_ ≠ (v657 : Value).ownBlock) ho0 (fun k_ hk_ => ⟨Or.elim hk_.1 (fun hs_ => Or.elim hs_ (fun hs_ => (HO0_1.out.1 k_ (hs_).symm).1) (fun hs_ => Or.elim hs_ (fun hs_ => (HO0_2.out.1 k_ (hs_).symm).1) (fun hs_ => Or.elim hs_ (fun hs_ => (HO0_3.out.1 k_ (hs_).symm)) (fun hs_ => (HO0_4.out.1 k_ (hs_).symm).1)))) (fun hn_ => (.inr (Nat.le_trans (by first | exact HK.out.1 | exact (show Kept w _ (fun k_ => P0_1_ k_ ∨ P0_2_ k_ ∨ P0_3_ k_ ∨ P0_4_ k_) from by repeat (first | (with_reducible first | exact HK.out | apply Kept.alloc | apply Kept.drewN | apply Kept.drew | refine Kept.setCell ?_ (.inr GW649.out) _ | refine Kept.setCell ?_ (.inr GW650.out) _ | refine Kept.setCell ?_ (.inr GW651.out) _) | exact HK.out)).1) hn_))), hk_.2⟩)); have n4_ := Az.mk (Kd.R_mono (ok' := fun k_ => ((P0_1_ k_ ∨ P0_2_ k_ ∨ P0_3_ k_ ∨ P0_4_ k_) ∨ w.heap.size ≤ k_) ∧ some k_ ≠ (v654 : Value).ownBlock) ho1 (fun k_ hk_ => ⟨Or.elim hk_.1 (fun hs_ => Or.elim hs_ (fun hs_ => (HO0_1.out.1 k_ (hs_).symm).1) (fun hs_ => Or.elim hs_ (fun hs_ => (HO0_2.out.1 k_ (hs_).symm).1) (fun hs_ => Or.elim hs_ (fun hs_ => (HO0_3.out.1 k_ (hs_).symm)) (fun hs_ => (HO0_4.out.1 k_ (hs_).symm).1)))) (fun hn_ => (.inr (Nat.le_trans (by first | exact HK.out.1 | exact (show Kept w _ (fun k_ => P0_1_ k_ ∨ P0_2_ k_ ∨ P0_3_ k_ ∨ P0_4_ k_) from by repeat (first | (with_reducible first | exact HK.out | apply Kept.alloc | apply Kept.drewN | apply Kept.drew | refine Kept.setCell ?_ (.inr GW649.out) _ | refine Kept.setCell ?_ (.inr GW650.out) _ | refine Kept.setCell ?_ (.inr GW651.out) _) | exact HK.out)).1) hn_))), hk_.2⟩)); have n5_ := Az.mk (Kd.R_mono (ok' := fun k_ => ((P0_1_ k_ ∨ P0_2_ k_ ∨ P0_3_ k_ ∨ P0_4_ k_) ∨ w.heap.size ≤ k_)) ho2 (fun k_ hk_ => Or.elim hk_ (fun hs_ => Or.elim hs_ (fun hs_ => (HO0_1.out.1 k_ (hs_).symm).1) (fun hs_ => Or.elim hs_ (fun hs_ => (HO0_2.out.1 k_ (hs_).symm).1) (fun hs_ => Or.elim hs_ (fun hs_ => (HO0_3.out.1 k_ (hs_).symm)) (fun hs_ => (HO0_4.out.1 k_ (hs_).symm).1)))) (fun hn_ => (.inr (Nat.le_trans (by first | exact HK.out.1 | exact (show Kept w _ (fun k_ => P0_1_ k_ ∨ P0_2_ k_ ∨ P0_3_ k_ ∨ P0_4_ k_) from by repeat (first | (with_reducible first | exact HK.out | apply Kept.alloc | apply Kept.drewN | apply Kept.drew | refine Kept.setCell ?_ (.inr GW649.out) _ | refine Kept.setCell ?_ (.inr GW650.out) _ | refine Kept.setCell ?_ (.inr GW651.out) _) | exact HK.out)).1) hn_))))); have n6_ := Az.mk (Kd.R_mono (ok' := fun k_ => ((P0_1_ k_ ∨ P0_2_ k_ ∨ P0_3_ k_ ∨ P0_4_ k_) ∨ w.heap.size ≤ k_) ∧ k_ ≠ gb650) ho3 (fun k_ hk_ => ⟨Or.elim hk_ (fun hs_ => Or.elim hs_ (fun hs_ => (HO0_1.out.1 k_ (hs_).symm).1) (fun hs_ => Or.elim hs_ (fun hs_ => (HO0_2.out.1 k_ (hs_).symm).1) (fun hs_ => Or.elim hs_ (fun hs_ => (HO0_3.out.1 k_ (hs_).symm)) (fun hs_ => (HO0_4.out.1 k_ (hs_).symm).1)))) (fun hn_ => (.inr (Nat.le_trans (by first | exact HK.out.1 | exact (show Kept w _ (fun k_ => P0_1_ k_ ∨ P0_2_ k_ ∨ P0_3_ k_ ∨ P0_4_ k_) from by repeat (first | (with_reducible first | exact HK.out | apply Kept.alloc | apply Kept.drewN | apply Kept.drew | refine Kept.setCell ?_ (.inr GW649.out) _ | refine Kept.setCell ?_ (.inr GW650.out) _ | refine Kept.setCell ?_ (.inr GW651.out) _) | exact HK.out)).1) hn_))), Or.elim hk_ (fun hs_ => Or.elim hs_ (fun hs_ => fun e_ => (Kd.R_ne HO0_1.out BK650.out (by decide)) (by rw [← e_]; exact hs_)) (fun hs_ => Or.elim hs_ (fun hs_ => fun e_ => (Kd.R_ne HO0_2.out BK650.out (by decide)) (by rw [← e_]; exact hs_)) (fun hs_ => Or.elim hs_ (fun hs_ => fun e_ => (Kd.R_ne HO0_3.out BK650.out (by decide)) (by rw [← e_]; exact hs_)) (fun hs_ => fun e_ => (Kd.R_away HO0_4.out (fun _ hk => hk.2)) (by rw [← e_]; exact hs_))))) (fun hn_ => (Kd.freshB (g := gb650) (o := .cells #[.bool a1_0, .int .i64 a1_1, .string a1_2] 54 (0, 0)) (by (with_reducible repeat (first | refine zq6 ?_ _ | refine zq8 ?_ | refine zq7 ?_ _)); exact BK650.out) k_ hn_))⟩)); have n7_ := Az.mk (Kept.then_ (S := (fun k_ => P0_1_ k_ ∨ P0_2_ k_ ∨ P0_3_ k_ ∨ P0_4_ k_)) (by repeat (first | (with_reducible first | exact HK.out | apply Kept.alloc | apply Kept.drewN | apply Kept.drew | refine Kept.setCell ?_ (.inr GW649.out) _ | refine Kept.setCell ?_ (.inr GW650.out) _ | refine Kept.setCell ?_ (.inr GW651.out) _) | exact HK.out)) hkp (fun k_ hs_ => Or.elim hs_ (fun e_ => (fun e_ => (HO0_1.out.1 k_ e_.symm).1) e_) (fun e_ => Or.elim e_ (fun e_ => (fun e_ => (HO0_2.out.1 k_ e_.symm).1) e_) (fun e_ => Or.elim e_ (fun e_ => (fun e_ => (HO0_3.out.1 k_ e_.symm)) e_) (fun e_ => (fun e_ => (HO0_4.out.1 k_ e_.symm).1) e_))))); have n8_ := Az.mk (hb); clear BK649; clear BK650; clear BK651; clear HK; clear HB; clear HO0_1; clear HO0_2; clear HO0_3; clear HO0_4; have BK649 := n0_; have BK650 := n1_; have BK651 := n2_; have HO655 := n3_; have HO658 := n4_; have HO661 := n5_; have HO664 := n6_; have HK := n7_; have HB := n8_; clear n0_ n1_ n2_ n3_ n4_ n5_ n6_ n7_ n8_; (try clear hb); (try clear hkp); (try clear ho0); (try clear ho1); (try clear ho2); (try clear ho3); have hcz30_0 : w29.cell? ⟨gb649, 0, none⟩ = some (.int .i64 a0_0) := (zq4 BK649.out 0).trans rfl; have hcz30_1 : w29.cell? ⟨gb649, 1, none⟩ = some (.slice Ao19 l0_1.length co19) := (zq4 BK649.out 1).trans rfl; have hcz30_2 : w29.cell? ⟨gb649, 2, none⟩ = some (.slice Ao20 l0_2.length co20) := (zq4 BK649.out 2).trans rfl; have hcz30_3 : w29.cell? ⟨gb649, 3, none⟩ = some (.slice Ao21 l0_3.length co21) := (zq4 BK649.out 3).trans rfl; have hcz30_4 : w29.cell? ⟨gb649, 4, none⟩ = some (.slice Ao22 l0_4.length co22) := (zq4 BK649.out 4).trans rfl; have hfz30_0 := zq5 BK649.out 0; have hfz30_1 := zq5 BK649.out 1; have hfz30_2 := zq5 BK649.out 2; have hfz30_3 := zq5 BK649.out 3; have hfz30_4 := zq5 BK649.out 4; obtain ⟨Ao31, co31, eo31⟩ := Kd.R_slice HO655.out; subst eo31; obtain ⟨Ao32, co32, eo32⟩ := Kd.R_slice HO658.out; subst eo32; obtain ⟨Ao33, co33, eo33⟩ := Kd.R_slice HO661.out; subst eo33; obtain ⟨Ao34, co34, eo34⟩ := Kd.R_slice HO664.out; subst eo34; have hnb35 := NB650_651.out; have hnc35 := NB651_650.out; have hcz36_0 : w29.cell? ⟨gb650, 0, none⟩ = some (.bool a1_0) := (zq4 BK650.out 0).trans rfl; have hcz36_1 : w29.cell? ⟨gb650, 1, none⟩ = some (.int .i64 a1_1) := (zq4 BK650.out 1).trans rfl; have hcz36_2 : w29.cell? ⟨gb650, 2, none⟩ = some (.string a1_2) := (zq4 BK650.out 2).trans rfl; have hfz36_0 := zq5 BK650.out 0; have hfz36_1 := zq5 BK650.out 1; have hfz36_2 := zq5 BK650.out 2) | ((with_reducible refine gate_builtin (b := .append) (xs := #[.tmp 16, .tmp 18]) rfl ?_); at_builtin; refine Kd.R_append k54 (w0 := w0) w0.heap.size rfl (.tmp 16) (.tmp 18) 26 54 (.agg #[(.bool false), (.int .i64 0), (.string ⟨#[]⟩)]) 32 rfl Try.underlying26 info54 rfl (by decide) (by omega) (.slice Ao34 t662.length co34) t662 (⟨a1_0, a1_1, a1_2⟩ : S54) [.bool a1_0, .int .i64 a1_1, .string a1_2] (fun k_ => ((P0_1_ k_ ∨ P0_2_ k_ ∨ P0_3_ k_ ∨ P0_4_ k_) ∨ w.heap.size ≤ k_) ∧ k_ ≠ gb650) (fun _ => False) rfl (by first | (go_simp; done) | (go_simp; rfl)) ?aP (fun _ hk => hk.elim) ?aF ?aO ?aB ?aS ?aL ?_; (case aP => exact k54_mkM _ _ _ (⟨a1_0, a1_1, a1_2⟩ : S54)); (case aB => exact (by repeat (first | (with_reducible first | exact HB.out | apply zq2 | apply zq1 | apply below_drew1 | refine zq3 ?_ GE649.out | refine zq3 ?_ GE650.out | refine zq3 ?_ GE651.out) | exact HB.out))); (case aF => exact (fun k_ hk => ⟨(.inr (Nat.le_trans (show Kept w _ (fun k_ => P0_1_ k_ ∨ P0_2_ k_ ∨ P0_3_ k_ ∨ P0_4_ k_) from by repeat (first | (with_reducible first | exact HK.out | apply Kept.alloc | apply Kept.drewN | apply Kept.drew | refine Kept.setCell ?_ (.inr GW649.out) _ | refine Kept.setCell ?_ (.inr GW650.out) _ | refine Kept.setCell ?_ (.inr GW651.out) _) | exact HK.out)).1 hk)), Kd.freshB (g := gb650) (o := .cells #[.bool a1_0, .int .i64 a1_1, .string a1_2] 54 (0, 0)) (by (with_reducible repeat (first | refine zq6 ?_ _ | refine zq8 ?_ | refine zq7 ?_ _)); refine blk_far ?_ NB650_649.out _; (with_reducible repeat (first | refine zq6 ?_ _ | refine zq8 ?_ | refine zq7 ?_ _)); refine blk_far ?_ NB650_649.out _; (with_reducible repeat (first | refine zq6 ?_ _ | refine zq8 ?_ | refine zq7 ?_ _)); refine blk_far ?_ NB650_649.out _; (with_reducible repeat (first | refine zq6 ?_ _ | refine zq8 ?_ | refine zq7 ?_ _)); refine blk_far ?_ NB650_649.out _; (with_reducible repeat (first | refine zq6 ?_ _ | refine zq8 ?_ | refine zq7 ?_ _)); refine blk_far ?_ NB650_649.out _; (with_reducible repeat (first | refine zq6 ?_ _ | refine zq8 ?_ | refine zq7 ?_ _)); exact BK650.out) k_ hk⟩)); (case aO => exact (by (with_reducible repeat (first | apply Kd.R_alloc | apply Kd.R_drewN | apply Kd.R_drew)); exact Kd.R_mono (Kd.R_far (p := ⟨gb649, 4, none⟩) (Kd.R_far (p := ⟨gb649, 3, none⟩) (Kd.R_far (p := ⟨gb649, 2, none⟩) (Kd.R_far (p := ⟨gb649, 1, none⟩) (Kd.R_far (p := ⟨gb649, 0, none⟩) (Kd.R_types HO664.out BK649.out (by decide)) (fun _ hk => hk.2) (.int .i64 t652)) (fun _ hk => hk.2) (.slice Ao31 t653.length co31)) (fun _ hk => hk.2) (.slice Ao32 t656.length co32)) (fun _ hk => hk.2) (.slice Ao33 t659.length co33)) (fun _ hk => hk.2) (.slice Ao34 t662.length co34)) (fun _ hk => ⟨hk.1.1, hk.1.2⟩))); (case aS => exact (below_size (by repeat (first | (with_reducible first | exact HB.out | apply zq2 | apply zq1 | apply below_drew1 | refine zq3 ?_ GE649.out | refine zq3 ?_ GE650.out | refine zq3 ?_ GE651.out) | exact HB.out)))); (case aL => have := LMc18.out; omega); intro v666 w37 ho hb hg hat; rw [← Ny665.out] at ho; have n0_ := Az.mk (blk_grown (g := gb649) (o := .cells #[.int .i64 t652, .slice Ao31 t653.length co31, .slice Ao32 t656.length co32, .slice Ao33 t659.length co33, .slice Ao34 t662.length co34] 28 (0, 0)) (by (with_reducible repeat (first | refine zq6 ?_ _ | refine zq8 ?_ | refine zq7 ?_ _)); refine blk_put (cs := #[.int .i64 t652, .slice Ao31 t653.length co31, .slice Ao32 t656.length co32, .slice Ao33 t659.length co33, .slice Ao22 l0_4.length co22]) ?_ 4 _ rfl; (with_reducible repeat (first | refine zq6 ?_ _ | refine zq8 ?_ | refine zq7 ?_ _)); refine blk_put (cs := #[.int .i64 t652, .slice Ao31 t653.length co31, .slice Ao32 t656.length co32, .slice Ao21 l0_3.length co21, .slice Ao22 l0_4.length co22]) ?_ 3 _ rfl; (with_reducible repeat (first | refine zq6 ?_ _ | refine zq8 ?_ | refine zq7 ?_ _)); refine blk_put (cs := #[.int .i64 t652, .slice Ao31 t653.length co31, .slice Ao20 l0_2.length co20, .slice Ao21 l0_3.length co21, .slice Ao22 l0_4.length co22]) ?_ 2 _ rfl; (with_reducible repeat (first | refine zq6 ?_ _ | refine zq8 ?_ | refine zq7 ?_ _)); refine blk_put (cs := #[.int .i64 t652, .slice Ao19 l0_1.length co19, .slice Ao20 l0_2.length co20, .slice Ao21 l0_3.length co21, .slice Ao22 l0_4.length co22]) ?_ 1 _ rfl; (with_reducible repeat (first | refine zq6 ?_ _ | refine zq8 ?_ | refine zq7 ?_ _)); refine blk_put (cs := #[.int .i64 a0_0, .slice Ao19 l0_1.length co19, .slice Ao20 l0_2.length co20, .slice Ao21 l0_3.length co21, .slice Ao22 l0_4.length co22]) ?_ 0 _ rfl; (with_reducible repeat (first | refine zq6 ?_ _ | refine zq8 ?_ | refine zq7 ?_ _)); exact BK649.out) hg (Kd.R_ne HO664.out BK649.out (by decide))); have n1_ := Az.mk (blk_grown (g := gb650) (o := .cells #[.bool a1_0, .int .i64 a1_1, .string a1_2] 54 (0, 0)) (by (with_reducible repeat (first | refine zq6 ?_ _ | refine zq8 ?_ | refine zq7 ?_ _)); refine blk_far ?_ NB650_649.out _; (with_reducible repeat (first | refine zq6 ?_ _ | refine zq8 ?_ | refine zq7 ?_ _)); refine blk_far ?_ NB650_649.out _; (with_reducible repeat (first | refine zq6 ?_ _ | refine zq8 ?_ | refine zq7 ?_ _)); refine blk_far ?_ NB650_649.out _; (with_reducible repeat (first | refine zq6 ?_ _ | refine zq8 ?_ | refine zq7 ?_ _)); refine blk_far ?_ NB650_649.out _; (with_reducible repeat (first | refine zq6 ?_ _ | refine zq8 ?_ | refine zq7 ?_ _)); refine blk_far ?_ NB650_649.out _; (with_reducible repeat (first | refine zq6 ?_ _ | refine zq8 ?_ | refine zq7 ?_ _)); exact BK650.out) hg (Kd.R_away HO664.out (fun _ hk => hk.2))); have n2_ := Az.mk (blk_grown (g := gb651) (o := .cells #[.int .i64 0, .slice none 0 0, .slice none 0 0, .slice none 0 0, .slice none 0 0] 28 (0, 0)) (by (with_reducible repeat (first | refine zq6 ?_ _ | refine zq8 ?_ | refine zq7 ?_ _)); refine blk_far ?_ NB651_649.out _; (with_reducible repeat (first | refine zq6 ?_ _ | refine zq8 ?_ | refine zq7 ?_ _)); refine blk_far ?_ NB651_649.out _; (with_reducible repeat (first | refine zq6 ?_ _ | refine zq8 ?_ | refine zq7 ?_ _)); refine blk_far ?_ NB651_649.out _; (with_reducible repeat (first | refine zq6 ?_ _ | refine zq8 ?_ | refine zq7 ?_ _)); refine blk_far ?_ NB651_649.out _; (with_reducible repeat (first | refine zq6 ?_ _ | refine zq8 ?_ | refine zq7 ?_ _)); refine blk_far ?_ NB651_649.out _; (with_reducible repeat (first | refine zq6 ?_ _ | refine zq8 ?_ | refine zq7 ?_ _)); exact BK651.out) hg (Kd.R_ne HO664.out BK651.out (by decide))); have n3_ := Az.mk (Kd.R_over' (by (with_reducible repeat (first | apply Kd.R_alloc | apply Kd.R_drewN | apply Kd.R_drew)); exact (Kd.R_mono (Kd.R_far (p := ⟨gb649, 4, none⟩) (Kd.R_far (p := ⟨gb649, 3, none⟩) (Kd.R_far (p := ⟨gb649, 2, none⟩) (Kd.R_far (p := ⟨gb649, 1, none⟩) (Kd.R_far (p := ⟨gb649, 0, none⟩) (Kd.R_types HO655.out BK649.out (by decide)) (fun _ hk => hk.2) (.int .i64 t652)) (fun _ hk => hk.2) (.slice Ao31 t653.length co31)) (fun _ hk => hk.2) (.slice Ao32 t656.length co32)) (fun _ hk => hk.2) (.slice Ao33 t659.length co33)) (fun _ hk => hk.2) (.slice Ao34 t662.length co34)) (fun _ h_ => h_.1))) (Kd.R_typed (by (with_reducible repeat (first | apply Kd.R_alloc | apply Kd.R_drewN | apply Kd.R_drew)); exact (Kd.R_mono (Kd.R_far (p := ⟨gb649, 4, none⟩) (Kd.R_far (p := ⟨gb649, 3, none⟩) (Kd.R_far (p := ⟨gb649, 2, none⟩) (Kd.R_far (p := ⟨gb649, 1, none⟩) (Kd.R_far (p := ⟨gb649, 0, none⟩) (Kd.R_types HO664.out BK649.out (by decide)) (fun _ hk => hk.2) (.int .i64 t652)) (fun _ hk => hk.2) (.slice Ao31 t653.length co31)) (fun _ hk => hk.2) (.slice Ao32 t656.length co32)) (fun _ hk => hk.2) (.slice Ao33 t659.length co33)) (fun _ hk => hk.2) (.slice Ao34 t662.length co34)) (fun _ h_ => h_.1)))) (by decide) hg); have n4_ := Az.mk (Kd.R_over' (by (with_reducible repeat (first | apply Kd.R_alloc | apply Kd.R_drewN | apply Kd.R_drew)); exact (Kd.R_mono (Kd.R_far (p := ⟨gb649, 4, none⟩) (Kd.R_far (p := ⟨gb649, 3, none⟩) (Kd.R_far (p := ⟨gb649, 2, none⟩) (Kd.R_far (p := ⟨gb649, 1, none⟩) (Kd.R_far (p := ⟨gb649, 0, none⟩) (Kd.R_types HO658.out BK649.out (by decide)) (fun _ hk => hk.2) (.int .i64 t652)) (fun _ hk => hk.2) (.slice Ao31 t653.length co31)) (fun _ hk => hk.2) (.slice Ao32 t656.length co32)) (fun _ hk => hk.2) (.slice Ao33 t659.length co33)) (fun _ hk => hk.2) (.slice Ao34 t662.length co34)) (fun _ h_ => h_.1))) (Kd.R_typed (by (with_reducible repeat (first | apply Kd.R_alloc | apply Kd.R_drewN | apply Kd.R_drew)); exact (Kd.R_mono (Kd.R_far (p := ⟨gb649, 4, none⟩) (Kd.R_far (p := ⟨gb649, 3, none⟩) (Kd.R_far (p := ⟨gb649, 2, none⟩) (Kd.R_far (p := ⟨gb649, 1, none⟩) (Kd.R_far (p := ⟨gb649, 0, none⟩) (Kd.R_types HO664.out BK649.out (by decide)) (fun _ hk => hk.2) (.int .i64 t652)) (fun _ hk => hk.2) (.slice Ao31 t653.length co31)) (fun _ hk => hk.2) (.slice Ao32 t656.length co32)) (fun _ hk => hk.2) (.slice Ao33 t659.length co33)) (fun _ hk => hk.2) (.slice Ao34 t662.length co34)) (fun _ h_ => h_.1)))) (by decide) hg); have n5_ := Az.mk (Kd.R_over' (by (with_reducible repeat (first | apply Kd.R_alloc | apply Kd.R_drewN | apply Kd.R_drew)); exact (Kd.R_mono (Kd.R_far (p := ⟨gb649, 4, none⟩) (Kd.R_far (p := ⟨gb649, 3, none⟩) (Kd.R_far (p := ⟨gb649, 2, none⟩) (Kd.R_far (p := ⟨gb649, 1, none⟩) (Kd.R_far (p := ⟨gb649, 0, none⟩) (Kd.R_types HO661.out BK649.out (by decide)) (fun _ hk => hk.2) (.int .i64 t652)) (fun _ hk => hk.2) (.slice Ao31 t653.length co31)) (fun _ hk => hk.2) (.slice Ao32 t656.length co32)) (fun _ hk => hk.2) (.slice Ao33 t659.length co33)) (fun _ hk => hk.2) (.slice Ao34 t662.length co34)) (fun _ h_ => h_.1))) (Kd.R_typed (by (with_reducible repeat (first | apply Kd.R_alloc | apply Kd.R_drewN | apply Kd.R_drew)); exact (Kd.R_mono (Kd.R_far (p := ⟨gb649, 4, none⟩) (Kd.R_far (p := ⟨gb649, 3, none⟩) (Kd.R_far (p := ⟨gb649, 2, none⟩) (Kd.R_far (p := ⟨gb649, 1, none⟩) (Kd.R_far (p := ⟨gb649, 0, none⟩) (Kd.R_types HO664.out BK649.out (by decide)) (fun _ hk => hk.2) (.int .i64 t652)) (fun _ hk => hk.2) (.slice Ao31 t653.length co31)) (fun _ hk => hk.2) (.slice Ao32 t656.length co32)) (fun _ hk => hk.2) (.slice Ao33 t659.length co33)) (fun _ hk => hk.2) (.slice Ao34 t662.length co34)) (fun _ h_ => h_.1)))) (by decide) hg); have n6_ := Az.mk (hb); have n7_ := Az.mk (Kept.of_grown (S := (fun k_ => P0_1_ k_ ∨ P0_2_ k_ ∨ P0_3_ k_ ∨ P0_4_ k_)) hg (by repeat (first | (with_reducible first | exact HK.out | apply Kept.alloc | apply Kept.drewN | apply Kept.drew | refine Kept.setCell ?_ (.inr GW649.out) _ | refine Kept.setCell ?_ (.inr GW650.out) _ | refine Kept.setCell ?_ (.inr GW651.out) _) | exact HK.out)) (fun k_ e_ => (HO664.out.1 k_ e_).1)); have n8_ := Az.mk (ho); clear BK649; clear BK650; clear BK651; clear HO655; clear HO658; clear HO661; clear HB; clear HK; clear HO664; have BK649 := n0_; have BK650 := n1_; have BK651 := n2_; have HO655 := n3_; have HO658 := n4_; have HO661 := n5_; have HB := n6_; have HK := n7_; have HO667 := n8_; clear n0_ n1_ n2_ n3_ n4_ n5_ n6_ n7_ n8_; clear ho hb hg hat; obtain ⟨Ao38, co38, eo38⟩ := Kd.R_slice HO667.out; subst eo38; have hcz39_0 : w37.cell? ⟨gb649, 0, none⟩ = some (.int .i64 t652) := (zq4 BK649.out 0).trans rfl; have hcz39_1 : w37.cell? ⟨gb649, 1, none⟩ = some (.slice Ao31 t653.length co31) := (zq4 BK649.out 1).trans rfl; have hcz39_2 : w37.cell? ⟨gb649, 2, none⟩ = some (.slice Ao32 t656.length co32) := (zq4 BK649.out 2).trans rfl; have hcz39_3 : w37.cell? ⟨gb649, 3, none⟩ = some (.slice Ao33 t659.length co33) := (zq4 BK649.out 3).trans rfl; have hcz39_4 : w37.cell? ⟨gb649, 4, none⟩ = some (.slice Ao34 t662.length co34) := (zq4 BK649.out 4).trans rfl; have hfz39_0 := zq5 BK649.out 0; have hfz39_1 := zq5 BK649.out 1; have hfz39_2 := zq5 BK649.out 2; have hfz39_3 := zq5 BK649.out 3; have hfz39_4 := zq5 BK649.out 4; have hcz40_0 : w37.cell? ⟨gb651, 0, none⟩ = some (.int .i64 0) := (zq4 BK651.out 0).trans rfl; have hcz40_1 : w37.cell? ⟨gb651, 1, none⟩ = some (.slice none 0 0) := (zq4 BK651.out 1).trans rfl; have hcz40_2 : w37.cell? ⟨gb651, 2, none⟩ = some (.slice none 0 0) := (zq4 BK651.out 2).trans rfl; have hcz40_3 : w37.cell? ⟨gb651, 3, none⟩ = some (.slice none 0 0) := (zq4 BK651.out 3).trans rfl; have hcz40_4 : w37.cell? ⟨gb651, 4, none⟩ = some (.slice none 0 0) := (zq4 BK651.out 4).trans rfl; have hfz40_0 := zq5 BK651.out 0; have hfz40_1 := zq5 BK651.out 1; have hfz40_2 := zq5 BK651.out 2; have hfz40_3 := zq5 BK651.out 3; have hfz40_4 := zq5 BK651.out 4))
        refine bodyPost_ret (results_cell_row rfl _ _ gb651 28 #[.int .i64 t652, .slice Ao31 t653.length co31, .slice Ao32 t656.length co32, .slice Ao33 t659.length co33, .slice Ao38 y665.length co38] (0, 0) _ rfl (by (with_reducible repeat (first | refine zq6 ?_ _ | refine zq8 ?_ | refine zq7 ?_ _)); refine blk_put (cs := #[.int .i64 t652, .slice Ao31 t653.length co31, .slice Ao32 t656.length co32, .slice Ao33 t659.length co33, .slice none 0 0]) ?_ 4 _ rfl; (with_reducible repeat (first | refine zq6 ?_ _ | refine zq8 ?_ | refine zq7 ?_ _)); refine blk_put (cs := #[.int .i64 t652, .slice Ao31 t653.length co31, .slice Ao32 t656.length co32, .slice none 0 0, .slice none 0 0]) ?_ 3 _ rfl; (with_reducible repeat (first | refine zq6 ?_ _ | refine zq8 ?_ | refine zq7 ?_ _)); refine blk_put (cs := #[.int .i64 t652, .slice Ao31 t653.length co31, .slice none 0 0, .slice none 0 0, .slice none 0 0]) ?_ 2 _ rfl; (with_reducible repeat (first | refine zq6 ?_ _ | refine zq8 ?_ | refine zq7 ?_ _)); refine blk_put (cs := #[.int .i64 t652, .slice none 0 0, .slice none 0 0, .slice none 0 0, .slice none 0 0]) ?_ 1 _ rfl; (with_reducible repeat (first | refine zq6 ?_ _ | refine zq8 ?_ | refine zq7 ?_ _)); refine blk_put (cs := #[.int .i64 0, .slice none 0 0, .slice none 0 0, .slice none 0 0, .slice none 0 0]) ?_ 0 _ rfl; (with_reducible repeat (first | refine zq6 ?_ _ | refine zq8 ?_ | refine zq7 ?_ _)); refine blk_far ?_ NB651_649.out _; (with_reducible repeat (first | refine zq6 ?_ _ | refine zq8 ?_ | refine zq7 ?_ _)); exact BK651.out) Try.underlying28 rfl (by kernel_rfl)) rfl ?_
        exact ⟨_, _, _, _, by first | rfl | (simp [errW_none, errW_some] <;> rfl) | (simp [*, errW_none, errW_some] <;> rfl), by (with_reducible repeat (first | apply Kd.R_alloc | apply Kd.R_drewN | apply Kd.R_drew)); exact Kd.R_mono (Kd.R_far (p := ⟨gb651, 4, none⟩) (Kd.R_far (p := ⟨gb651, 3, none⟩) (Kd.R_far (p := ⟨gb651, 2, none⟩) (Kd.R_far (p := ⟨gb651, 1, none⟩) (Kd.R_far (p := ⟨gb651, 0, none⟩) (Kd.R_far (p := ⟨gb649, 4, none⟩) (Kd.R_types (Kd.R_types HO655.out BK649.out (by decide)) BK651.out (by decide)) (fun _ hk => hk.1.2) (.slice Ao38 y665.length co38)) (fun _ hk => hk.2) (.int .i64 t652)) (fun _ hk => hk.2) (.slice Ao31 t653.length co31)) (fun _ hk => hk.2) (.slice Ao32 t656.length co32)) (fun _ hk => hk.2) (.slice Ao33 t659.length co33)) (fun _ hk => hk.2) (.slice Ao38 y665.length co38)) (fun _ hk => ⟨hk.1.1.1, hk.1.1.2⟩), by (with_reducible repeat (first | apply Kd.R_alloc | apply Kd.R_drewN | apply Kd.R_drew)); exact Kd.R_mono (Kd.R_far (p := ⟨gb651, 4, none⟩) (Kd.R_far (p := ⟨gb651, 3, none⟩) (Kd.R_far (p := ⟨gb651, 2, none⟩) (Kd.R_far (p := ⟨gb651, 1, none⟩) (Kd.R_far (p := ⟨gb651, 0, none⟩) (Kd.R_far (p := ⟨gb649, 4, none⟩) (Kd.R_types (Kd.R_types HO658.out BK649.out (by decide)) BK651.out (by decide)) (fun _ hk => hk.1.2) (.slice Ao38 y665.length co38)) (fun _ hk => hk.2) (.int .i64 t652)) (fun _ hk => hk.2) (.slice Ao31 t653.length co31)) (fun _ hk => hk.2) (.slice Ao32 t656.length co32)) (fun _ hk => hk.2) (.slice Ao33 t659.length co33)) (fun _ hk => hk.2) (.slice Ao38 y665.length co38)) (fun _ hk => ⟨hk.1.1.1, hk.1.1.2⟩), by (with_reducible repeat (first | apply Kd.R_alloc | apply Kd.R_drewN | apply Kd.R_drew)); exact Kd.R_mono (Kd.R_far (p := ⟨gb651, 4, none⟩) (Kd.R_far (p := ⟨gb651, 3, none⟩) (Kd.R_far (p := ⟨gb651, 2, none⟩) (Kd.R_far (p := ⟨gb651, 1, none⟩) (Kd.R_far (p := ⟨gb651, 0, none⟩) (Kd.R_far (p := ⟨gb649, 4, none⟩) (Kd.R_types (Kd.R_types HO661.out BK649.out (by decide)) BK651.out (by decide)) (fun _ hk => hk.1.2) (.slice Ao38 y665.length co38)) (fun _ hk => hk.2) (.int .i64 t652)) (fun _ hk => hk.2) (.slice Ao31 t653.length co31)) (fun _ hk => hk.2) (.slice Ao32 t656.length co32)) (fun _ hk => hk.2) (.slice Ao33 t659.length co33)) (fun _ hk => hk.2) (.slice Ao38 y665.length co38)) (fun _ hk => hk.1.1), by (with_reducible repeat (first | apply Kd.R_alloc | apply Kd.R_drewN | apply Kd.R_drew)); exact Kd.R_mono (Kd.R_far (p := ⟨gb651, 4, none⟩) (Kd.R_far (p := ⟨gb651, 3, none⟩) (Kd.R_far (p := ⟨gb651, 2, none⟩) (Kd.R_far (p := ⟨gb651, 1, none⟩) (Kd.R_far (p := ⟨gb651, 0, none⟩) (Kd.R_far (p := ⟨gb649, 4, none⟩) (Kd.R_types (Kd.R_types HO667.out BK649.out (by decide)) BK651.out (by decide)) (fun _ hk => hk.1.2) (.slice Ao38 y665.length co38)) (fun _ hk => hk.2) (.int .i64 t652)) (fun _ hk => hk.2) (.slice Ao31 t653.length co31)) (fun _ hk => hk.2) (.slice Ao32 t656.length co32)) (fun _ hk => hk.2) (.slice Ao33 t659.length co33)) (fun _ hk => hk.2) (.slice Ao38 y665.length co38)) (fun _ hk => hk.1.1.1), by repeat (first | (with_reducible first | exact HB.out | apply zq2 | apply zq1 | apply below_drew1 | refine zq3 ?_ GE649.out | refine zq3 ?_ GE650.out | refine zq3 ?_ GE651.out) | exact HB.out), by repeat (first | (with_reducible first | exact HK.out | apply Kept.alloc | apply Kept.drewN | apply Kept.drew | refine Kept.setCell ?_ (.inr GW649.out) _ | refine Kept.setCell ?_ (.inr GW650.out) _ | refine Kept.setCell ?_ (.inr GW651.out) _) | exact HK.out)⟩
      · rw [if_neg c18] at H
        exact absurd H (by simp)
    · rw [if_neg c16] at H
      have c16b0 : ((l0_4.length : Int) == 40) = false := beq_eq_false_iff_ne.mpr c16
      have c16b1 : ((l0_4.length : Int) != 40) = true := bne_iff_ne.mpr c16
      by_cases c41 : l0_4.length < 4398046511104
      · rw [if_pos c41] at H
        have LMc41 := Az.mk c41
        clear c41
        obtain ⟨y668, hy668⟩ : ∃ y_ : List (S54), y_ = (l0_4 ++ [(⟨a1_0, a1_1, a1_2⟩ : S54)]) := ⟨_, rfl⟩
        replace H : (some (a0_0, l0_1, l0_2, l0_3, y668)) = some (r1, r2, r3, r4, r5) := by first | (rw [hy668]; with_reducible exact H) | (have H2_ := (Option.bind_some _ _).symm.trans H; rw [hy668]; with_reducible exact H2_) | (have H2_ := (Option.bind_some _ _).symm.trans H; with_reducible exact H2_) | with_reducible exact H | (rw [hy668]; exact H) | exact H
        have Ny668 := Az.mk hy668
        clear hy668
        simp only [Option.some.injEq, Prod.mk.injEq] at H
        obtain ⟨rfl, rfl, rfl, rfl, rfl⟩ := H
        obtain ⟨Ao42, co42, eo42⟩ := Kd.R_slice HO0_1.out
        subst eo42
        obtain ⟨Ao43, co43, eo43⟩ := Kd.R_slice HO0_2.out
        subst eo43
        obtain ⟨Ao44, co44, eo44⟩ := Kd.R_slice HO0_3.out
        subst eo44
        obtain ⟨Ao45, co45, eo45⟩ := Kd.R_slice HO0_4.out
        subst eo45
        go_enter Try.func85, Try.ntmps85
        go_wp2_with (first | ((with_reducible refine zqg (N := 2) rfl ?_); refine zqb ?hg (N := 2) ?hd (cs := #[.int .i64 a0_0, .slice Ao42 l0_1.length co42, .slice Ao43 l0_2.length co43, .slice Ao44 l0_3.length co44, .slice Ao45 l0_4.length co45]) (t := 28) ?hr ?_; (case hd => rfl); (case hg => rfl); (case hr => first | (go_simp; done) | (go_simp; rfl)); intro gb649 hg w46 hbox hb; have n0_ := Az.mk (Kd.R_below (by (with_reducible repeat (first | apply Kd.R_alloc | apply Kd.R_drewN | apply Kd.R_drew)); exact HO0_1.out) hb); have n1_ := Az.mk (Kd.R_below (by (with_reducible repeat (first | apply Kd.R_alloc | apply Kd.R_drewN | apply Kd.R_drew)); exact HO0_2.out) hb); have n2_ := Az.mk (Kd.R_below (by (with_reducible repeat (first | apply Kd.R_alloc | apply Kd.R_drewN | apply Kd.R_drew)); exact HO0_3.out) hb); have n3_ := Az.mk (Kd.R_below (by (with_reducible repeat (first | apply Kd.R_alloc | apply Kd.R_drewN | apply Kd.R_drew)); exact HO0_4.out) hb); have n4_ := Az.mk (Kept.below (S := (fun k_ => P0_1_ k_ ∨ P0_2_ k_ ∨ P0_3_ k_ ∨ P0_4_ k_)) (by repeat (first | (with_reducible first | exact HK.out | apply Kept.alloc | apply Kept.drewN | apply Kept.drew) | exact HK.out)) hb); have n5_ := Az.mk (below_step (by repeat (first | (with_reducible first | exact HB.out | apply zq2 | apply zq1 | apply below_drew1) | exact HB.out)) hb); have n6_ := Az.mk (hbox); have n7_ := Az.mk ((by rw [hg]; exact (by first | exact HK.out.1 | exact (show Kept w _ (fun k_ => P0_1_ k_ ∨ P0_2_ k_ ∨ P0_3_ k_ ∨ P0_4_ k_) from by repeat (first | (with_reducible first | exact HK.out | apply Kept.alloc | apply Kept.drewN | apply Kept.drew) | exact HK.out)).1) : w.heap.size ≤ gb649)); have n8_ := Az.mk ((by rw [hg]; exact (below_size (by repeat (first | (with_reducible first | exact HB.out | apply zq2 | apply zq1 | apply below_drew1) | exact HB.out))) : w0.heap.size ≤ gb649)); clear HO0_1; clear HO0_2; clear HO0_3; clear HO0_4; clear HK; clear HB; have HO0_1 := n0_; have HO0_2 := n1_; have HO0_3 := n2_; have HO0_4 := n3_; have HK := n4_; have HB := n5_; have BK649 := n6_; have GW649 := n7_; have GE649 := n8_; clear n0_ n1_ n2_ n3_ n4_ n5_ n6_ n7_ n8_; clear hb hbox hg) | ((with_reducible refine zqg (N := 3) rfl ?_); refine zqb ?hg (N := 3) ?hd (cs := #[.bool a1_0, .int .i64 a1_1, .string a1_2]) (t := 54) ?hr ?_; (case hd => rfl); (case hg => rfl); (case hr => first | (go_simp; done) | (go_simp; rfl)); intro gb650 hg w47 hbox hb; have n0_ := Az.mk (Kd.R_below (by (with_reducible repeat (first | apply Kd.R_alloc | apply Kd.R_drewN | apply Kd.R_drew)); exact HO0_1.out) hb); have n1_ := Az.mk (Kd.R_below (by (with_reducible repeat (first | apply Kd.R_alloc | apply Kd.R_drewN | apply Kd.R_drew)); exact HO0_2.out) hb); have n2_ := Az.mk (Kd.R_below (by (with_reducible repeat (first | apply Kd.R_alloc | apply Kd.R_drewN | apply Kd.R_drew)); exact HO0_3.out) hb); have n3_ := Az.mk (Kd.R_below (Kd.R_elderB (by (with_reducible repeat (first | apply Kd.R_alloc | apply Kd.R_drewN | apply Kd.R_drew)); exact HO0_4.out) gb650 (Nat.le_of_eq hg.symm)) hb); have n4_ := Az.mk (blk_below (g := gb649) (o := .cells #[.int .i64 a0_0, .slice Ao42 l0_1.length co42, .slice Ao43 l0_2.length co43, .slice Ao44 l0_3.length co44, .slice Ao45 l0_4.length co45] 28 (0, 0)) (by (with_reducible repeat (first | refine zq6 ?_ _ | refine zq8 ?_ | refine zq7 ?_ _)); exact BK649.out) hb); have n5_ := Az.mk (Kept.below (S := (fun k_ => P0_1_ k_ ∨ P0_2_ k_ ∨ P0_3_ k_ ∨ P0_4_ k_)) (by repeat (first | (with_reducible first | exact HK.out | apply Kept.alloc | apply Kept.drewN | apply Kept.drew | refine Kept.setCell ?_ (.inr GW649.out) _) | exact HK.out)) hb); have n6_ := Az.mk (below_step (by repeat (first | (with_reducible first | exact HB.out | apply zq2 | apply zq1 | apply below_drew1 | refine zq3 ?_ GE649.out) | exact HB.out)) hb); have n7_ := Az.mk (hbox); have n8_ := Az.mk ((by rw [hg]; exact (by first | exact HK.out.1 | exact (show Kept w _ (fun k_ => P0_1_ k_ ∨ P0_2_ k_ ∨ P0_3_ k_ ∨ P0_4_ k_) from by repeat (first | (with_reducible first | exact HK.out | apply Kept.alloc | apply Kept.drewN | apply Kept.drew | refine Kept.setCell ?_ (.inr GW649.out) _) | exact HK.out)).1) : w.heap.size ≤ gb650)); have n9_ := Az.mk ((by rw [hg]; exact (below_size (by repeat (first | (with_reducible first | exact HB.out | apply zq2 | apply zq1 | apply below_drew1 | refine zq3 ?_ GE649.out) | exact HB.out))) : w0.heap.size ≤ gb650)); have n10_ := Az.mk ((by rw [hg]; exact Nat.ne_of_lt (blk_lt (g := gb649) (o := .cells #[.int .i64 a0_0, .slice Ao42 l0_1.length co42, .slice Ao43 l0_2.length co43, .slice Ao44 l0_3.length co44, .slice Ao45 l0_4.length co45] 28 (0, 0)) (by (with_reducible repeat (first | refine zq6 ?_ _ | refine zq8 ?_ | refine zq7 ?_ _)); exact BK649.out)) : gb649 ≠ gb650)); have n11_ := Az.mk ((by rw [hg]; exact Nat.ne_of_gt (blk_lt (g := gb649) (o := .cells #[.int .i64 a0_0, .slice Ao42 l0_1.length co42, .slice Ao43 l0_2.length co43, .slice Ao44 l0_3.length co44, .slice Ao45 l0_4.length co45] 28 (0, 0)) (by (with_reducible repeat (first | refine zq6 ?_ _ | refine zq8 ?_ | refine zq7 ?_ _)); exact BK649.out)) : gb650 ≠ gb649)); clear HO0_1; clear HO0_2; clear HO0_3; clear HO0_4; clear BK649; clear HK; clear HB; have HO0_1 := n0_; have HO0_2 := n1_; have HO0_3 := n2_; have HO0_4 := n3_; have BK649 := n4_; have HK := n5_; have HB := n6_; have BK650 := n7_; have GW650 := n8_; have GE650 := n9_; have NB649_650 := n10_; have NB650_649 := n11_; clear n0_ n1_ n2_ n3_ n4_ n5_ n6_ n7_ n8_ n9_ n10_ n11_; clear hb hbox hg) | ((with_reducible refine zqg (N := 4) rfl ?_); refine zqb ?hg (N := 4) ?hd (cs := #[.int .i64 0, .slice none 0 0, .slice none 0 0, .slice none 0 0, .slice none 0 0]) (t := 28) ?hr ?_; (case hd => rfl); (case hg => rfl); (case hr => first | (go_simp; done) | (go_simp; rfl)); intro gb651 hg w48 hbox hb; have n0_ := Az.mk (Kd.R_below (by (with_reducible repeat (first | apply Kd.R_alloc | apply Kd.R_drewN | apply Kd.R_drew)); exact HO0_1.out) hb); have n1_ := Az.mk (Kd.R_below (by (with_reducible repeat (first | apply Kd.R_alloc | apply Kd.R_drewN | apply Kd.R_drew)); exact HO0_2.out) hb); have n2_ := Az.mk (Kd.R_below (by (with_reducible repeat (first | apply Kd.R_alloc | apply Kd.R_drewN | apply Kd.R_drew)); exact HO0_3.out) hb); have n3_ := Az.mk (Kd.R_below (by (with_reducible repeat (first | apply Kd.R_alloc | apply Kd.R_drewN | apply Kd.R_drew)); exact HO0_4.out) hb); have n4_ := Az.mk (blk_below (g := gb649) (o := .cells #[.int .i64 a0_0, .slice Ao42 l0_1.length co42, .slice Ao43 l0_2.length co43, .slice Ao44 l0_3.length co44, .slice Ao45 l0_4.length co45] 28 (0, 0)) (by (with_reducible repeat (first | refine zq6 ?_ _ | refine zq8 ?_ | refine zq7 ?_ _)); exact BK649.out) hb); have n5_ := Az.mk (blk_below (g := gb650) (o := .cells #[.bool a1_0, .int .i64 a1_1, .string a1_2] 54 (0, 0)) (by (with_reducible repeat (first | refine zq6 ?_ _ | refine zq8 ?_ | refine zq7 ?_ _)); exact BK650.out) hb); have n6_ := Az.mk (Kept.below (S := (fun k_ => P0_1_ k_ ∨ P0_2_ k_ ∨ P0_3_ k_ ∨ P0_4_ k_)) (by repeat (first | (with_reducible first | exact HK.out | apply Kept.alloc | apply Kept.drewN | apply Kept.drew | refine Kept.setCell ?_ (.inr GW649.out) _ | refine Kept.setCell ?_ (.inr GW650.out) _) | exact HK.out)) hb); have n7_ := Az.mk (below_step (by repeat (first | (with_reducible first | exact HB.out | apply zq2 | apply zq1 | apply below_drew1 | refine zq3 ?_ GE649.out | refine zq3 ?_ GE650.out) | exact HB.out)) hb); have n8_ := Az.mk (hbox); have n9_ := Az.mk ((by rw [hg]; exact (by first | exact HK.out.1 | exact (show Kept w _ (fun k_ => P0_1_ k_ ∨ P0_2_ k_ ∨ P0_3_ k_ ∨ P0_4_ k_) from by repeat (first | (with_reducible first | exact HK.out | apply Kept.alloc | apply Kept.drewN | apply Kept.drew | refine Kept.setCell ?_ (.inr GW649.out) _ | refine Kept.setCell ?_ (.inr GW650.out) _) | exact HK.out)).1) : w.heap.size ≤ gb651)); have n10_ := Az.mk ((by rw [hg]; exact (below_size (by repeat (first | (with_reducible first | exact HB.out | apply zq2 | apply zq1 | apply below_drew1 | refine zq3 ?_ GE649.out | refine zq3 ?_ GE650.out) | exact HB.out))) : w0.heap.size ≤ gb651)); have n11_ := Az.mk ((by rw [hg]; exact Nat.ne_of_lt (blk_lt (g := gb649) (o := .cells #[.int .i64 a0_0, .slice Ao42 l0_1.length co42, .slice Ao43 l0_2.length co43, .slice Ao44 l0_3.length co44, .slice Ao45 l0_4.length co45] 28 (0, 0)) (by (with_reducible repeat (first | refine zq6 ?_ _ | refine zq8 ?_ | refine zq7 ?_ _)); exact BK649.out)) : gb649 ≠ gb651)); have n12_ := Az.mk ((by rw [hg]; exact Nat.ne_of_gt (blk_lt (g := gb649) (o := .cells #[.int .i64 a0_0, .slice Ao42 l0_1.length co42, .slice Ao43 l0_2.length co43, .slice Ao44 l0_3.length co44, .slice Ao45 l0_4.length co45] 28 (0, 0)) (by (with_reducible repeat (first | refine zq6 ?_ _ | refine zq8 ?_ | refine zq7 ?_ _)); exact BK649.out)) : gb651 ≠ gb649)); have n13_ := Az.mk ((by rw [hg]; exact Nat.ne_of_lt (blk_lt (g := gb650) (o := .cells #[.bool a1_0, .int .i64 a1_1, .string a1_2] 54 (0, 0)) (by (with_reducible repeat (first | refine zq6 ?_ _ | refine zq8 ?_ | refine zq7 ?_ _)); exact BK650.out)) : gb650 ≠ gb651)); have n14_ := Az.mk ((by rw [hg]; exact Nat.ne_of_gt (blk_lt (g := gb650) (o := .cells #[.bool a1_0, .int .i64 a1_1, .string a1_2] 54 (0, 0)) (by (with_reducible repeat (first | refine zq6 ?_ _ | refine zq8 ?_ | refine zq7 ?_ _)); exact BK650.out)) : gb651 ≠ gb650)); clear HO0_1; clear HO0_2; clear HO0_3; clear HO0_4; clear BK649; clear BK650; clear HK; clear HB; have HO0_1 := n0_; have HO0_2 := n1_; have HO0_3 := n2_; have HO0_4 := n3_; have BK649 := n4_; have BK650 := n5_; have HK := n6_; have HB := n7_; have BK651 := n8_; have GW651 := n9_; have GE651 := n10_; have NB649_651 := n11_; have NB651_649 := n12_; have NB650_651 := n13_; have NB651_650 := n14_; clear n0_ n1_ n2_ n3_ n4_ n5_ n6_ n7_ n8_ n9_ n10_ n11_ n12_ n13_ n14_; clear hb hbox hg; have hnb49 := NB649_650.out; have hnc49 := NB650_649.out; have hnb50 := NB649_651.out; have hnc50 := NB651_649.out; have hcz51_0 : w48.cell? ⟨gb649, 0, none⟩ = some (.int .i64 a0_0) := (zq4 BK649.out 0).trans rfl; have hcz51_1 : w48.cell? ⟨gb649, 1, none⟩ = some (.slice Ao42 l0_1.length co42) := (zq4 BK649.out 1).trans rfl; have hcz51_2 : w48.cell? ⟨gb649, 2, none⟩ = some (.slice Ao43 l0_2.length co43) := (zq4 BK649.out 2).trans rfl; have hcz51_3 : w48.cell? ⟨gb649, 3, none⟩ = some (.slice Ao44 l0_3.length co44) := (zq4 BK649.out 3).trans rfl; have hcz51_4 : w48.cell? ⟨gb649, 4, none⟩ = some (.slice Ao45 l0_4.length co45) := (zq4 BK649.out 4).trans rfl; have hfz51_0 := zq5 BK649.out 0; have hfz51_1 := zq5 BK649.out 1; have hfz51_2 := zq5 BK649.out 2; have hfz51_3 := zq5 BK649.out 3; have hfz51_4 := zq5 BK649.out 4; have hnb52 := NB650_651.out; have hnc52 := NB651_650.out; have hcz53_0 : w48.cell? ⟨gb650, 0, none⟩ = some (.bool a1_0) := (zq4 BK650.out 0).trans rfl; have hcz53_1 : w48.cell? ⟨gb650, 1, none⟩ = some (.int .i64 a1_1) := (zq4 BK650.out 1).trans rfl; have hcz53_2 : w48.cell? ⟨gb650, 2, none⟩ = some (.string a1_2) := (zq4 BK650.out 2).trans rfl; have hfz53_0 := zq5 BK650.out 0; have hfz53_1 := zq5 BK650.out 1; have hfz53_2 := zq5 BK650.out 2) | ((with_reducible refine gate_builtin (b := .append) (xs := #[.tmp 16, .tmp 18]) rfl ?_); at_builtin; refine Kd.R_append k54 (w0 := w0) w0.heap.size rfl (.tmp 16) (.tmp 18) 26 54 (.agg #[(.bool false), (.int .i64 0), (.string ⟨#[]⟩)]) 32 rfl Try.underlying26 info54 rfl (by decide) (by omega) (.slice Ao45 l0_4.length co45) l0_4 (⟨a1_0, a1_1, a1_2⟩ : S54) [.bool a1_0, .int .i64 a1_1, .string a1_2] (fun k_ => ((P0_1_ k_ ∨ P0_2_ k_ ∨ P0_3_ k_ ∨ P0_4_ k_) ∨ w.heap.size ≤ k_) ∧ k_ ≠ gb650) (fun _ => False) rfl rfl ?aP (fun _ hk => hk.elim) ?aF ?aO ?aB ?aS ?aL ?_; (case aP => exact k54_mkM _ _ _ (⟨a1_0, a1_1, a1_2⟩ : S54)); (case aB => exact (by repeat (first | (with_reducible first | exact HB.out | apply zq2 | apply zq1 | apply below_drew1 | refine zq3 ?_ GE649.out | refine zq3 ?_ GE650.out | refine zq3 ?_ GE651.out) | exact HB.out))); (case aF => exact (fun k_ hk => ⟨(.inr (Nat.le_trans (by first | exact HK.out.1 | exact (show Kept w _ (fun k_ => P0_1_ k_ ∨ P0_2_ k_ ∨ P0_3_ k_ ∨ P0_4_ k_) from by repeat (first | (with_reducible first | exact HK.out | apply Kept.alloc | apply Kept.drewN | apply Kept.drew | refine Kept.setCell ?_ (.inr GW649.out) _ | refine Kept.setCell ?_ (.inr GW650.out) _ | refine Kept.setCell ?_ (.inr GW651.out) _) | exact HK.out)).1) hk)), Kd.freshB (g := gb650) (o := .cells #[.bool a1_0, .int .i64 a1_1, .string a1_2] 54 (0, 0)) (by (with_reducible repeat (first | refine zq6 ?_ _ | refine zq8 ?_ | refine zq7 ?_ _)); exact BK650.out) k_ hk⟩)); (case aO => exact (by (with_reducible repeat (first | apply Kd.R_alloc | apply Kd.R_drewN | apply Kd.R_drew)); exact HO0_4.out)); (case aS => exact (below_size (by repeat (first | (with_reducible first | exact HB.out | apply zq2 | apply zq1 | apply below_drew1 | refine zq3 ?_ GE649.out | refine zq3 ?_ GE650.out | refine zq3 ?_ GE651.out) | exact HB.out)))); (case aL => have := LMc41.out; omega); intro v669 w54 ho hb hg hat; rw [← Ny668.out] at ho; have n0_ := Az.mk (Kd.R_over' (by (with_reducible repeat (first | apply Kd.R_alloc | apply Kd.R_drewN | apply Kd.R_drew)); exact HO0_1.out) (Kd.R_typed (by (with_reducible repeat (first | apply Kd.R_alloc | apply Kd.R_drewN | apply Kd.R_drew)); exact HO0_4.out)) (by decide) hg); have n1_ := Az.mk (Kd.R_over' (by (with_reducible repeat (first | apply Kd.R_alloc | apply Kd.R_drewN | apply Kd.R_drew)); exact HO0_2.out) (Kd.R_typed (by (with_reducible repeat (first | apply Kd.R_alloc | apply Kd.R_drewN | apply Kd.R_drew)); exact HO0_4.out)) (by decide) hg); have n2_ := Az.mk (Kd.R_over' (by (with_reducible repeat (first | apply Kd.R_alloc | apply Kd.R_drewN | apply Kd.R_drew)); exact HO0_3.out) (Kd.R_typed (by (with_reducible repeat (first | apply Kd.R_alloc | apply Kd.R_drewN | apply Kd.R_drew)); exact HO0_4.out)) (by decide) hg); have n3_ := Az.mk (blk_grown (g := gb649) (o := .cells #[.int .i64 a0_0, .slice Ao42 l0_1.length co42, .slice Ao43 l0_2.length co43, .slice Ao44 l0_3.length co44, .slice Ao45 l0_4.length co45] 28 (0, 0)) (by (with_reducible repeat (first | refine zq6 ?_ _ | refine zq8 ?_ | refine zq7 ?_ _)); exact BK649.out) hg (Kd.R_ne HO0_4.out BK649.out (by decide))); have n4_ := Az.mk (blk_grown (g := gb650) (o := .cells #[.bool a1_0, .int .i64 a1_1, .string a1_2] 54 (0, 0)) (by (with_reducible repeat (first | refine zq6 ?_ _ | refine zq8 ?_ | refine zq7 ?_ _)); exact BK650.out) hg (Kd.R_away HO0_4.out (fun _ hk => hk.2))); have n5_ := Az.mk (blk_grown (g := gb651) (o := .cells #[.int .i64 0, .slice none 0 0, .slice none 0 0, .slice none 0 0, .slice none 0 0] 28 (0, 0)) (by (with_reducible repeat (first | refine zq6 ?_ _ | refine zq8 ?_ | refine zq7 ?_ _)); exact BK651.out) hg (Kd.R_ne HO0_4.out BK651.out (by decide))); have n6_ := Az.mk (hb); have n7_ := Az.mk (Kept.of_grown (S := (fun k_ => P0_1_ k_ ∨ P0_2_ k_ ∨ P0_3_ k_ ∨ P0_4_ k_)) hg (by repeat (first | (with_reducible first | exact HK.out | apply Kept.alloc | apply Kept.drewN | apply Kept.drew | refine Kept.setCell ?_ (.inr GW649.out) _ | refine Kept.setCell ?_ (.inr GW650.out) _ | refine Kept.setCell ?_ (.inr GW651.out) _) | exact HK.out)) (fun k_ e_ => (HO0_4.out.1 k_ e_).1)); have n8_ := Az.mk (ho); clear HO0_1; clear HO0_2; clear HO0_3; clear BK649; clear BK650; clear BK651; clear HB; clear HK; clear HO0_4; have HO0_1 := n0_; have HO0_2 := n1_; have HO0_3 := n2_; have BK649 := n3_; have BK650 := n4_; have BK651 := n5_; have HB := n6_; have HK := n7_; have HO670 := n8_; clear n0_ n1_ n2_ n3_ n4_ n5_ n6_ n7_ n8_; clear ho hb hg hat; obtain ⟨Ao55, co55, eo55⟩ := Kd.R_slice HO670.out; subst eo55; have hcz56_0 : w54.cell? ⟨gb649, 0, none⟩ = some (.int .i64 a0_0) := (zq4 BK649.out 0).trans rfl; have hcz56_1 : w54.cell? ⟨gb649, 1, none⟩ = some (.slice Ao42 l0_1.length co42) := (zq4 BK649.out 1).trans rfl; have hcz56_2 : w54.cell? ⟨gb649, 2, none⟩ = some (.slice Ao43 l0_2.length co43) := (zq4 BK649.out 2).trans rfl; have hcz56_3 : w54.cell? ⟨gb649, 3, none⟩ = some (.slice Ao44 l0_3.length co44) := (zq4 BK649.out 3).trans rfl; have hcz56_4 : w54.cell? ⟨gb649, 4, none⟩ = some (.slice Ao45 l0_4.length co45) := (zq4 BK649.out 4).trans rfl; have hfz56_0 := zq5 BK649.out 0; have hfz56_1 := zq5 BK649.out 1; have hfz56_2 := zq5 BK649.out 2; have hfz56_3 := zq5 BK649.out 3; have hfz56_4 := zq5 BK649.out 4; have hcz57_0 : w54.cell? ⟨gb651, 0, none⟩ = some (.int .i64 0) := (zq4 BK651.out 0).trans rfl; have hcz57_1 : w54.cell? ⟨gb651, 1, none⟩ = some (.slice none 0 0) := (zq4 BK651.out 1).trans rfl; have hcz57_2 : w54.cell? ⟨gb651, 2, none⟩ = some (.slice none 0 0) := (zq4 BK651.out 2).trans rfl; have hcz57_3 : w54.cell? ⟨gb651, 3, none⟩ = some (.slice none 0 0) := (zq4 BK651.out 3).trans rfl; have hcz57_4 : w54.cell? ⟨gb651, 4, none⟩ = some (.slice none 0 0) := (zq4 BK651.out 4).trans rfl; have hfz57_0 := zq5 BK651.out 0; have hfz57_1 := zq5 BK651.out 1; have hfz57_2 := zq5 BK651.out 2; have hfz57_3 := zq5 BK651.out 3; have hfz57_4 := zq5 BK651.out 4))
        refine bodyPost_ret (results_cell_row rfl _ _ gb651 28 #[.int .i64 a0_0, .slice Ao42 l0_1.length co42, .slice Ao43 l0_2.length co43, .slice Ao44 l0_3.length co44, .slice Ao55 y668.length co55] (0, 0) _ rfl (by (with_reducible repeat (first | refine zq6 ?_ _ | refine zq8 ?_ | refine zq7 ?_ _)); refine blk_put (cs := #[.int .i64 a0_0, .slice Ao42 l0_1.length co42, .slice Ao43 l0_2.length co43, .slice Ao44 l0_3.length co44, .slice none 0 0]) ?_ 4 _ rfl; (with_reducible repeat (first | refine zq6 ?_ _ | refine zq8 ?_ | refine zq7 ?_ _)); refine blk_put (cs := #[.int .i64 a0_0, .slice Ao42 l0_1.length co42, .slice Ao43 l0_2.length co43, .slice none 0 0, .slice none 0 0]) ?_ 3 _ rfl; (with_reducible repeat (first | refine zq6 ?_ _ | refine zq8 ?_ | refine zq7 ?_ _)); refine blk_put (cs := #[.int .i64 a0_0, .slice Ao42 l0_1.length co42, .slice none 0 0, .slice none 0 0, .slice none 0 0]) ?_ 2 _ rfl; (with_reducible repeat (first | refine zq6 ?_ _ | refine zq8 ?_ | refine zq7 ?_ _)); refine blk_put (cs := #[.int .i64 a0_0, .slice none 0 0, .slice none 0 0, .slice none 0 0, .slice none 0 0]) ?_ 1 _ rfl; (with_reducible repeat (first | refine zq6 ?_ _ | refine zq8 ?_ | refine zq7 ?_ _)); refine blk_put (cs := #[.int .i64 0, .slice none 0 0, .slice none 0 0, .slice none 0 0, .slice none 0 0]) ?_ 0 _ rfl; (with_reducible repeat (first | refine zq6 ?_ _ | refine zq8 ?_ | refine zq7 ?_ _)); refine blk_far ?_ NB651_649.out _; (with_reducible repeat (first | refine zq6 ?_ _ | refine zq8 ?_ | refine zq7 ?_ _)); exact BK651.out) Try.underlying28 rfl (by kernel_rfl)) rfl ?_
        exact ⟨_, _, _, _, by first | rfl | (simp [errW_none, errW_some] <;> rfl) | (simp [*, errW_none, errW_some] <;> rfl), by (with_reducible repeat (first | apply Kd.R_alloc | apply Kd.R_drewN | apply Kd.R_drew)); exact Kd.R_mono (Kd.R_far (p := ⟨gb651, 4, none⟩) (Kd.R_far (p := ⟨gb651, 3, none⟩) (Kd.R_far (p := ⟨gb651, 2, none⟩) (Kd.R_far (p := ⟨gb651, 1, none⟩) (Kd.R_far (p := ⟨gb651, 0, none⟩) (Kd.R_far (p := ⟨gb649, 4, none⟩) (Kd.R_types (Kd.R_types HO0_1.out BK649.out (by decide)) BK651.out (by decide)) (fun _ hk => hk.1.2) (.slice Ao55 y668.length co55)) (fun _ hk => hk.2) (.int .i64 a0_0)) (fun _ hk => hk.2) (.slice Ao42 l0_1.length co42)) (fun _ hk => hk.2) (.slice Ao43 l0_2.length co43)) (fun _ hk => hk.2) (.slice Ao44 l0_3.length co44)) (fun _ hk => hk.2) (.slice Ao55 y668.length co55)) (fun _ hk => ⟨hk.1.1.1, hk.1.1.2⟩), by (with_reducible repeat (first | apply Kd.R_alloc | apply Kd.R_drewN | apply Kd.R_drew)); exact Kd.R_mono (Kd.R_far (p := ⟨gb651, 4, none⟩) (Kd.R_far (p := ⟨gb651, 3, none⟩) (Kd.R_far (p := ⟨gb651, 2, none⟩) (Kd.R_far (p := ⟨gb651, 1, none⟩) (Kd.R_far (p := ⟨gb651, 0, none⟩) (Kd.R_far (p := ⟨gb649, 4, none⟩) (Kd.R_types (Kd.R_types HO0_2.out BK649.out (by decide)) BK651.out (by decide)) (fun _ hk => hk.1.2) (.slice Ao55 y668.length co55)) (fun _ hk => hk.2) (.int .i64 a0_0)) (fun _ hk => hk.2) (.slice Ao42 l0_1.length co42)) (fun _ hk => hk.2) (.slice Ao43 l0_2.length co43)) (fun _ hk => hk.2) (.slice Ao44 l0_3.length co44)) (fun _ hk => hk.2) (.slice Ao55 y668.length co55)) (fun _ hk => ⟨hk.1.1.1, hk.1.1.2⟩), by (with_reducible repeat (first | apply Kd.R_alloc | apply Kd.R_drewN | apply Kd.R_drew)); exact Kd.R_mono (Kd.R_far (p := ⟨gb651, 4, none⟩) (Kd.R_far (p := ⟨gb651, 3, none⟩) (Kd.R_far (p := ⟨gb651, 2, none⟩) (Kd.R_far (p := ⟨gb651, 1, none⟩) (Kd.R_far (p := ⟨gb651, 0, none⟩) (Kd.R_far (p := ⟨gb649, 4, none⟩) (Kd.R_types (Kd.R_types HO0_3.out BK649.out (by decide)) BK651.out (by decide)) (fun _ hk => hk.1.2) (.slice Ao55 y668.length co55)) (fun _ hk => hk.2) (.int .i64 a0_0)) (fun _ hk => hk.2) (.slice Ao42 l0_1.length co42)) (fun _ hk => hk.2) (.slice Ao43 l0_2.length co43)) (fun _ hk => hk.2) (.slice Ao44 l0_3.length co44)) (fun _ hk => hk.2) (.slice Ao55 y668.length co55)) (fun _ hk => hk.1.1), by (with_reducible repeat (first | apply Kd.R_alloc | apply Kd.R_drewN | apply Kd.R_drew)); exact Kd.R_mono (Kd.R_far (p := ⟨gb651, 4, none⟩) (Kd.R_far (p := ⟨gb651, 3, none⟩) (Kd.R_far (p := ⟨gb651, 2, none⟩) (Kd.R_far (p := ⟨gb651, 1, none⟩) (Kd.R_far (p := ⟨gb651, 0, none⟩) (Kd.R_far (p := ⟨gb649, 4, none⟩) (Kd.R_types (Kd.R_types HO670.out BK649.out (by decide)) BK651.out (by decide)) (fun _ hk => hk.1.2) (.slice Ao55 y668.length co55)) (fun _ hk => hk.2) (.int .i64 a0_0)) (fun _ hk => hk.2) (.slice Ao42 l0_1.length co42)) (fun _ hk => hk.2) (.slice Ao43 l0_2.length co43)) (fun _ hk => hk.2) (.slice Ao44 l0_3.length co44)) (fun _ hk => hk.2) (.slice Ao55 y668.length co55)) (fun _ hk => hk.1.1.1), by repeat (first | (with_reducible first | exact HB.out | apply zq2 | apply zq1 | apply below_drew1 | refine zq3 ?_ GE649.out | refine zq3 ?_ GE650.out | refine zq3 ?_ GE651.out) | exact HB.out), by repeat (first | (with_reducible first | exact HK.out | apply Kept.alloc | apply Kept.drewN | apply Kept.drew | refine Kept.setCell ?_ (.inr GW649.out) _ | refine Kept.setCell ?_ (.inr GW650.out) _ | refine Kept.setCell ?_ (.inr GW651.out) _) | exact HK.out)⟩
      · rw [if_neg c41] at H
        exact absurd H (by simp)
end Go.Proofs.Ytkgpnloghmbmlaa.Print
namespace Go.Proofs.Ytkgpnloghmbmlaa.Print
open Go.RowKit Go.Proofs.YtkgpnloghmbmlaaW.PrintWords Go.Proofs.YtkgpnloghmbmlaaW.PrintLast Go.Proofs.YtkgpnloghmbmlaaW.PrintMore
attribute [local go_sem] max2_int min2_int max_two min_two max_three min_three max_four min_four   -- for this text's walks alone
set_option linter.unusedVariables false
set_option linter.unusedSimpArgs false
def spec_DiskPut.j0 : Nat → Bool → Int → List ByteArray → List ByteArray → List Bool → List (S54) → Bool → Int → ByteArray → Option (Int × List ByteArray × List ByteArray × List Bool × (List (S54)))
  | 0, _, _, _, _, _, _, _, _, _ => none
  | k + 1, x12, x672000, x672001, x672002, x672003, x672004, x673000, x673001, x673002 => if x12 = true then (some (0, ([] : List ByteArray), ([] : List ByteArray), ([] : List Bool), ([] : List (S54)))) else ((spec_l3Copy.f x672000 x672001 x672002 x672003 x672004).bind fun bt676 => ((spec_l3Write.f k bt676.1 bt676.2.1 bt676.2.2.1 bt676.2.2.2.1 bt676.2.2.2.2 x673000 x673001 x673002).bind fun bt689 => (some (bt689.1, bt689.2.1, bt689.2.2.1, bt689.2.2.2.1, bt689.2.2.2.2))))
def spec_DiskPut.f (k : Nat) (a0_0 : Int) (l0_1 : List ByteArray) (l0_2 : List ByteArray) (l0_3 : List Bool) (l0_4 : List (S54)) (a1_0 : Bool) (a1_1 : Int) (a1_2 : ByteArray) : Option (Int × List ByteArray × List ByteArray × List Bool × (List (S54))) := (spec_DiskOk.f k a0_0 l0_1 l0_2 l0_3 l0_4).bind fun t674 => (if t674 = true then ((spec_l3Put.f a1_0 a1_1 a1_2).bind fun t675 => (spec_DiskPut.j0 k (!t675) a0_0 l0_1 l0_2 l0_3 l0_4 a1_0 a1_1 a1_2)) else (spec_DiskPut.j0 k true a0_0 l0_1 l0_2 l0_3 l0_4 a1_0 a1_1 a1_2))
set_option maxHeartbeats 8000000 in
set_option maxRecDepth 100000 in
theorem spec_DiskPut.calls (k : Nat) (a0_0 : Int) (A0_1 : Option Addr) (c0_1 : Nat) (l0_1 : List ByteArray) (A0_2 : Option Addr) (c0_2 : Nat) (l0_2 : List ByteArray) (A0_3 : Option Addr) (c0_3 : Nat) (l0_3 : List Bool) (A0_4 : Option Addr) (c0_4 : Nat) (l0_4 : List (S54)) (a1_0 : Bool) (a1_1 : Int) (a1_2 : ByteArray) (r1 : Int) (r2 : List ByteArray) (r3 : List ByteArray) (r4 : List Bool) (r5 : List (S54)) (w : World) (hr0_1 : Kd.C Kd.string w A0_1 l0_1.length l0_1) (hc0_1 : l0_1.length ≤ c0_1) (hr0_2 : Kd.C Kd.string w A0_2 l0_2.length l0_2) (hc0_2 : l0_2.length ≤ c0_2) (hr0_3 : Kd.C Kd.bool w A0_3 l0_3.length l0_3) (hc0_3 : l0_3.length ≤ c0_3) (hr0_4 : Kd.C k54 w A0_4 l0_4.length l0_4) (hc0_4 : l0_4.length ≤ c0_4) (h : spec_DiskPut.f k a0_0 l0_1 l0_2 l0_3 l0_4 a1_0 a1_1 a1_2 = some (r1, r2, r3, r4, r5)) :
    Calls Try.prog 39 #[.agg #[.int .i64 a0_0, .slice A0_1 l0_1.length c0_1, .slice A0_2 l0_2.length c0_2, .slice A0_3 l0_3.length c0_3, .slice A0_4 l0_4.length c0_4], .agg #[.bool a1_0, .int .i64 a1_1, .string a1_2]] w fun e w' => ∃ v1_ v2_ v3_ v4_ : Value, e = .returned (.agg #[.int .i64 r1, v1_, v2_, v3_, v4_]) ∧ Kd.R Kd.string 9 w' w.heap.size (fun k_ => some k_ ≠ (v2_ : Value).ownBlock) v1_ r2 ∧ Kd.R Kd.string 9 w' w.heap.size (fun k_ => some k_ ≠ (v1_ : Value).ownBlock) v2_ r3 ∧ Kd.R Kd.bool 4 w' w.heap.size (fun _ => True) v3_ r4 ∧ Kd.R k54 54 w' w.heap.size (fun _ => True) v4_ r5 ∧ Below w.heap.size w w' := by
  have hu28 := Try.underlying28
  have hu54 := Try.underlying54
  have HR0_1 := Az.mk hr0_1
  have HC0_1 := Az.mk hc0_1
  clear hr0_1 hc0_1
  have HR0_2 := Az.mk hr0_2
  have HC0_2 := Az.mk hc0_2
  clear hr0_2 hc0_2
  have HR0_3 := Az.mk hr0_3
  have HC0_3 := Az.mk hc0_3
  clear hr0_3 hc0_3
  have HR0_4 := Az.mk hr0_4
  have HC0_4 := Az.mk hc0_4
  clear hr0_4 hc0_4
  have HB := Az.mk (Below.refl w.heap.size w)
  have H : ((spec_DiskOk.f k a0_0 l0_1 l0_2 l0_3 l0_4).bind fun t674 => (if t674 = true then ((spec_l3Put.f a1_0 a1_1 a1_2).bind fun t675 => (spec_DiskPut.j0 k (!t675) a0_0 l0_1 l0_2 l0_3 l0_4 a1_0 a1_1 a1_2)) else (spec_DiskPut.j0 k true a0_0 l0_1 l0_2 l0_3 l0_4 a1_0 a1_1 a1_2))) = some (r1, r2, r3, r4, r5) := h
  clear h
  have HC3 := Az.mk H
  clear H
  go_enter Try.func39, Try.ntmps39
  go_upto_region 1 with (first | ((with_reducible refine zqg (N := 2) rfl ?_); refine zqb ?hg (N := 2) ?hd (cs := #[.int .i64 a0_0, .slice A0_1 l0_1.length c0_1, .slice A0_2 l0_2.length c0_2, .slice A0_3 l0_3.length c0_3, .slice A0_4 l0_4.length c0_4]) (t := 28) ?hr ?_; (case hd => rfl); (case hg => rfl); (case hr => first | (go_simp; done) | (go_simp; rfl)); intro gb671 hg w4 hbox hb; have n0_ := Az.mk (below_step (by repeat (first | (with_reducible first | exact HB.out | apply zq2 | apply zq1 | apply below_drew1) | exact HB.out)) hb); have n1_ := Az.mk (hbox); have n2_ := Az.mk ((by rw [hg]; exact (below_size (by repeat (first | (with_reducible first | exact HB.out | apply zq2 | apply zq1 | apply below_drew1) | exact HB.out))) : w.heap.size ≤ gb671)); have n3_ := Az.mk ((by rw [hg]; exact (below_size (by repeat (first | (with_reducible first | exact HB.out | apply zq2 | apply zq1 | apply below_drew1) | exact HB.out))) : w.heap.size ≤ gb671)); clear HB; have HB := n0_; have BK671 := n1_; have GW671 := n2_; have GE671 := n3_; clear n0_ n1_ n2_ n3_; clear hb hbox hg) | ((with_reducible refine zqg (N := 3) rfl ?_); refine zqb ?hg (N := 3) ?hd (cs := #[.bool a1_0, .int .i64 a1_1, .string a1_2]) (t := 54) ?hr ?_; (case hd => rfl); (case hg => rfl); (case hr => first | (go_simp; done) | (go_simp; rfl)); intro gb672 hg w5 hbox hb; have n0_ := Az.mk (blk_below (g := gb671) (o := .cells #[.int .i64 a0_0, .slice A0_1 l0_1.length c0_1, .slice A0_2 l0_2.length c0_2, .slice A0_3 l0_3.length c0_3, .slice A0_4 l0_4.length c0_4] 28 (0, 0)) (by (with_reducible repeat (first | refine zq6 ?_ _ | refine zq8 ?_ | refine zq7 ?_ _)); exact BK671.out) hb); have n1_ := Az.mk (below_step (by repeat (first | (with_reducible first | exact HB.out | apply zq2 | apply zq1 | apply below_drew1 | refine zq3 ?_ GE671.out) | exact HB.out)) hb); have n2_ := Az.mk (hbox); have n3_ := Az.mk ((by rw [hg]; exact (below_size (by repeat (first | (with_reducible first | exact HB.out | apply zq2 | apply zq1 | apply below_drew1 | refine zq3 ?_ GE671.out) | exact HB.out))) : w.heap.size ≤ gb672)); have n4_ := Az.mk ((by rw [hg]; exact (below_size (by repeat (first | (with_reducible first | exact HB.out | apply zq2 | apply zq1 | apply below_drew1 | refine zq3 ?_ GE671.out) | exact HB.out))) : w.heap.size ≤ gb672)); have n5_ := Az.mk ((by rw [hg]; exact Nat.ne_of_lt (blk_lt (g := gb671) (o := .cells #[.int .i64 a0_0, .slice A0_1 l0_1.length c0_1, .slice A0_2 l0_2.length c0_2, .slice A0_3 l0_3.length c0_3, .slice A0_4 l0_4.length c0_4] 28 (0, 0)) (by (with_reducible repeat (first | refine zq6 ?_ _ | refine zq8 ?_ | refine zq7 ?_ _)); exact BK671.out)) : gb671 ≠ gb672)); have n6_ := Az.mk ((by rw [hg]; exact Nat.ne_of_gt (blk_lt (g := gb671) (o := .cells #[.int .i64 a0_0, .slice A0_1 l0_1.length c0_1, .slice A0_2 l0_2.length c0_2, .slice A0_3 l0_3.length c0_3, .slice A0_4 l0_4.length c0_4] 28 (0, 0)) (by (with_reducible repeat (first | refine zq6 ?_ _ | refine zq8 ?_ | refine zq7 ?_ _)); exact BK671.out)) : gb672 ≠ gb671)); clear BK671; clear HB; have BK671 := n0_; have HB := n1_; have BK672 := n2_; have GW672 := n3_; have GE672 := n4_; have NB671_672 := n5_; have NB672_671 := n6_; clear n0_ n1_ n2_ n3_ n4_ n5_ n6_; clear hb hbox hg) | ((with_reducible refine zqg (N := 4) rfl ?_); refine zqb ?hg (N := 4) ?hd (cs := #[.int .i64 0, .slice none 0 0, .slice none 0 0, .slice none 0 0, .slice none 0 0]) (t := 28) ?hr ?_; (case hd => rfl); (case hg => rfl); (case hr => first | (go_simp; done) | (go_simp; rfl)); intro gb673 hg w6 hbox hb; have n0_ := Az.mk (blk_below (g := gb671) (o := .cells #[.int .i64 a0_0, .slice A0_1 l0_1.length c0_1, .slice A0_2 l0_2.length c0_2, .slice A0_3 l0_3.length c0_3, .slice A0_4 l0_4.length c0_4] 28 (0, 0)) (by (with_reducible repeat (first | refine zq6 ?_ _ | refine zq8 ?_ | refine zq7 ?_ _)); exact BK671.out) hb); have n1_ := Az.mk (blk_below (g := gb672) (o := .cells #[.bool a1_0, .int .i64 a1_1, .string a1_2] 54 (0, 0)) (by (with_reducible repeat (first | refine zq6 ?_ _ | refine zq8 ?_ | refine zq7 ?_ _)); exact BK672.out) hb); have n2_ := Az.mk (below_step (by repeat (first | (with_reducible first | exact HB.out | apply zq2 | apply zq1 | apply below_drew1 | refine zq3 ?_ GE671.out | refine zq3 ?_ GE672.out) | exact HB.out)) hb); have n3_ := Az.mk (hbox); have n4_ := Az.mk ((by rw [hg]; exact (below_size (by repeat (first | (with_reducible first | exact HB.out | apply zq2 | apply zq1 | apply below_drew1 | refine zq3 ?_ GE671.out | refine zq3 ?_ GE672.out) | exact HB.out))) : w.heap.size ≤ gb673)); have n5_ := Az.mk ((by rw [hg]; exact (below_size (by repeat (first | (with_reducible first | exact HB.out | apply zq2 | apply zq1 | apply below_drew1 | refine zq3 ?_ GE671.out | refine zq3 ?_ GE672.out) | exact HB.out))) : w.heap.size ≤ gb673)); have n6_ := Az.mk ((by rw [hg]; exact Nat.ne_of_lt (blk_lt (g := gb671) (o := .cells #[.int .i64 a0_0, .slice A0_1 l0_1.length c0_1, .slice A0_2 l0_2.length c0_2, .slice A0_3 l0_3.length c0_3, .slice A0_4 l0_4.length c0_4] 28 (0, 0)) (by (with_reducible repeat (first | refine zq6 ?_ _ | refine zq8 ?_ | refine zq7 ?_ _)); exact BK671.out)) : gb671 ≠ gb673)); have n7_ := Az.mk ((by rw [hg]; exact Nat.ne_of_gt (blk_lt (g := gb671) (o := .cells #[.int .i64 a0_0, .slice A0_1 l0_1.length c0_1, .slice A0_2 l0_2.length c0_2, .slice A0_3 l0_3.length c0_3, .slice A0_4 l0_4.length c0_4] 28 (0, 0)) (by (with_reducible repeat (first | refine zq6 ?_ _ | refine zq8 ?_ | refine zq7 ?_ _)); exact BK671.out)) : gb673 ≠ gb671)); have n8_ := Az.mk ((by rw [hg]; exact Nat.ne_of_lt (blk_lt (g := gb672) (o := .cells #[.bool a1_0, .int .i64 a1_1, .string a1_2] 54 (0, 0)) (by (with_reducible repeat (first | refine zq6 ?_ _ | refine zq8 ?_ | refine zq7 ?_ _)); exact BK672.out)) : gb672 ≠ gb673)); have n9_ := Az.mk ((by rw [hg]; exact Nat.ne_of_gt (blk_lt (g := gb672) (o := .cells #[.bool a1_0, .int .i64 a1_1, .string a1_2] 54 (0, 0)) (by (with_reducible repeat (first | refine zq6 ?_ _ | refine zq8 ?_ | refine zq7 ?_ _)); exact BK672.out)) : gb673 ≠ gb672)); clear BK671; clear BK672; clear HB; have BK671 := n0_; have BK672 := n1_; have HB := n2_; have BK673 := n3_; have GW673 := n4_; have GE673 := n5_; have NB671_673 := n6_; have NB673_671 := n7_; have NB672_673 := n8_; have NB673_672 := n9_; clear n0_ n1_ n2_ n3_ n4_ n5_ n6_ n7_ n8_ n9_; clear hb hbox hg))
  (try simp only [Act.put, List.setIfInBounds_toArray, List.set_cons_zero, List.set_cons_succ])
  go_cut [12] (fun v12 wc => ∃ (kq : Nat) (x12_2 : Bool), v12 = .bool x12_2 ∧ Az (spec_DiskPut.j0 kq x12_2 a0_0 l0_1 l0_2 l0_3 l0_4 a1_0 a1_1 a1_2 = some (r1, r2, r3, r4, r5)) ∧ Az (kq ≤ k) ∧ Az (wc.heap[gb671]? = some (.cells #[.int .i64 a0_0, (.slice A0_1 l0_1.length c0_1), (.slice A0_2 l0_2.length c0_2), (.slice A0_3 l0_3.length c0_3), (.slice A0_4 l0_4.length c0_4)] 28 (0, 0))) ∧ Az (wc.heap[gb672]? = some (.cells #[.bool a1_0, .int .i64 a1_1, .string a1_2] 54 (0, 0))) ∧ Az (wc.heap[gb673]? = some (.cells #[.int .i64 0, (.slice none 0 0), (.slice none 0 0), (.slice none 0 0), (.slice none 0 0)] 28 (0, 0))) ∧ Az (Below w.heap.size w wc))
  case first =>
    have H := HC3.out
    clear HC3
    replace H := Option.bind_eq_some_iff.mp H
    obtain ⟨t674, A70, H⟩ := H
    replace H : (if t674 = true then ((spec_l3Put.f a1_0 a1_1 a1_2).bind fun t675 => (spec_DiskPut.j0 k (!t675) a0_0 l0_1 l0_2 l0_3 l0_4 a1_0 a1_1 a1_2)) else (spec_DiskPut.j0 k true a0_0 l0_1 l0_2 l0_3 l0_4 a1_0 a1_1 a1_2)) = some (r1, r2, r3, r4, r5) := H
    have A7 := Az.mk A70
    clear A70
    by_cases c8 : t674 = true
    · subst c8
      have H1 : ((spec_l3Put.f a1_0 a1_1 a1_2).bind fun t675 => (spec_DiskPut.j0 k (!t675) a0_0 l0_1 l0_2 l0_3 l0_4 a1_0 a1_1 a1_2)) = some (r1, r2, r3, r4, r5) := by rw [if_pos rfl] at H; exact H
      clear H
      have H := H1
      clear H1
      replace H := Option.bind_eq_some_iff.mp H
      obtain ⟨t675, A90, H⟩ := H
      replace H : (spec_DiskPut.j0 k (!t675) a0_0 l0_1 l0_2 l0_3 l0_4 a1_0 a1_1 a1_2) = some (r1, r2, r3, r4, r5) := H
      have A9 := Az.mk A90
      clear A90
      have H' := Az.mk H
      clear H
      have hnb10 := NB671_672.out
      have hnc10 := NB672_671.out
      have hnb11 := NB671_673.out
      have hnc11 := NB673_671.out
      have hcz12_0 : w6.cell? ⟨gb671, 0, none⟩ = some (.int .i64 a0_0) := (zq4 BK671.out 0).trans rfl
      have hcz12_1 : w6.cell? ⟨gb671, 1, none⟩ = some (.slice A0_1 l0_1.length c0_1) := (zq4 BK671.out 1).trans rfl
      have hcz12_2 : w6.cell? ⟨gb671, 2, none⟩ = some (.slice A0_2 l0_2.length c0_2) := (zq4 BK671.out 2).trans rfl
      have hcz12_3 : w6.cell? ⟨gb671, 3, none⟩ = some (.slice A0_3 l0_3.length c0_3) := (zq4 BK671.out 3).trans rfl
      have hcz12_4 : w6.cell? ⟨gb671, 4, none⟩ = some (.slice A0_4 l0_4.length c0_4) := (zq4 BK671.out 4).trans rfl
      have hfz12_0 := zq5 BK671.out 0
      have hfz12_1 := zq5 BK671.out 1
      have hfz12_2 := zq5 BK671.out 2
      have hfz12_3 := zq5 BK671.out 3
      have hfz12_4 := zq5 BK671.out 4
      go_wp2_with (first | ((with_reducible refine gate_callee (f := 26) rfl ?_); refine zq9 (some 6) rfl rfl Try.func26 (by kernel_rfl) rfl #[.agg #[.int .i64 a0_0, .slice A0_1 l0_1.length c0_1, .slice A0_2 l0_2.length c0_2, .slice A0_3 l0_3.length c0_3, .slice A0_4 l0_4.length c0_4]] rfl (by (try simp only [List.map_toArray, List.map_cons, List.map_nil]); first | done | rfl | (simp only [List.length_drop, List.length_take]; rfl)) ?_; (with_reducible refine (spec_DiskOk.calls k a0_0 _ _ l0_1 _ _ l0_2 _ _ l0_3 _ _ l0_4 true _ ?side1 ?side2 ?side3 ?side4 ?side5 ?side6 ?side7 ?side8 A7.out).mono ?_); (case side1 => repeat (first | exact (Kd.C_below HR0_1.out HB.out) | (with_reducible refine Kd.C_alloc ?_ _) | (with_reducible refine Kd.C_drewN ?_ _) | (with_reducible refine Kd.C_drew ?_))); (case side2 => exact HC0_1.out); (case side3 => repeat (first | exact (Kd.C_below HR0_2.out HB.out) | (with_reducible refine Kd.C_alloc ?_ _) | (with_reducible refine Kd.C_drewN ?_ _) | (with_reducible refine Kd.C_drew ?_))); (case side4 => exact HC0_2.out); (case side5 => repeat (first | exact (Kd.C_below HR0_3.out HB.out) | (with_reducible refine Kd.C_alloc ?_ _) | (with_reducible refine Kd.C_drewN ?_ _) | (with_reducible refine Kd.C_drew ?_))); (case side6 => exact HC0_3.out); (case side7 => repeat (first | exact (Kd.C_below HR0_4.out HB.out) | (with_reducible refine Kd.C_alloc ?_ _) | (with_reducible refine Kd.C_drewN ?_ _) | (with_reducible refine Kd.C_drew ?_))); (case side8 => exact HC0_4.out); rintro e w13 ⟨rfl, hb⟩; refine ⟨_, rfl, ?_⟩; have n0_ := Az.mk (blk_below (g := gb671) (o := .cells #[.int .i64 a0_0, .slice A0_1 l0_1.length c0_1, .slice A0_2 l0_2.length c0_2, .slice A0_3 l0_3.length c0_3, .slice A0_4 l0_4.length c0_4] 28 (0, 0)) (by (with_reducible repeat (first | refine zq6 ?_ _ | refine zq8 ?_ | refine zq7 ?_ _)); exact BK671.out) hb); have n1_ := Az.mk (blk_below (g := gb672) (o := .cells #[.bool a1_0, .int .i64 a1_1, .string a1_2] 54 (0, 0)) (by (with_reducible repeat (first | refine zq6 ?_ _ | refine zq8 ?_ | refine zq7 ?_ _)); exact BK672.out) hb); have n2_ := Az.mk (blk_below (g := gb673) (o := .cells #[.int .i64 0, .slice none 0 0, .slice none 0 0, .slice none 0 0, .slice none 0 0] 28 (0, 0)) (by (with_reducible repeat (first | refine zq6 ?_ _ | refine zq8 ?_ | refine zq7 ?_ _)); exact BK673.out) hb); have n3_ := Az.mk (below_step (by repeat (first | (with_reducible first | exact HB.out | apply zq2 | apply zq1 | apply below_drew1 | refine zq3 ?_ GE671.out | refine zq3 ?_ GE672.out | refine zq3 ?_ GE673.out) | exact HB.out)) hb); clear BK671; clear BK672; clear BK673; clear HB; have BK671 := n0_; have BK672 := n1_; have BK673 := n2_; have HB := n3_; clear n0_ n1_ n2_ n3_; (try clear hb); (try clear hb2); (try clear hk); (try clear hi); have hnb14 := NB672_673.out; have hnc14 := NB673_672.out; have hcz15_0 : w13.cell? ⟨gb672, 0, none⟩ = some (.bool a1_0) := (zq4 BK672.out 0).trans rfl; have hcz15_1 : w13.cell? ⟨gb672, 1, none⟩ = some (.int .i64 a1_1) := (zq4 BK672.out 1).trans rfl; have hcz15_2 : w13.cell? ⟨gb672, 2, none⟩ = some (.string a1_2) := (zq4 BK672.out 2).trans rfl; have hfz15_0 := zq5 BK672.out 0; have hfz15_1 := zq5 BK672.out 1; have hfz15_2 := zq5 BK672.out 2) | (go_at_call 66; (with_reducible refine (spec_l3Put.calls a1_0 a1_1 a1_2 t675 _ A9.out).mono ?_); rintro e w16 ⟨rfl, hb⟩; have n0_ := Az.mk (blk_below (g := gb671) (o := .cells #[.int .i64 a0_0, .slice A0_1 l0_1.length c0_1, .slice A0_2 l0_2.length c0_2, .slice A0_3 l0_3.length c0_3, .slice A0_4 l0_4.length c0_4] 28 (0, 0)) (by (with_reducible repeat (first | refine zq6 ?_ _ | refine zq8 ?_ | refine zq7 ?_ _)); exact BK671.out) hb); have n1_ := Az.mk (blk_below (g := gb672) (o := .cells #[.bool a1_0, .int .i64 a1_1, .string a1_2] 54 (0, 0)) (by (with_reducible repeat (first | refine zq6 ?_ _ | refine zq8 ?_ | refine zq7 ?_ _)); exact BK672.out) hb); have n2_ := Az.mk (blk_below (g := gb673) (o := .cells #[.int .i64 0, .slice none 0 0, .slice none 0 0, .slice none 0 0, .slice none 0 0] 28 (0, 0)) (by (with_reducible repeat (first | refine zq6 ?_ _ | refine zq8 ?_ | refine zq7 ?_ _)); exact BK673.out) hb); have n3_ := Az.mk (below_step (by repeat (first | (with_reducible first | exact HB.out | apply zq2 | apply zq1 | apply below_drew1 | refine zq3 ?_ GE671.out | refine zq3 ?_ GE672.out | refine zq3 ?_ GE673.out) | exact HB.out)) hb); clear BK671; clear BK672; clear BK673; clear HB; have BK671 := n0_; have BK672 := n1_; have BK673 := n2_; have HB := n3_; clear n0_ n1_ n2_ n3_; (try clear hb); (try clear hb2); (try clear hk); (try clear hi)))
      go_meet
      case rel => exact ⟨_, (!t675), (by first | rfl | (simp; done) | (simp [*]; done)), H', ⟨by first | omega | exact Nat.le_refl _⟩, ⟨by (with_reducible repeat (first | refine zq6 ?_ _ | refine zq8 ?_ | refine zq7 ?_ _)); exact BK671.out⟩, ⟨by (with_reducible repeat (first | refine zq6 ?_ _ | refine zq8 ?_ | refine zq7 ?_ _)); exact BK672.out⟩, ⟨by (with_reducible repeat (first | refine zq6 ?_ _ | refine zq8 ?_ | refine zq7 ?_ _)); exact BK673.out⟩, ⟨by repeat (first | (with_reducible first | exact HB.out | apply zq2 | apply zq1 | apply below_drew1 | refine zq3 ?_ GE671.out | refine zq3 ?_ GE672.out | refine zq3 ?_ GE673.out) | exact HB.out)⟩⟩
    · replace c8 := Bool.eq_false_iff.mpr c8
      subst c8
      have H1 : (spec_DiskPut.j0 k true a0_0 l0_1 l0_2 l0_3 l0_4 a1_0 a1_1 a1_2) = some (r1, r2, r3, r4, r5) := by rw [if_neg (show ¬ (false = true) by decide)] at H; exact H
      clear H
      have H := H1
      clear H1
      have H' := Az.mk H
      clear H
      have hnb17 := NB671_672.out
      have hnc17 := NB672_671.out
      have hnb18 := NB671_673.out
      have hnc18 := NB673_671.out
      have hcz19_0 : w6.cell? ⟨gb671, 0, none⟩ = some (.int .i64 a0_0) := (zq4 BK671.out 0).trans rfl
      have hcz19_1 : w6.cell? ⟨gb671, 1, none⟩ = some (.slice A0_1 l0_1.length c0_1) := (zq4 BK671.out 1).trans rfl
      have hcz19_2 : w6.cell? ⟨gb671, 2, none⟩ = some (.slice A0_2 l0_2.length c0_2) := (zq4 BK671.out 2).trans rfl
      have hcz19_3 : w6.cell? ⟨gb671, 3, none⟩ = some (.slice A0_3 l0_3.length c0_3) := (zq4 BK671.out 3).trans rfl
      have hcz19_4 : w6.cell? ⟨gb671, 4, none⟩ = some (.slice A0_4 l0_4.length c0_4) := (zq4 BK671.out 4).trans rfl
      have hfz19_0 := zq5 BK671.out 0
      have hfz19_1 := zq5 BK671.out 1
      have hfz19_2 := zq5 BK671.out 2
      have hfz19_3 := zq5 BK671.out 3
      have hfz19_4 := zq5 BK671.out 4
      go_wp2_with (first | ((with_reducible refine gate_callee (f := 26) rfl ?_); refine zq9 (some 6) rfl rfl Try.func26 (by kernel_rfl) rfl #[.agg #[.int .i64 a0_0, .slice A0_1 l0_1.length c0_1, .slice A0_2 l0_2.length c0_2, .slice A0_3 l0_3.length c0_3, .slice A0_4 l0_4.length c0_4]] rfl (by (try simp only [List.map_toArray, List.map_cons, List.map_nil]); first | done | rfl | (simp only [List.length_drop, List.length_take]; rfl)) ?_; (with_reducible refine (spec_DiskOk.calls k a0_0 _ _ l0_1 _ _ l0_2 _ _ l0_3 _ _ l0_4 false _ ?side1 ?side2 ?side3 ?side4 ?side5 ?side6 ?side7 ?side8 A7.out).mono ?_); (case side1 => repeat (first | exact (Kd.C_below HR0_1.out HB.out) | (with_reducible refine Kd.C_alloc ?_ _) | (with_reducible refine Kd.C_drewN ?_ _) | (with_reducible refine Kd.C_drew ?_))); (case side2 => exact HC0_1.out); (case side3 => repeat (first | exact (Kd.C_below HR0_2.out HB.out) | (with_reducible refine Kd.C_alloc ?_ _) | (with_reducible refine Kd.C_drewN ?_ _) | (with_reducible refine Kd.C_drew ?_))); (case side4 => exact HC0_2.out); (case side5 => repeat (first | exact (Kd.C_below HR0_3.out HB.out) | (with_reducible refine Kd.C_alloc ?_ _) | (with_reducible refine Kd.C_drewN ?_ _) | (with_reducible refine Kd.C_drew ?_))); (case side6 => exact HC0_3.out); (case side7 => repeat (first | exact (Kd.C_below HR0_4.out HB.out) | (with_reducible refine Kd.C_alloc ?_ _) | (with_reducible refine Kd.C_drewN ?_ _) | (with_reducible refine Kd.C_drew ?_))); (case side8 => exact HC0_4.out); rintro e w20 ⟨rfl, hb⟩; refine ⟨_, rfl, ?_⟩; have n0_ := Az.mk (blk_below (g := gb671) (o := .cells #[.int .i64 a0_0, .slice A0_1 l0_1.length c0_1, .slice A0_2 l0_2.length c0_2, .slice A0_3 l0_3.length c0_3, .slice A0_4 l0_4.length c0_4] 28 (0, 0)) (by (with_reducible repeat (first | refine zq6 ?_ _ | refine zq8 ?_ | refine zq7 ?_ _)); exact BK671.out) hb); have n1_ := Az.mk (blk_below (g := gb672) (o := .cells #[.bool a1_0, .int .i64 a1_1, .string a1_2] 54 (0, 0)) (by (with_reducible repeat (first | refine zq6 ?_ _ | refine zq8 ?_ | refine zq7 ?_ _)); exact BK672.out) hb); have n2_ := Az.mk (blk_below (g := gb673) (o := .cells #[.int .i64 0, .slice none 0 0, .slice none 0 0, .slice none 0 0, .slice none 0 0] 28 (0, 0)) (by (with_reducible repeat (first | refine zq6 ?_ _ | refine zq8 ?_ | refine zq7 ?_ _)); exact BK673.out) hb); have n3_ := Az.mk (below_step (by repeat (first | (with_reducible first | exact HB.out | apply zq2 | apply zq1 | apply below_drew1 | refine zq3 ?_ GE671.out | refine zq3 ?_ GE672.out | refine zq3 ?_ GE673.out) | exact HB.out)) hb); clear BK671; clear BK672; clear BK673; clear HB; have BK671 := n0_; have BK672 := n1_; have BK673 := n2_; have HB := n3_; clear n0_ n1_ n2_ n3_; (try clear hb); (try clear hb2); (try clear hk); (try clear hi)))
      go_meet
      case rel => exact ⟨_, (true), (by first | rfl | (simp; done) | (simp [*]; done)), H', ⟨by first | omega | exact Nat.le_refl _⟩, ⟨by (with_reducible repeat (first | refine zq6 ?_ _ | refine zq8 ?_ | refine zq7 ?_ _)); exact BK671.out⟩, ⟨by (with_reducible repeat (first | refine zq6 ?_ _ | refine zq8 ?_ | refine zq7 ?_ _)); exact BK672.out⟩, ⟨by (with_reducible repeat (first | refine zq6 ?_ _ | refine zq8 ?_ | refine zq7 ?_ _)); exact BK673.out⟩, ⟨by repeat (first | (with_reducible first | exact HB.out | apply zq2 | apply zq1 | apply below_drew1 | refine zq3 ?_ GE671.out | refine zq3 ?_ GE672.out | refine zq3 ?_ GE673.out) | exact HB.out)⟩⟩
  case rest =>
    clear HC3
    try clear c1
    try clear c2
    try clear p2
    try clear c3
    try clear c8
    try clear c10
    try clear c11
    try clear c14
    try clear c17
    try clear c18
    try clear hcz12_0
    try clear hcz12_1
    try clear hcz12_2
    try clear hcz12_3
    try clear hcz12_4
    try clear hcz15_0
    try clear hcz15_1
    try clear hcz15_2
    try clear hcz19_0
    try clear hcz19_1
    try clear hcz19_2
    try clear hcz19_3
    try clear hcz19_4
    try clear hfz12_0
    try clear hfz12_1
    try clear hfz12_2
    try clear hfz12_3
    try clear hfz12_4
    try clear hfz15_0
    try clear hfz15_1
    try clear hfz15_2
    try clear hfz19_0
    try clear hfz19_1
    try clear hfz19_2
    try clear hfz19_3
    try clear hfz19_4
    obtain ⟨kq, x12_2, rfl, HA, HJ2, BK671, BK672, BK673, HB⟩ := hcut
    cases kq with
    | zero => exact absurd HA.out (by simp [spec_DiskPut.j0])
    | succ kj2 =>
      have H := HA.out
      clear HA
      simp only [spec_DiskPut.j0] at H
      by_cases c21 : x12_2 = true
      · subst c21
        have H1 : (some (0, ([] : List ByteArray), ([] : List ByteArray), ([] : List Bool), ([] : List (S54)))) = some (r1, r2, r3, r4, r5) := by rw [if_pos rfl] at H; exact H
        clear H
        have H := H1
        clear H1
        simp only [Option.some.injEq, Prod.mk.injEq] at H
        obtain ⟨rfl, rfl, rfl, rfl, rfl⟩ := H
        have hnb22 := NB673_671.out
        have hnc22 := NB671_673.out
        have hnb23 := NB673_672.out
        have hnc23 := NB672_673.out
        have hcz24_0 : wc.cell? ⟨gb673, 0, none⟩ = some (.int .i64 0) := (zq4 BK673.out 0).trans rfl
        have hcz24_1 : wc.cell? ⟨gb673, 1, none⟩ = some (.slice none 0 0) := (zq4 BK673.out 1).trans rfl
        have hcz24_2 : wc.cell? ⟨gb673, 2, none⟩ = some (.slice none 0 0) := (zq4 BK673.out 2).trans rfl
        have hcz24_3 : wc.cell? ⟨gb673, 3, none⟩ = some (.slice none 0 0) := (zq4 BK673.out 3).trans rfl
        have hcz24_4 : wc.cell? ⟨gb673, 4, none⟩ = some (.slice none 0 0) := (zq4 BK673.out 4).trans rfl
        have hfz24_0 := zq5 BK673.out 0
        have hfz24_1 := zq5 BK673.out 1
        have hfz24_2 := zq5 BK673.out 2
        have hfz24_3 := zq5 BK673.out 3
        have hfz24_4 := zq5 BK673.out 4
        go_wp2
        refine bodyPost_ret (results_cell_row rfl _ _ gb673 28 #[.int .i64 0, .slice none 0 0, .slice none 0 0, .slice none 0 0, .slice none 0 0] (0, 0) _ rfl (by (with_reducible repeat (first | refine zq6 ?_ _ | refine zq8 ?_ | refine zq7 ?_ _)); refine blk_put (cs := #[.int .i64 0, .slice none 0 0, .slice none 0 0, .slice none 0 0, .slice none 0 0]) ?_ 4 _ rfl; (with_reducible repeat (first | refine zq6 ?_ _ | refine zq8 ?_ | refine zq7 ?_ _)); refine blk_put (cs := #[.int .i64 0, .slice none 0 0, .slice none 0 0, .slice none 0 0, .slice none 0 0]) ?_ 3 _ rfl; (with_reducible repeat (first | refine zq6 ?_ _ | refine zq8 ?_ | refine zq7 ?_ _)); refine blk_put (cs := #[.int .i64 0, .slice none 0 0, .slice none 0 0, .slice none 0 0, .slice none 0 0]) ?_ 2 _ rfl; (with_reducible repeat (first | refine zq6 ?_ _ | refine zq8 ?_ | refine zq7 ?_ _)); refine blk_put (cs := #[.int .i64 0, .slice none 0 0, .slice none 0 0, .slice none 0 0, .slice none 0 0]) ?_ 1 _ rfl; (with_reducible repeat (first | refine zq6 ?_ _ | refine zq8 ?_ | refine zq7 ?_ _)); refine blk_put (cs := #[.int .i64 0, .slice none 0 0, .slice none 0 0, .slice none 0 0, .slice none 0 0]) ?_ 0 _ rfl; (with_reducible repeat (first | refine zq6 ?_ _ | refine zq8 ?_ | refine zq7 ?_ _)); exact BK673.out) Try.underlying28 rfl (by kernel_rfl)) rfl ?_
        exact ⟨_, _, _, _, by first | rfl | (simp [errW_none, errW_some] <;> rfl) | (simp [*, errW_none, errW_some] <;> rfl), by first | exact Kd.R_nil _ _ _ _ _ | exact Kd.N_nil _ _ _ _ _ | exact Kd.V_nil _ _ _ _ _ | exact Kd.Q_nil _ _ _ _ _ | exact Kd.S_nil _ _ _ _ _, by first | exact Kd.R_nil _ _ _ _ _ | exact Kd.N_nil _ _ _ _ _ | exact Kd.V_nil _ _ _ _ _ | exact Kd.Q_nil _ _ _ _ _ | exact Kd.S_nil _ _ _ _ _, by first | exact Kd.R_nil _ _ _ _ _ | exact Kd.N_nil _ _ _ _ _ | exact Kd.V_nil _ _ _ _ _ | exact Kd.Q_nil _ _ _ _ _ | exact Kd.S_nil _ _ _ _ _, by first | exact Kd.R_nil _ _ _ _ _ | exact Kd.N_nil _ _ _ _ _ | exact Kd.V_nil _ _ _ _ _ | exact Kd.Q_nil _ _ _ _ _ | exact Kd.S_nil _ _ _ _ _, by repeat (first | (with_reducible first | exact HB.out | apply zq2 | apply zq1 | apply below_drew1 | refine zq3 ?_ GE671.out | refine zq3 ?_ GE672.out | refine zq3 ?_ GE673.out) | exact HB.out)⟩
      · replace c21 := Bool.eq_false_iff.mpr c21
        subst c21
        have H1 : ((spec_l3Copy.f a0_0 l0_1 l0_2 l0_3 l0_4).bind fun bt676 => ((spec_l3Write.f kj2 bt676.1 bt676.2.1 bt676.2.2.1 bt676.2.2.2.1 bt676.2.2.2.2 a1_0 a1_1 a1_2).bind fun bt689 => (some (bt689.1, bt689.2.1, bt689.2.2.1, bt689.2.2.2.1, bt689.2.2.2.2)))) = some (r1, r2, r3, r4, r5) := by rw [if_neg (show ¬ (false = true) by decide)] at H; exact H
        clear H
        have H := H1
        clear H1
        replace H := Option.bind_eq_some_iff.mp H
        obtain ⟨⟨t676, t677, t680, t683, t686⟩, A250, H⟩ := H
        replace H : ((spec_l3Write.f kj2 t676 t677 t680 t683 t686 a1_0 a1_1 a1_2).bind fun bt689 => (some (bt689.1, bt689.2.1, bt689.2.2.1, bt689.2.2.2.1, bt689.2.2.2.2))) = some (r1, r2, r3, r4, r5) := H
        have A25 := Az.mk A250
        clear A250
        replace H := Option.bind_eq_some_iff.mp H
        obtain ⟨⟨t689, t690, t693, t696, t699⟩, A260, H⟩ := H
        replace H : (some (t689, t690, t693, t696, t699)) = some (r1, r2, r3, r4, r5) := H
        have A26 := Az.mk A260
        clear A260
        simp only [Option.some.injEq, Prod.mk.injEq] at H
        obtain ⟨rfl, rfl, rfl, rfl, rfl⟩ := H
        try go_wp2
        have n0_ := Az.mk (zq8 BK671.out)
        have n1_ := Az.mk (zq8 BK672.out)
        have n2_ := Az.mk (zq8 BK673.out)
        have n3_ := Az.mk (below_drew1 HB.out)
        clear BK671
        clear BK672
        clear BK673
        clear HB
        have BK671 := n0_
        have BK672 := n1_
        have BK673 := n2_
        have HB := n3_
        clear n0_ n1_ n2_ n3_
        refine start_ (n := 5) (S := fun w' => w'.cell? ⟨gb671, 0, none⟩ = some (.int .i64 a0_0) ∧ w'.cell? ⟨gb671, 1, none⟩ = some (.slice A0_1 l0_1.length c0_1) ∧ w'.cell? ⟨gb671, 2, none⟩ = some (.slice A0_2 l0_2.length c0_2) ∧ w'.cell? ⟨gb671, 3, none⟩ = some (.slice A0_3 l0_3.length c0_3) ∧ w'.cell? ⟨gb671, 4, none⟩ = some (.slice A0_4 l0_4.length c0_4) ∧ w'.cell? ⟨gb672, 0, none⟩ = some (.bool a1_0) ∧ w'.cell? ⟨gb672, 1, none⟩ = some (.int .i64 a1_1) ∧ w'.cell? ⟨gb672, 2, none⟩ = some (.string a1_2)) (ds := []) #[false, false, false, false, false] (by kernel_rfl) rfl rfl ⟨(zq4 BK671.out 0).trans rfl, (zq4 BK671.out 1).trans rfl, (zq4 BK671.out 2).trans rfl, (zq4 BK671.out 3).trans rfl, (zq4 BK671.out 4).trans rfl, (zq4 BK672.out 0).trans rfl, (zq4 BK672.out 1).trans rfl, (zq4 BK672.out 2).trans rfl⟩ (fun hHeld => ?_)
        generalize wc.drew = w27 at BK671 BK672 BK673 HB hHeld ⊢
        refine zqt (i := 0) (N := some 14) (v := ?_) (a' := ?_) #[true, false, false, false, false] rfl rfl (by kernel_rfl) (fun _ _ _ h => h) (Or.inl ⟨by rfl, ?_⟩) hHeld ?_ ?_
        rotate_left
        · rintro w' ⟨s0, s1, s2, s3, s4, s5, s6, s7⟩
          go_simp
          with_reducible rfl
        rotate_left
        · simp only [Act.put, List.setIfInBounds_toArray, List.set_cons_zero, List.set_cons_succ, i64_w, i32_w]
          rfl
        refine zqt (i := 2) (N := some 16) (v := ?_) (a' := ?_) #[true, false, true, false, false] rfl rfl (by kernel_rfl) (fun _ _ _ h => h) (Or.inl ⟨by rfl, ?_⟩) hHeld ?_ ?_
        rotate_left
        · rintro w' ⟨s0, s1, s2, s3, s4, s5, s6, s7⟩
          go_simp
          with_reducible rfl
        rotate_left
        · simp only [Act.put, List.setIfInBounds_toArray, List.set_cons_zero, List.set_cons_succ, i64_w, i32_w]
          rfl
        refine one_ (i := 1) (N := some 15) #[true, true, true, false, false] rfl rfl (by kernel_rfl) (by decide) (fun K hK => ?_)
        refine goes_ Try.func80 (by kernel_rfl) rfl #[.agg #[.int .i64 a0_0, .slice A0_1 l0_1.length c0_1, .slice A0_2 l0_2.length c0_2, .slice A0_3 l0_3.length c0_3, .slice A0_4 l0_4.length c0_4]] (by rfl) rfl rfl (by (try simp only [List.map_toArray, List.map_cons, List.map_nil]); first | done | rfl | (simp only [List.length_drop, List.length_take]; rfl)) ?_
        with_reducible refine (spec_l3Copy.calls a0_0 _ _ l0_1 _ _ l0_2 _ _ l0_3 _ _ l0_4 t676 t677 t680 t683 t686 _ ?side1 ?side2 ?side3 ?side4 ?side5 ?side6 ?side7 ?side8 A25.out).mono ?_
        (case side1 => repeat (first | exact (Kd.C_below HR0_1.out HB.out) | (with_reducible refine Kd.C_alloc ?_ _) | (with_reducible refine Kd.C_drewN ?_ _) | (with_reducible refine Kd.C_drew ?_)))
        (case side2 => exact HC0_1.out)
        (case side3 => repeat (first | exact (Kd.C_below HR0_2.out HB.out) | (with_reducible refine Kd.C_alloc ?_ _) | (with_reducible refine Kd.C_drewN ?_ _) | (with_reducible refine Kd.C_drew ?_)))
        (case side4 => exact HC0_2.out)
        (case side5 => repeat (first | exact (Kd.C_below HR0_3.out HB.out) | (with_reducible refine Kd.C_alloc ?_ _) | (with_reducible refine Kd.C_drewN ?_ _) | (with_reducible refine Kd.C_drew ?_)))
        (case side6 => exact HC0_3.out)
        (case side7 => repeat (first | exact (Kd.C_below HR0_4.out HB.out) | (with_reducible refine Kd.C_alloc ?_ _) | (with_reducible refine Kd.C_drewN ?_ _) | (with_reducible refine Kd.C_drew ?_)))
        (case side8 => exact HC0_4.out)
        rintro e w28 ⟨v678, v681, v684, v687, rfl, ho0, ho1, ho2, ho3, hb⟩
        refine ⟨_, rfl, ?_⟩
        have n0_ := Az.mk (Kd.R_lower ho0 (below_size (by repeat (first | (with_reducible first | exact HB.out | apply zq2 | apply zq1 | apply below_drew1 | refine zq3 ?_ GE671.out | refine zq3 ?_ GE672.out | refine zq3 ?_ GE673.out) | exact HB.out))))
        have n1_ := Az.mk (Kd.R_lower ho1 (below_size (by repeat (first | (with_reducible first | exact HB.out | apply zq2 | apply zq1 | apply below_drew1 | refine zq3 ?_ GE671.out | refine zq3 ?_ GE672.out | refine zq3 ?_ GE673.out) | exact HB.out))))
        have n2_ := Az.mk (Kd.R_lower ho2 (below_size (by repeat (first | (with_reducible first | exact HB.out | apply zq2 | apply zq1 | apply below_drew1 | refine zq3 ?_ GE671.out | refine zq3 ?_ GE672.out | refine zq3 ?_ GE673.out) | exact HB.out))))
        have n3_ := Az.mk (Kd.R_lower (Kd.R_newB ho3 (g := gb672) (o := .cells #[.bool a1_0, .int .i64 a1_1, .string a1_2] 54 (0, 0)) (by (with_reducible repeat (first | refine zq6 ?_ _ | refine zq8 ?_ | refine zq7 ?_ _)); exact BK672.out)) (below_size (by repeat (first | (with_reducible first | exact HB.out | apply zq2 | apply zq1 | apply below_drew1 | refine zq3 ?_ GE671.out | refine zq3 ?_ GE672.out | refine zq3 ?_ GE673.out) | exact HB.out))))
        have n4_ := Az.mk (blk_below (g := gb671) (o := .cells #[.int .i64 a0_0, .slice A0_1 l0_1.length c0_1, .slice A0_2 l0_2.length c0_2, .slice A0_3 l0_3.length c0_3, .slice A0_4 l0_4.length c0_4] 28 (0, 0)) (by (with_reducible repeat (first | refine zq6 ?_ _ | refine zq8 ?_ | refine zq7 ?_ _)); exact BK671.out) hb)
        have n5_ := Az.mk (blk_below (g := gb672) (o := .cells #[.bool a1_0, .int .i64 a1_1, .string a1_2] 54 (0, 0)) (by (with_reducible repeat (first | refine zq6 ?_ _ | refine zq8 ?_ | refine zq7 ?_ _)); exact BK672.out) hb)
        have n6_ := Az.mk (blk_below (g := gb673) (o := .cells #[.int .i64 0, .slice none 0 0, .slice none 0 0, .slice none 0 0, .slice none 0 0] 28 (0, 0)) (by (with_reducible repeat (first | refine zq6 ?_ _ | refine zq8 ?_ | refine zq7 ?_ _)); exact BK673.out) hb)
        have n7_ := Az.mk (below_step (by repeat (first | (with_reducible first | exact HB.out | apply zq2 | apply zq1 | apply below_drew1 | refine zq3 ?_ GE671.out | refine zq3 ?_ GE672.out | refine zq3 ?_ GE673.out) | exact HB.out)) hb)
        clear BK671
        clear BK672
        clear BK673
        clear HB
        have HO679 := n0_
        have HO682 := n1_
        have HO685 := n2_
        have HO688 := n3_
        have BK671 := n4_
        have BK672 := n5_
        have BK673 := n6_
        have HB := n7_
        clear n0_ n1_ n2_ n3_ n4_ n5_ n6_ n7_
        (try clear hb)
        (try clear hb2)
        (try clear hk)
        (try clear hi)
        (try clear ho0)
        (try clear ho1)
        (try clear ho2)
        (try clear ho3)
        obtain ⟨Ao29, co29, eo29⟩ := Kd.R_slice HO679.out
        (first | subst eo29 | (injection eo29 with f1_ f2_ f3_; have f4_ := f1_.symm; have f5_ := f3_.symm; clear f1_ f2_ f3_; subst f4_; subst f5_))
        obtain ⟨Ao30, co30, eo30⟩ := Kd.R_slice HO682.out
        (first | subst eo30 | (injection eo30 with f1_ f2_ f3_; have f4_ := f1_.symm; have f5_ := f3_.symm; clear f1_ f2_ f3_; subst f4_; subst f5_))
        obtain ⟨Ao31, co31, eo31⟩ := Kd.R_slice HO685.out
        (first | subst eo31 | (injection eo31 with f1_ f2_ f3_; have f4_ := f1_.symm; have f5_ := f3_.symm; clear f1_ f2_ f3_; subst f4_; subst f5_))
        obtain ⟨Ao32, co32, eo32⟩ := Kd.R_slice HO688.out
        (first | subst eo32 | (injection eo32 with f1_ f2_ f3_; have f4_ := f1_.symm; have f5_ := f3_.symm; clear f1_ f2_ f3_; subst f4_; subst f5_))
        refine hK.out _ _ ⟨(zq4 BK671.out 0).trans rfl, (zq4 BK671.out 1).trans rfl, (zq4 BK671.out 2).trans rfl, (zq4 BK671.out 3).trans rfl, (zq4 BK671.out 4).trans rfl, (zq4 BK672.out 0).trans rfl, (zq4 BK672.out 1).trans rfl, (zq4 BK672.out 2).trans rfl⟩ (fun hHeld => ?_)
        clear hK K
        refine norm_ (a' := ?_) ?_ ?_
        rotate_left
        · show Act.put _ (some 15) _ = _
          simp only [Act.put, List.setIfInBounds_toArray, List.set_cons_zero, List.set_cons_succ, i64_w, i32_w]
          rfl
        refine one_ (i := 3) (N := some 17) #[true, true, true, true, false] rfl rfl (by kernel_rfl) (by decide) (fun K hK => ?_)
        refine goes_ Try.func85 (by kernel_rfl) rfl #[.agg #[.int .i64 t676, .slice Ao29 t677.length co29, .slice Ao30 t680.length co30, .slice Ao31 t683.length co31, .slice Ao32 t686.length co32], .agg #[.bool a1_0, .int .i64 a1_1, .string a1_2]] (by rfl) rfl rfl (by (try simp only [List.map_toArray, List.map_cons, List.map_nil]); first | done | rfl | (simp only [List.length_drop, List.length_take]; rfl)) ?_
        with_reducible refine (spec_l3Write.calls kj2 t676 (fun k_ => some k_ = (.slice Ao29 t677.length co29 : Value).ownBlock) (.slice Ao29 t677.length co29) t677 (fun k_ => some k_ = (.slice Ao30 t680.length co30 : Value).ownBlock) (.slice Ao30 t680.length co30) t680 (fun k_ => some k_ = (.slice Ao31 t683.length co31 : Value).ownBlock) (.slice Ao31 t683.length co31) t683 (fun k_ => some k_ = (.slice Ao32 t686.length co32 : Value).ownBlock) (.slice Ao32 t686.length co32) t686 a1_0 a1_1 a1_2 t689 t690 t693 t696 t699 w _ ?side1 ?side2 ?side3 ?side4 ?side5 ?side6 ?side7 A26.out).mono ?_
        (case side1 => repeat (first | (with_reducible first | exact HB.out | apply zq2 | apply zq1 | apply below_drew1 | refine zq3 ?_ GE671.out | refine zq3 ?_ GE672.out | refine zq3 ?_ GE673.out) | exact HB.out))
        (case side2 => exact Kd.R_tight rfl HO679.out)
        (case side3 => exact fun k_ e_ => (HO679.out.1 k_ e_.symm))
        (case side4 => exact Kd.R_tight rfl HO682.out)
        (case side5 => exact fun k_ e_ => (HO682.out.1 k_ e_.symm))
        (case side6 => exact Kd.R_tight rfl HO685.out)
        (case side7 => exact Kd.R_tight rfl HO688.out)
        rintro e w33 ⟨v691, v694, v697, v700, rfl, ho0, ho1, ho2, ho3, hb, hkp⟩
        refine ⟨_, rfl, ?_⟩
        have n0_ := Az.mk (blk_kept (by (with_reducible repeat (first | refine zq6 ?_ _ | refine zq8 ?_ | refine zq7 ?_ _)); exact BK671.out) hkp (fun hs_ => Or.elim hs_ (fun e_ => (fun e_ => (Kd.R_ne HO679.out BK671.out (by decide)) e_) e_) (fun e_ => Or.elim e_ (fun e_ => (fun e_ => (Kd.R_ne HO682.out BK671.out (by decide)) e_) e_) (fun e_ => Or.elim e_ (fun e_ => (fun e_ => (Kd.R_ne HO685.out BK671.out (by decide)) e_) e_) (fun e_ => (fun e_ => (Kd.R_ne HO688.out BK671.out (by decide)) e_) e_)))))
        have n1_ := Az.mk (blk_kept (by (with_reducible repeat (first | refine zq6 ?_ _ | refine zq8 ?_ | refine zq7 ?_ _)); exact BK672.out) hkp (fun hs_ => Or.elim hs_ (fun e_ => (fun e_ => (Kd.R_ne HO679.out BK672.out (by decide)) e_) e_) (fun e_ => Or.elim e_ (fun e_ => (fun e_ => (Kd.R_ne HO682.out BK672.out (by decide)) e_) e_) (fun e_ => Or.elim e_ (fun e_ => (fun e_ => (Kd.R_ne HO685.out BK672.out (by decide)) e_) e_) (fun e_ => (fun e_ => (Kd.R_away HO688.out (fun _ hk => hk.2)) e_) e_)))))
        have n2_ := Az.mk (blk_kept (by (with_reducible repeat (first | refine zq6 ?_ _ | refine zq8 ?_ | refine zq7 ?_ _)); exact BK673.out) hkp (fun hs_ => Or.elim hs_ (fun e_ => (fun e_ => (Kd.R_ne HO679.out BK673.out (by decide)) e_) e_) (fun e_ => Or.elim e_ (fun e_ => (fun e_ => (Kd.R_ne HO682.out BK673.out (by decide)) e_) e_) (fun e_ => Or.elim e_ (fun e_ => (fun e_ => (Kd.R_ne HO685.out BK673.out (by decide)) e_) e_) (fun e_ => (fun e_ => (Kd.R_ne HO688.out BK673.out (by decide)) e_) e_)))))
        have n3_ := Az.mk (Kd.R_mono (ok' := fun k_ => some k_ ≠ (v694 : Value).ownBlock) ho0 (fun k_ hk_ => hk_.2))
        have n4_ := Az.mk (Kd.R_mono (ok' := fun k_ => some k_ ≠ (v691 : Value).ownBlock) ho1 (fun k_ hk_ => hk_.2))
        have n5_ := Az.mk (Kd.R_mono (ok' := fun k_ => True) ho2 (fun k_ hk_ => trivial))
        have n6_ := Az.mk (Kd.R_mono (ok' := fun k_ => k_ ≠ gb672) ho3 (fun k_ hk_ => Or.elim hk_ (fun hs_ => Or.elim hs_ (fun hs_ => fun e_ => (Kd.R_ne HO679.out BK672.out (by decide)) (by rw [← e_]; exact hs_)) (fun hs_ => Or.elim hs_ (fun hs_ => fun e_ => (Kd.R_ne HO682.out BK672.out (by decide)) (by rw [← e_]; exact hs_)) (fun hs_ => Or.elim hs_ (fun hs_ => fun e_ => (Kd.R_ne HO685.out BK672.out (by decide)) (by rw [← e_]; exact hs_)) (fun hs_ => fun e_ => (Kd.R_away HO688.out (fun _ hk => hk.2)) (by rw [← e_]; exact hs_))))) (fun hn_ => (Kd.freshB (g := gb672) (o := .cells #[.bool a1_0, .int .i64 a1_1, .string a1_2] 54 (0, 0)) (by (with_reducible repeat (first | refine zq6 ?_ _ | refine zq8 ?_ | refine zq7 ?_ _)); exact BK672.out) k_ hn_))))
        have n7_ := Az.mk (hb)
        clear BK671
        clear BK672
        clear BK673
        clear HB
        clear HO679
        clear HO682
        clear HO685
        clear HO688
        have BK671 := n0_
        have BK672 := n1_
        have BK673 := n2_
        have HO692 := n3_
        have HO695 := n4_
        have HO698 := n5_
        have HO701 := n6_
        have HB := n7_
        clear n0_ n1_ n2_ n3_ n4_ n5_ n6_ n7_
        (try clear hb)
        (try clear hkp)
        (try clear ho0)
        (try clear ho1)
        (try clear ho2)
        (try clear ho3)
        obtain ⟨Ao35, co35, eo35⟩ := Kd.R_slice HO692.out
        (first | subst eo35 | (injection eo35 with f1_ f2_ f3_; have f4_ := f1_.symm; have f5_ := f3_.symm; clear f1_ f2_ f3_; subst f4_; subst f5_))
        obtain ⟨Ao37, co37, eo37⟩ := Kd.R_slice HO695.out
        (first | subst eo37 | (injection eo37 with f1_ f2_ f3_; have f4_ := f1_.symm; have f5_ := f3_.symm; clear f1_ f2_ f3_; subst f4_; subst f5_))
        obtain ⟨Ao39, co39, eo39⟩ := Kd.R_slice HO698.out
        (first | subst eo39 | (injection eo39 with f1_ f2_ f3_; have f4_ := f1_.symm; have f5_ := f3_.symm; clear f1_ f2_ f3_; subst f4_; subst f5_))
        obtain ⟨Ao41, co41, eo41⟩ := Kd.R_slice HO701.out
        (first | subst eo41 | (injection eo41 with f1_ f2_ f3_; have f4_ := f1_.symm; have f5_ := f3_.symm; clear f1_ f2_ f3_; subst f4_; subst f5_))
        refine hK.out _ _ ⟨(zq4 BK671.out 0).trans rfl, (zq4 BK671.out 1).trans rfl, (zq4 BK671.out 2).trans rfl, (zq4 BK671.out 3).trans rfl, (zq4 BK671.out 4).trans rfl, (zq4 BK672.out 0).trans rfl, (zq4 BK672.out 1).trans rfl, (zq4 BK672.out 2).trans rfl⟩ (fun hHeld => ?_)
        clear hK K
        refine norm_ (a' := ?_) ?_ ?_
        rotate_left
        · show Act.put _ (some 17) _ = _
          simp only [Act.put, List.setIfInBounds_toArray, List.set_cons_zero, List.set_cons_succ, i64_w, i32_w]
          rfl
        refine one_ (i := 4) (N := none) #[true, true, true, true, true] rfl rfl (by kernel_rfl) (by decide) (fun K hK => ?_)
        have hs34 : w33.cell? ⟨gb673, 0, none⟩ = some (.int .i64 0) := (zq4 BK673.out 0).trans rfl
        have hfs34 := zq5 BK673.out 0
        have hns34_0 := NB671_673.out
        have hns34_1 := NB672_673.out
        have hms34_0 := NB673_671.out
        have hms34_1 := NB673_672.out
        have hs36 : w33.cell? ⟨gb673, 1, none⟩ = some (.slice none 0 0) := (zq4 BK673.out 1).trans rfl
        have hfs36 := zq5 BK673.out 1
        have hns36_0 := NB671_673.out
        have hns36_1 := NB672_673.out
        have hms36_0 := NB673_671.out
        have hms36_1 := NB673_672.out
        have hs38 : w33.cell? ⟨gb673, 2, none⟩ = some (.slice none 0 0) := (zq4 BK673.out 2).trans rfl
        have hfs38 := zq5 BK673.out 2
        have hns38_0 := NB671_673.out
        have hns38_1 := NB672_673.out
        have hms38_0 := NB673_671.out
        have hms38_1 := NB673_672.out
        have hs40 : w33.cell? ⟨gb673, 3, none⟩ = some (.slice none 0 0) := (zq4 BK673.out 3).trans rfl
        have hfs40 := zq5 BK673.out 3
        have hns40_0 := NB671_673.out
        have hns40_1 := NB672_673.out
        have hms40_0 := NB673_671.out
        have hms40_1 := NB673_672.out
        have hs42 : w33.cell? ⟨gb673, 4, none⟩ = some (.slice none 0 0) := (zq4 BK673.out 4).trans rfl
        have hfs42 := zq5 BK673.out 4
        have hns42_0 := NB671_673.out
        have hns42_1 := NB672_673.out
        have hms42_0 := NB673_671.out
        have hms42_1 := NB673_672.out
        refine skip_ (w1 := ?_) (by rfl) rfl ?_ ?_
        rotate_left
        · go_simp
          rfl
        refine hK.out _ _ ⟨((cell_far (p := ⟨gb673, _, none⟩) NB671_673.out _).trans (((cell_far (p := ⟨gb673, _, none⟩) NB671_673.out _).trans (((cell_far (p := ⟨gb673, _, none⟩) NB671_673.out _).trans (((cell_far (p := ⟨gb673, _, none⟩) NB671_673.out _).trans (((cell_far (p := ⟨gb673, _, none⟩) NB671_673.out _).trans (hHeld.1)))))))))), ((cell_far (p := ⟨gb673, _, none⟩) NB671_673.out _).trans (((cell_far (p := ⟨gb673, _, none⟩) NB671_673.out _).trans (((cell_far (p := ⟨gb673, _, none⟩) NB671_673.out _).trans (((cell_far (p := ⟨gb673, _, none⟩) NB671_673.out _).trans (((cell_far (p := ⟨gb673, _, none⟩) NB671_673.out _).trans (hHeld.2.1)))))))))), ((cell_far (p := ⟨gb673, _, none⟩) NB671_673.out _).trans (((cell_far (p := ⟨gb673, _, none⟩) NB671_673.out _).trans (((cell_far (p := ⟨gb673, _, none⟩) NB671_673.out _).trans (((cell_far (p := ⟨gb673, _, none⟩) NB671_673.out _).trans (((cell_far (p := ⟨gb673, _, none⟩) NB671_673.out _).trans (hHeld.2.2.1)))))))))), ((cell_far (p := ⟨gb673, _, none⟩) NB671_673.out _).trans (((cell_far (p := ⟨gb673, _, none⟩) NB671_673.out _).trans (((cell_far (p := ⟨gb673, _, none⟩) NB671_673.out _).trans (((cell_far (p := ⟨gb673, _, none⟩) NB671_673.out _).trans (((cell_far (p := ⟨gb673, _, none⟩) NB671_673.out _).trans (hHeld.2.2.2.1)))))))))), ((cell_far (p := ⟨gb673, _, none⟩) NB671_673.out _).trans (((cell_far (p := ⟨gb673, _, none⟩) NB671_673.out _).trans (((cell_far (p := ⟨gb673, _, none⟩) NB671_673.out _).trans (((cell_far (p := ⟨gb673, _, none⟩) NB671_673.out _).trans (((cell_far (p := ⟨gb673, _, none⟩) NB671_673.out _).trans (hHeld.2.2.2.2.1)))))))))), ((cell_far (p := ⟨gb673, _, none⟩) NB672_673.out _).trans (((cell_far (p := ⟨gb673, _, none⟩) NB672_673.out _).trans (((cell_far (p := ⟨gb673, _, none⟩) NB672_673.out _).trans (((cell_far (p := ⟨gb673, _, none⟩) NB672_673.out _).trans (((cell_far (p := ⟨gb673, _, none⟩) NB672_673.out _).trans (hHeld.2.2.2.2.2.1)))))))))), ((cell_far (p := ⟨gb673, _, none⟩) NB672_673.out _).trans (((cell_far (p := ⟨gb673, _, none⟩) NB672_673.out _).trans (((cell_far (p := ⟨gb673, _, none⟩) NB672_673.out _).trans (((cell_far (p := ⟨gb673, _, none⟩) NB672_673.out _).trans (((cell_far (p := ⟨gb673, _, none⟩) NB672_673.out _).trans (hHeld.2.2.2.2.2.2.1)))))))))), ((cell_far (p := ⟨gb673, _, none⟩) NB672_673.out _).trans (((cell_far (p := ⟨gb673, _, none⟩) NB672_673.out _).trans (((cell_far (p := ⟨gb673, _, none⟩) NB672_673.out _).trans (((cell_far (p := ⟨gb673, _, none⟩) NB672_673.out _).trans (((cell_far (p := ⟨gb673, _, none⟩) NB672_673.out _).trans (hHeld.2.2.2.2.2.2.2))))))))))⟩ (fun hHeld => ?_)
        clear hK K
        refine done_ (by kernel_rfl) ?_
        try go_wp2
        refine bodyPost_ret (results_cell_row rfl _ _ gb673 28 #[.int .i64 t689, .slice Ao35 t690.length co35, .slice Ao37 t693.length co37, .slice Ao39 t696.length co39, .slice Ao41 t699.length co41] (0, 0) _ rfl (by (with_reducible repeat (first | refine zq6 ?_ _ | refine zq8 ?_ | refine zq7 ?_ _)); refine blk_put (cs := #[.int .i64 t689, .slice Ao35 t690.length co35, .slice Ao37 t693.length co37, .slice Ao39 t696.length co39, .slice none 0 0]) ?_ 4 _ rfl; (with_reducible repeat (first | refine zq6 ?_ _ | refine zq8 ?_ | refine zq7 ?_ _)); refine blk_put (cs := #[.int .i64 t689, .slice Ao35 t690.length co35, .slice Ao37 t693.length co37, .slice none 0 0, .slice none 0 0]) ?_ 3 _ rfl; (with_reducible repeat (first | refine zq6 ?_ _ | refine zq8 ?_ | refine zq7 ?_ _)); refine blk_put (cs := #[.int .i64 t689, .slice Ao35 t690.length co35, .slice none 0 0, .slice none 0 0, .slice none 0 0]) ?_ 2 _ rfl; (with_reducible repeat (first | refine zq6 ?_ _ | refine zq8 ?_ | refine zq7 ?_ _)); refine blk_put (cs := #[.int .i64 t689, .slice none 0 0, .slice none 0 0, .slice none 0 0, .slice none 0 0]) ?_ 1 _ rfl; (with_reducible repeat (first | refine zq6 ?_ _ | refine zq8 ?_ | refine zq7 ?_ _)); refine blk_put (cs := #[.int .i64 0, .slice none 0 0, .slice none 0 0, .slice none 0 0, .slice none 0 0]) ?_ 0 _ rfl; (with_reducible repeat (first | refine zq6 ?_ _ | refine zq8 ?_ | refine zq7 ?_ _)); exact BK673.out) Try.underlying28 rfl (by kernel_rfl)) rfl ?_
        exact ⟨_, _, _, _, by first | rfl | (simp [errW_none, errW_some] <;> rfl) | (simp [*, errW_none, errW_some] <;> rfl), by (with_reducible repeat (first | apply Kd.R_alloc | apply Kd.R_drewN | apply Kd.R_drew)); exact Kd.R_mono (Kd.R_far (p := ⟨gb673, 4, none⟩) (Kd.R_far (p := ⟨gb673, 3, none⟩) (Kd.R_far (p := ⟨gb673, 2, none⟩) (Kd.R_far (p := ⟨gb673, 1, none⟩) (Kd.R_far (p := ⟨gb673, 0, none⟩) (Kd.R_types HO692.out BK673.out (by decide)) (fun _ hk => hk.2) (.int .i64 t689)) (fun _ hk => hk.2) (.slice Ao35 t690.length co35)) (fun _ hk => hk.2) (.slice Ao37 t693.length co37)) (fun _ hk => hk.2) (.slice Ao39 t696.length co39)) (fun _ hk => hk.2) (.slice Ao41 t699.length co41)) (fun _ hk => hk.1), by (with_reducible repeat (first | apply Kd.R_alloc | apply Kd.R_drewN | apply Kd.R_drew)); exact Kd.R_mono (Kd.R_far (p := ⟨gb673, 4, none⟩) (Kd.R_far (p := ⟨gb673, 3, none⟩) (Kd.R_far (p := ⟨gb673, 2, none⟩) (Kd.R_far (p := ⟨gb673, 1, none⟩) (Kd.R_far (p := ⟨gb673, 0, none⟩) (Kd.R_types HO695.out BK673.out (by decide)) (fun _ hk => hk.2) (.int .i64 t689)) (fun _ hk => hk.2) (.slice Ao35 t690.length co35)) (fun _ hk => hk.2) (.slice Ao37 t693.length co37)) (fun _ hk => hk.2) (.slice Ao39 t696.length co39)) (fun _ hk => hk.2) (.slice Ao41 t699.length co41)) (fun _ hk => hk.1), by (with_reducible repeat (first | apply Kd.R_alloc | apply Kd.R_drewN | apply Kd.R_drew)); exact Kd.R_mono (Kd.R_far (p := ⟨gb673, 4, none⟩) (Kd.R_far (p := ⟨gb673, 3, none⟩) (Kd.R_far (p := ⟨gb673, 2, none⟩) (Kd.R_far (p := ⟨gb673, 1, none⟩) (Kd.R_far (p := ⟨gb673, 0, none⟩) (Kd.R_types HO698.out BK673.out (by decide)) (fun _ hk => hk.2) (.int .i64 t689)) (fun _ hk => hk.2) (.slice Ao35 t690.length co35)) (fun _ hk => hk.2) (.slice Ao37 t693.length co37)) (fun _ hk => hk.2) (.slice Ao39 t696.length co39)) (fun _ hk => hk.2) (.slice Ao41 t699.length co41)) (fun _ hk => trivial), by (with_reducible repeat (first | apply Kd.R_alloc | apply Kd.R_drewN | apply Kd.R_drew)); exact Kd.R_mono (Kd.R_far (p := ⟨gb673, 4, none⟩) (Kd.R_far (p := ⟨gb673, 3, none⟩) (Kd.R_far (p := ⟨gb673, 2, none⟩) (Kd.R_far (p := ⟨gb673, 1, none⟩) (Kd.R_far (p := ⟨gb673, 0, none⟩) (Kd.R_types HO701.out BK673.out (by decide)) (fun _ hk => hk.2) (.int .i64 t689)) (fun _ hk => hk.2) (.slice Ao35 t690.length co35)) (fun _ hk => hk.2) (.slice Ao37 t693.length co37)) (fun _ hk => hk.2) (.slice Ao39 t696.length co39)) (fun _ hk => hk.2) (.slice Ao41 t699.length co41)) (fun _ hk => trivial), by repeat (first | (with_reducible first | exact HB.out | apply zq2 | apply zq1 | apply below_drew1 | refine zq3 ?_ GE671.out | refine zq3 ?_ GE672.out | refine zq3 ?_ GE673.out) | exact HB.out)⟩
end Go.Proofs.Ytkgpnloghmbmlaa.Print
namespace Go.Proofs.Ytkgpnloghmbmlaa.Print
open Go.RowKit Go.Proofs.YtkgpnloghmbmlaaW.PrintWords Go.Proofs.YtkgpnloghmbmlaaW.PrintLast Go.Proofs.YtkgpnloghmbmlaaW.PrintMore Go.Proofs.Ytkgpnloghmbmlaa.Drv
set_option linter.unusedVariables false
set_option linter.unusedSimpArgs false
def comeSp (p : S54) (sp : List Bool) : List Bool := if p.f0 = true then sp else sp.set p.f1.toNat false
def comeSl (p : S54) (sl : List ByteArray) : List ByteArray := if p.f0 = true then sl else sl.set p.f1.toNat p.f2
def comeRg (p : S54) (rg : List ByteArray) : List ByteArray := if p.f0 = true then rg.set p.f1.toNat p.f2 else rg
set_option maxHeartbeats 4000000 in
set_option maxRecDepth 100000 in
theorem come_ring (g : Nat) (st : Int) (sp : List Bool) (sl rg : List ByteArray) (ns : List (Nat × Pt)) (n : Nat) (tx : ByteArray) (w : World) (hD : Drv w g st sp sl rg ns) (hn : n < 2) :
    Calls Try.prog 100 #[.pointer (some ⟨g, 0, none⟩), .agg #[.bool true, .int .i64 (n : Int), .string tx]] w fun e w' => e = .returned (.tuple #[]) ∧ Drv w' g st sp sl (rg.set n tx) ns ∧ Below g w w' ∧ KeepBut w w' g none := by
  have hu80 := Try.underlying80
  have hu54 := Try.underlying54
  have hu77 := Try.underlying77
  have HGS := Az.mk (blk_lt hD.blk)
  have HGL := Az.mk (Nat.le_of_lt (blk_lt hD.blk))
  have HD := Az.mk hD
  have HN := Az.mk hn
  have HA0 := Az.mk (eq_true (show (0 : Int) ≤ (n : Int) by omega))
  have HA1 := Az.mk (eq_true (show (n : Int) < 2 by omega))
  clear hD hn
  have HK0 := Az.mk (KeepBut.refl w g none)
  have HB := Az.mk (Below.refl g w)
  go_enter Try.func100, Try.ntmps100
  go_wp2_with (first | ((with_reducible refine zqg (N := 3) rfl ?_); refine zqb ?hg (N := 3) ?hd (cs := #[.bool true, .int .i64 (n : Int), .string tx]) (t := 54) ?hr ?_; (case hd => rfl); (case hg => rfl); (case hr => first | (go_simp; done) | (go_simp; rfl)); intro gp hg w1 hbox hb; have n0_ := Az.mk (hb.mono HGL.out); have n1_ := Az.mk hbox; have n2_ := Az.mk (Drv.below (g := g) (st := st) (sp := sp) (sl := sl) (rg := rg) (ns := ns) (by (with_reducible repeat (first | refine drv_drewN ?_ _ | refine drv_drew ?_)); exact HD.out) hb); have HNE : Az (g < gp) := ⟨by rw [hg]; exact HGS.out⟩; have HK := Az.mk (KeepBut.trans HK0.out (KeepBut.of_below hb g none) (.inl rfl)); clear HB HD HK0; have HB := n0_; have BK := n1_; have HD := n2_; clear n0_ n1_ n2_ hb hbox hg; have hcz_0 : w1.cell? ⟨gp, 0, none⟩ = some (.bool true) := (zq4 BK.out 0).trans rfl; have hcz_1 : w1.cell? ⟨gp, 1, none⟩ = some (.int .i64 (n : Int)) := (zq4 BK.out 1).trans rfl; have hcz_2 : w1.cell? ⟨gp, 2, none⟩ = some (.string tx) := (zq4 BK.out 2).trans rfl))
  have nb_ := Az.mk (below_drew1 HB.out)
  have nd_ := Az.mk (drv_drew HD.out)
  have nk_ := Az.mk (zq8 BK.out)
  have nj_ := Az.mk (keep_drew HK.out)
  clear HB HD BK HK
  have HK := nj_
  clear nj_
  have HB := nb_
  have HD := nd_
  have BK := nk_
  clear nb_ nd_ nk_
  refine start_ (n := 9) (S := fun w' => w'.cell? ⟨gp, 1, none⟩ = some (.int .i64 (n : Int)) ∧ w'.cell? ⟨gp, 2, none⟩ = some (.string tx)) (ds := [8]) #[false, false, false, false, false, false, false, false, false] (by kernel_rfl) rfl rfl ⟨(zq4 BK.out 1).trans rfl, (zq4 BK.out 2).trans rfl⟩ (fun hHeld => ?_)
  generalize w1.drew = w2 at HB HD BK HK hHeld ⊢
  refine zqp (i := 0) (N := (some 6)) (v := ?_) (a' := ?_) #[true, false, false, false, false, false, false, false, false] rfl rfl (by kernel_rfl) (fun _ _ _ h => h) (Or.inl ⟨by rfl, ?_⟩) ?_ ?_
  rotate_left
  · intro w'
    go_simp
    with_reducible rfl
  rotate_left
  · simp only [Act.put, List.setIfInBounds_toArray, List.set_cons_zero, List.set_cons_succ]
    rfl
  refine zqp (i := 1) (N := (some 7)) (v := ?_) (a' := ?_) #[true, true, false, false, false, false, false, false, false] rfl rfl (by kernel_rfl) (fun _ _ _ h => h) (Or.inl ⟨by rfl, ?_⟩) ?_ ?_
  rotate_left
  · intro w'
    go_simp
    with_reducible rfl
  rotate_left
  · simp only [Act.put, List.setIfInBounds_toArray, List.set_cons_zero, List.set_cons_succ]
    rfl
  refine zqt (i := 2) (N := (some 8)) (v := ?_) (a' := ?_) #[true, true, true, false, false, false, false, false, false] rfl rfl (by kernel_rfl) (fun _ _ _ h => h) (Or.inl ⟨by rfl, ?_⟩) hHeld ?_ ?_
  rotate_left
  · intro w' hS_
    obtain ⟨s1_, s2_⟩ := hS_
    go_simp
    with_reducible rfl
  rotate_left
  · simp only [Act.put, List.setIfInBounds_toArray, List.set_cons_zero, List.set_cons_succ]
    rfl
  refine zqp (i := 3) (N := (some 9)) (v := ?_) (a' := ?_) #[true, true, true, true, false, false, false, false, false] rfl rfl (by kernel_rfl) (fun _ _ _ h => h) (Or.inl ⟨by rfl, ?_⟩) ?_ ?_
  rotate_left
  · intro w'
    go_simp
    with_reducible rfl
  rotate_left
  · simp only [Act.put, List.setIfInBounds_toArray, List.set_cons_zero, List.set_cons_succ]
    rfl
  refine zqt (i := 4) (N := (some 10)) (v := ?_) (a' := ?_) #[true, true, true, true, true, false, false, false, false] rfl rfl (by kernel_rfl) (fun _ _ _ h => h) (Or.inl ⟨by rfl, ?_⟩) hHeld ?_ ?_
  rotate_left
  · intro w' hS_
    obtain ⟨s1_, s2_⟩ := hS_
    go_simp
    with_reducible rfl
  rotate_left
  · simp only [Act.put, List.setIfInBounds_toArray, List.set_cons_zero, List.set_cons_succ]
    rfl
  refine zqp (i := 5) (N := (some 11)) (v := ?_) (a' := ?_) #[true, true, true, true, true, true, false, false, false] rfl rfl (by kernel_rfl) (fun _ _ _ h => h) (Or.inl ⟨by rfl, ?_⟩) ?_ ?_
  rotate_left
  · intro w'
    go_simp
    with_reducible rfl
  rotate_left
  · simp only [Act.put, List.setIfInBounds_toArray, List.set_cons_zero, List.set_cons_succ]
    rfl
  refine zqp (i := 6) (N := (some 12)) (v := ?_) (a' := ?_) #[true, true, true, true, true, true, true, false, false] rfl rfl (by kernel_rfl) (fun _ _ _ h => h) (Or.inl ⟨by rfl, ?_⟩) ?_ ?_
  rotate_left
  · intro w'
    go_simp
    with_reducible rfl
  rotate_left
  · simp only [Act.put, List.setIfInBounds_toArray, List.set_cons_zero, List.set_cons_succ]
    rfl
  refine zqp (i := 7) (N := (some 13)) (v := ?_) (a' := ?_) #[true, true, true, true, true, true, true, true, false] rfl rfl (by kernel_rfl) (fun _ _ _ h => h) (Or.inl ⟨by rfl, ?_⟩) ?_ ?_
  rotate_left
  · intro w'
    have ha0_ := HA0.out
    have ha1_ := HA1.out
    go_simp
    first | with_reducible rfl | rfl
  rotate_left
  · simp only [Act.put, List.setIfInBounds_toArray, List.set_cons_zero, List.set_cons_succ]
    rfl
  refine last_ (i := 8) (N := none) #[true, true, true, true, true, true, true, true, true] rfl rfl (by kernel_rfl) (by decide) (fun K hK => ?_)
  have hc_ : w2.cell? ⟨g, 25 + n, none⟩ = some (.string (rg.getD n ByteArray.empty)) := (zq4 HD.out.blk (25 + n)).trans (dc_rg HD.out.lsp HD.out.lsl HD.out.lrg HN.out)
  have hf_ : w2.frozen? ⟨g, 25 + n, none⟩ = false := zq5 HD.out.blk (25 + n)
  refine skip_ (w1 := w2.setCell ⟨g, 25 + n, none⟩ (.string tx)) (by rfl) rfl ?_ ?_
  · first | (go_simp; done) | (go_simp; rfl)
  refine hK.out _ _ ?_
  clear hK K
  refine done_ (by kernel_rfl) ?_
  go_wp2
  refine bodyPost_ret (results_none rfl _ _ _) rfl ?_
  exact ⟨rfl, HD.out.putRing HN.out tx, HB.out.setCell (p := ⟨g, 25 + n, none⟩) (Nat.le_refl _) _, KeepBut.set_ HK.out _ _⟩
set_option maxHeartbeats 4000000 in
set_option maxRecDepth 100000 in
theorem come_slot (g : Nat) (st : Int) (sp : List Bool) (sl rg : List ByteArray) (ns : List (Nat × Pt)) (n : Nat) (tx : ByteArray) (w : World) (hD : Drv w g st sp sl rg ns) (hn : n < 12) :
    Calls Try.prog 100 #[.pointer (some ⟨g, 0, none⟩), .agg #[.bool false, .int .i64 (n : Int), .string tx]] w fun e w' => e = .returned (.tuple #[]) ∧ Drv w' g st (sp.set n false) (sl.set n tx) rg ns ∧ Below g w w' ∧ KeepBut w w' g none := by
  have hu80 := Try.underlying80
  have hu75 := Try.underlying75
  have hu54 := Try.underlying54
  have hu76 := Try.underlying76
  have hu73 := Try.underlying73
  have HGS := Az.mk (blk_lt hD.blk)
  have HGL := Az.mk (Nat.le_of_lt (blk_lt hD.blk))
  have HD := Az.mk hD
  have HN := Az.mk hn
  have HA0 := Az.mk (eq_true (show (0 : Int) ≤ (n : Int) by omega))
  have HA1 := Az.mk (eq_true (show (n : Int) < 12 by omega))
  clear hD hn
  have HK0 := Az.mk (KeepBut.refl w g none)
  have HB := Az.mk (Below.refl g w)
  go_enter Try.func100, Try.ntmps100
  go_wp2_with (first | ((with_reducible refine zqg (N := 3) rfl ?_); refine zqb ?hg (N := 3) ?hd (cs := #[.bool false, .int .i64 (n : Int), .string tx]) (t := 54) ?hr ?_; (case hd => rfl); (case hg => rfl); (case hr => first | (go_simp; done) | (go_simp; rfl)); intro gp hg w1 hbox hb; have n0_ := Az.mk (hb.mono HGL.out); have n1_ := Az.mk hbox; have n2_ := Az.mk (Drv.below (g := g) (st := st) (sp := sp) (sl := sl) (rg := rg) (ns := ns) (by (with_reducible repeat (first | refine drv_drewN ?_ _ | refine drv_drew ?_)); exact HD.out) hb); have HNE : Az (g < gp) := ⟨by rw [hg]; exact HGS.out⟩; have HK := Az.mk (KeepBut.trans HK0.out (KeepBut.of_below hb g none) (.inl rfl)); clear HB HD HK0; have HB := n0_; have BK := n1_; have HD := n2_; clear n0_ n1_ n2_ hb hbox hg; have hcz_0 : w1.cell? ⟨gp, 0, none⟩ = some (.bool false) := (zq4 BK.out 0).trans rfl; have hcz_1 : w1.cell? ⟨gp, 1, none⟩ = some (.int .i64 (n : Int)) := (zq4 BK.out 1).trans rfl; have hcz_2 : w1.cell? ⟨gp, 2, none⟩ = some (.string tx) := (zq4 BK.out 2).trans rfl))
  have nb_ := Az.mk (below_drew1 HB.out)
  have nd_ := Az.mk (drv_drew HD.out)
  have nk_ := Az.mk (zq8 BK.out)
  have nj_ := Az.mk (keep_drew HK.out)
  clear HB HD BK HK
  have HK := nj_
  clear nj_
  have HB := nb_
  have HD := nd_
  have BK := nk_
  clear nb_ nd_ nk_
  refine start_ (n := 17) (S := fun w' => w'.cell? ⟨gp, 1, none⟩ = some (.int .i64 (n : Int)) ∧ w'.cell? ⟨gp, 2, none⟩ = some (.string tx)) (ds := [16]) #[false, false, false, false, false, false, false, false, false, false, false, false, false, false, false, false, false] (by kernel_rfl) rfl rfl ⟨(zq4 BK.out 1).trans rfl, (zq4 BK.out 2).trans rfl⟩ (fun hHeld => ?_)
  generalize w1.drew = w2 at HB HD BK HK hHeld ⊢
  refine zqp (i := 0) (N := (some 14)) (v := ?_) (a' := ?_) #[true, false, false, false, false, false, false, false, false, false, false, false, false, false, false, false, false] rfl rfl (by kernel_rfl) (fun _ _ _ h => h) (Or.inl ⟨by rfl, ?_⟩) ?_ ?_
  rotate_left
  · intro w'
    go_simp
    with_reducible rfl
  rotate_left
  · simp only [Act.put, List.setIfInBounds_toArray, List.set_cons_zero, List.set_cons_succ]
    rfl
  refine zqp (i := 1) (N := (some 15)) (v := ?_) (a' := ?_) #[true, true, false, false, false, false, false, false, false, false, false, false, false, false, false, false, false] rfl rfl (by kernel_rfl) (fun _ _ _ h => h) (Or.inl ⟨by rfl, ?_⟩) ?_ ?_
  rotate_left
  · intro w'
    go_simp
    with_reducible rfl
  rotate_left
  · simp only [Act.put, List.setIfInBounds_toArray, List.set_cons_zero, List.set_cons_succ]
    rfl
  refine zqt (i := 2) (N := (some 16)) (v := ?_) (a' := ?_) #[true, true, true, false, false, false, false, false, false, false, false, false, false, false, false, false, false] rfl rfl (by kernel_rfl) (fun _ _ _ h => h) (Or.inl ⟨by rfl, ?_⟩) hHeld ?_ ?_
  rotate_left
  · intro w' hS_
    obtain ⟨s1_, s2_⟩ := hS_
    go_simp
    with_reducible rfl
  rotate_left
  · simp only [Act.put, List.setIfInBounds_toArray, List.set_cons_zero, List.set_cons_succ]
    rfl
  refine zqp (i := 3) (N := (some 17)) (v := ?_) (a' := ?_) #[true, true, true, true, false, false, false, false, false, false, false, false, false, false, false, false, false] rfl rfl (by kernel_rfl) (fun _ _ _ h => h) (Or.inl ⟨by rfl, ?_⟩) ?_ ?_
  rotate_left
  · intro w'
    go_simp
    with_reducible rfl
  rotate_left
  · simp only [Act.put, List.setIfInBounds_toArray, List.set_cons_zero, List.set_cons_succ]
    rfl
  refine zqp (i := 4) (N := (some 18)) (v := ?_) (a' := ?_) #[true, true, true, true, true, false, false, false, false, false, false, false, false, false, false, false, false] rfl rfl (by kernel_rfl) (fun _ _ _ h => h) (Or.inl ⟨by rfl, ?_⟩) ?_ ?_
  rotate_left
  · intro w'
    go_simp
    with_reducible rfl
  rotate_left
  · simp only [Act.put, List.setIfInBounds_toArray, List.set_cons_zero, List.set_cons_succ]
    rfl
  refine zqt (i := 5) (N := (some 19)) (v := ?_) (a' := ?_) #[true, true, true, true, true, true, false, false, false, false, false, false, false, false, false, false, false] rfl rfl (by kernel_rfl) (fun _ _ _ h => h) (Or.inl ⟨by rfl, ?_⟩) hHeld ?_ ?_
  rotate_left
  · intro w' hS_
    obtain ⟨s1_, s2_⟩ := hS_
    go_simp
    with_reducible rfl
  rotate_left
  · simp only [Act.put, List.setIfInBounds_toArray, List.set_cons_zero, List.set_cons_succ]
    rfl
  refine zqp (i := 6) (N := (some 20)) (v := ?_) (a' := ?_) #[true, true, true, true, true, true, true, false, false, false, false, false, false, false, false, false, false] rfl rfl (by kernel_rfl) (fun _ _ _ h => h) (Or.inl ⟨by rfl, ?_⟩) ?_ ?_
  rotate_left
  · intro w'
    go_simp
    with_reducible rfl
  rotate_left
  · simp only [Act.put, List.setIfInBounds_toArray, List.set_cons_zero, List.set_cons_succ]
    rfl
  refine zqt (i := 7) (N := (some 21)) (v := ?_) (a' := ?_) #[true, true, true, true, true, true, true, true, false, false, false, false, false, false, false, false, false] rfl rfl (by kernel_rfl) (fun _ _ _ h => h) (Or.inl ⟨by rfl, ?_⟩) hHeld ?_ ?_
  rotate_left
  · intro w' hS_
    obtain ⟨s1_, s2_⟩ := hS_
    go_simp
    with_reducible rfl
  rotate_left
  · simp only [Act.put, List.setIfInBounds_toArray, List.set_cons_zero, List.set_cons_succ]
    rfl
  refine zqp (i := 8) (N := (some 22)) (v := ?_) (a' := ?_) #[true, true, true, true, true, true, true, true, true, false, false, false, false, false, false, false, false] rfl rfl (by kernel_rfl) (fun _ _ _ h => h) (Or.inl ⟨by rfl, ?_⟩) ?_ ?_
  rotate_left
  · intro w'
    go_simp
    with_reducible rfl
  rotate_left
  · simp only [Act.put, List.setIfInBounds_toArray, List.set_cons_zero, List.set_cons_succ]
    rfl
  refine zqp (i := 9) (N := (some 23)) (v := ?_) (a' := ?_) #[true, true, true, true, true, true, true, true, true, true, false, false, false, false, false, false, false] rfl rfl (by kernel_rfl) (fun _ _ _ h => h) (Or.inl ⟨by rfl, ?_⟩) ?_ ?_
  rotate_left
  · intro w'
    go_simp
    with_reducible rfl
  rotate_left
  · simp only [Act.put, List.setIfInBounds_toArray, List.set_cons_zero, List.set_cons_succ]
    rfl
  refine zqp (i := 10) (N := (some 24)) (v := ?_) (a' := ?_) #[true, true, true, true, true, true, true, true, true, true, true, false, false, false, false, false, false] rfl rfl (by kernel_rfl) (fun _ _ _ h => h) (Or.inl ⟨by rfl, ?_⟩) ?_ ?_
  rotate_left
  · intro w'
    have ha0_ := HA0.out
    have ha1_ := HA1.out
    go_simp
    first | with_reducible rfl | rfl
  rotate_left
  · simp only [Act.put, List.setIfInBounds_toArray, List.set_cons_zero, List.set_cons_succ]
    rfl
  refine zqp (i := 12) (N := (some 25)) (v := ?_) (a' := ?_) #[true, true, true, true, true, true, true, true, true, true, true, false, true, false, false, false, false] rfl rfl (by kernel_rfl) (fun _ _ _ h => h) (Or.inl ⟨by rfl, ?_⟩) ?_ ?_
  rotate_left
  · intro w'
    go_simp
    with_reducible rfl
  rotate_left
  · simp only [Act.put, List.setIfInBounds_toArray, List.set_cons_zero, List.set_cons_succ]
    rfl
  refine zqp (i := 13) (N := (some 26)) (v := ?_) (a' := ?_) #[true, true, true, true, true, true, true, true, true, true, true, false, true, true, false, false, false] rfl rfl (by kernel_rfl) (fun _ _ _ h => h) (Or.inl ⟨by rfl, ?_⟩) ?_ ?_
  rotate_left
  · intro w'
    go_simp
    with_reducible rfl
  rotate_left
  · simp only [Act.put, List.setIfInBounds_toArray, List.set_cons_zero, List.set_cons_succ]
    rfl
  refine zqp (i := 14) (N := (some 27)) (v := ?_) (a' := ?_) #[true, true, true, true, true, true, true, true, true, true, true, false, true, true, true, false, false] rfl rfl (by kernel_rfl) (fun _ _ _ h => h) (Or.inl ⟨by rfl, ?_⟩) ?_ ?_
  rotate_left
  · intro w'
    go_simp
    with_reducible rfl
  rotate_left
  · simp only [Act.put, List.setIfInBounds_toArray, List.set_cons_zero, List.set_cons_succ]
    rfl
  refine one_ (i := 11) (N := none) #[true, true, true, true, true, true, true, true, true, true, true, true, true, true, true, false, false] rfl rfl (by kernel_rfl) (by decide) (fun K hK => ?_)
  have hc_ : w2.cell? ⟨g, 13 + n, none⟩ = some (.string (sl.getD n ByteArray.empty)) := (zq4 HD.out.blk (13 + n)).trans (dc_sl HD.out.lsp HD.out.lsl HN.out)
  have hf_ : w2.frozen? ⟨g, 13 + n, none⟩ = false := zq5 HD.out.blk (13 + n)
  refine skip_ (w1 := w2.setCell ⟨g, 13 + n, none⟩ (.string tx)) (by rfl) rfl ?_ ?_
  · first | (go_simp; done) | (go_simp; rfl)
  have nk_ : Az ((w2.setCell ⟨g, 13 + n, none⟩ (.string tx)).heap[gp]? = some (.cells #[.bool false, .int .i64 (n : Int), .string tx] 54 (0, 0))) := ⟨blk_far BK.out (by have := HNE.out; show gp ≠ g; omega) _⟩
  have nd_ := Az.mk (HD.out.putSlot HN.out tx)
  have nb_ := Az.mk (HB.out.setCell (p := ⟨g, 13 + n, none⟩) (Nat.le_refl _) (.string tx))
  have nj_ := Az.mk (KeepBut.set_ HK.out (13 + n) (.string tx))
  clear hc_ hf_ BK HD HB HK
  have HK := nj_
  clear nj_
  have BK := nk_
  have HD := nd_
  have HB := nb_
  clear nk_ nd_ nb_ hHeld
  refine hK.out _ _ ⟨(zq4 BK.out 1).trans rfl, (zq4 BK.out 2).trans rfl⟩ (fun hHeld => ?_)
  clear hK K
  generalize w2.setCell ⟨g, 13 + n, none⟩ (.string tx) = w3 at BK HD HB HK hHeld ⊢
  refine zqp (i := 15) (N := (some 28)) (v := ?_) (a' := ?_) #[true, true, true, true, true, true, true, true, true, true, true, true, true, true, true, true, false] rfl rfl (by kernel_rfl) (fun _ _ _ h => h) (Or.inl ⟨by rfl, ?_⟩) ?_ ?_
  rotate_left
  · intro w'
    have ha0_ := HA0.out
    have ha1_ := HA1.out
    go_simp
    first | with_reducible rfl | rfl
  rotate_left
  · simp only [Act.put, List.setIfInBounds_toArray, List.set_cons_zero, List.set_cons_succ]
    rfl
  refine last_ (i := 16) (N := none) #[true, true, true, true, true, true, true, true, true, true, true, true, true, true, true, true, true] rfl rfl (by kernel_rfl) (by decide) (fun K hK => ?_)
  have hc_ : w3.cell? ⟨g, 1 + n, none⟩ = some (.bool (sp.getD n false)) := (zq4 HD.out.blk (1 + n)).trans (dc_sp HD.out.lsp HN.out)
  have hf_ : w3.frozen? ⟨g, 1 + n, none⟩ = false := zq5 HD.out.blk (1 + n)
  refine skip_ (w1 := w3.setCell ⟨g, 1 + n, none⟩ (.bool false)) (by rfl) rfl ?_ ?_
  · first | (go_simp; done) | (go_simp; rfl)
  refine hK.out _ _ ?_
  clear hK K
  refine done_ (by kernel_rfl) ?_
  go_wp2
  go_end0
  exact ⟨rfl, HD.out.putSpoilt HN.out false, HB.out.setCell (p := ⟨g, 1 + n, none⟩) (Nat.le_refl _) _, KeepBut.set_ HK.out _ _⟩
theorem come_calls (g : Nat) (st : Int) (sp : List Bool) (sl rg : List ByteArray) (ns : List (Nat × Pt)) (p : S54) (w : World) (hD : Drv w g st sp sl rg ns) (hp : putB p = true) :
    Calls Try.prog 100 #[.pointer (some ⟨g, 0, none⟩), .agg #[.bool p.f0, .int .i64 p.f1, .string p.f2]] w fun e w' => e = .returned (.tuple #[]) ∧ Drv w' g st (comeSp p sp) (comeSl p sl) (comeRg p rg) ns ∧ Below g w w' ∧ KeepBut w w' g none := by
  obtain ⟨f0, f1, f2⟩ := p
  cases f0 with
  | true =>
    simp only [putB, if_true, decide_eq_true_iff] at hp
    obtain ⟨n, rfl⟩ : ∃ n : Nat, f1 = (n : Int) := ⟨f1.toNat, by omega⟩
    have := come_ring g st sp sl rg ns n f2 w hD (by omega)
    simpa [comeSp, comeSl, comeRg] using this
  | false =>
    simp only [putB, Bool.false_eq_true, if_false, decide_eq_true_iff] at hp
    obtain ⟨n, rfl⟩ : ∃ n : Nat, f1 = (n : Int) := ⟨f1.toNat, by omega⟩
    have := come_slot g st sp sl rg ns n f2 w hD (by omega)
    simpa [comeSp, comeSl, comeRg] using this
end Go.Proofs.Ytkgpnloghmbmlaa.Print
namespace Go.Proofs.Ytkgpnloghmbmlaa.Print
open Go.RowKit Go.Proofs.YtkgpnloghmbmlaaW.PrintWords Go.Proofs.YtkgpnloghmbmlaaW.PrintLast Go.Proofs.YtkgpnloghmbmlaaW.PrintMore Go.Proofs.Ytkgpnloghmbmlaa.Drv
set_option linter.unusedVariables false
set_option linter.unusedSimpArgs false
theorem drv_first {W : World} {g b : Nat} {p : S54} {st : Int} {sp : List Bool} {sl rg : List ByteArray} {rs : List (Nat × Pt)} (h : Drv W g st sp sl rg ((b, p) :: rs)) :
    W.cell? ⟨g, 27, none⟩ = some (.pointer (some ⟨b, 0, none⟩)) ∧ W.cell? ⟨b, 0, none⟩ = some (.bool p.f0) ∧ W.cell? ⟨b, 1, none⟩ = some (.int .i64 p.f1) ∧ W.cell? ⟨b, 2, none⟩ = some (.string p.f2) ∧ W.cell? ⟨b, 3, none⟩ = some (toN rs (.pointer none)) ∧ W.frozen? ⟨g, 27, none⟩ = false := by
  have hn : W.heap[b]? = some (.cells #[.bool p.f0, .int .i64 p.f1, .string p.f2, toN rs (.pointer none)] 112 (0, 0)) := h.seg.2.1
  exact ⟨(zq4 h.blk 27).trans (dc_fi h.lsp h.lsl h.lrg), (zq4 hn 0).trans rfl, (zq4 hn 1).trans rfl, (zq4 hn 2).trans rfl, (zq4 hn 3).trans rfl, zq5 h.blk 27⟩
def comeAll (ps : List S54) (x : List Bool × List ByteArray × List ByteArray) : List Bool × List ByteArray × List ByteArray := ps.foldl (fun x p => (comeSp p x.1, comeSl p x.2.1, comeRg p x.2.2)) x
set_option maxHeartbeats 4000000 in
set_option maxRecDepth 100000 in
theorem flush_calls (g : Nat) (st : Int) (sp : List Bool) (sl rg : List ByteArray) (ns : List (Nat × Pt)) (w : World) (hD : Drv w g st sp sl rg ns) (hp : ∀ x ∈ ns, putB x.2 = true) :
    Calls Try.prog 78 #[.pointer (some ⟨g, 0, none⟩)] w fun e w' => e = .returned (.tuple #[]) ∧ Drv w' g st (comeAll (ns.map (·.2)) (sp, sl, rg)).1 (comeAll (ns.map (·.2)) (sp, sl, rg)).2.1 (comeAll (ns.map (·.2)) (sp, sl, rg)).2.2 [] ∧ Below g w w' ∧ KeepBut w w' g none := by
  have hu80 := Try.underlying80
  have hu54 := Try.underlying54
  have hu112 := Try.underlying112
  have HD := Az.mk hD
  have HP := Az.mk hp
  clear hD hp
  have HB := Az.mk (Below.refl g w)
  go_enter Try.func78, Try.ntmps78
  go_wp2
  go_loopg [] ns.length (fun kq w' => ∃ (rs : List (Nat × Pt)) (sp1 : List Bool) (sl1 rg1 : List ByteArray), Az (comeAll (rs.map (·.2)) (sp1, sl1, rg1) = comeAll (ns.map (·.2)) (sp, sl, rg)) ∧ Az (rs.length = kq) ∧ Az (∀ x ∈ rs, putB x.2 = true) ∧ Az (Drv w' g st sp1 sl1 rg1 rs) ∧ Az (Below g w w') ∧ Az (KeepBut w w' g none))
  case atStart => exact ⟨ns, sp, sl, rg, ⟨rfl⟩, ⟨rfl⟩, ⟨HP.out⟩, ⟨HD.out⟩, ⟨HB.out⟩, ⟨KeepBut.refl w g none⟩⟩
  case round =>
    clear HD HB
    obtain ⟨rs, sp1, sl1, rg1, HE, HI, HQ, HD, HB, HK⟩ := hrel
    cases rs with
    | nil =>
      have hfi : wr.cell? ⟨g, 27, none⟩ = some (.pointer none) := (zq4 HD.out.blk 27).trans (dc_fi HD.out.lsp HD.out.lsl HD.out.lrg)
      go_wp2
      go_end0
      exact ⟨rfl, by rw [← HE.out]; exact (by (with_reducible repeat (first | refine drv_drewN ?_ _ | refine drv_drew ?_)); exact HD.out), (by repeat (first | (with_reducible first | exact HB.out | apply zq1 | apply below_drew1) | exact HB.out)), by (with_reducible repeat (first | apply keep_drewN | apply keep_drew)); exact HK.out⟩
    | cons x rs =>
      obtain ⟨b, p⟩ := x
      have hn := drv_first HD.out
      obtain ⟨q, hnx⟩ : ∃ q, toN rs (.pointer none) = .pointer q := by cases rs <;> exact ⟨_, rfl⟩
      have HNX := Az.mk hnx
      have hfi := hn.1
      have hc_0 := hn.2.1
      have hc_1 := hn.2.2.1
      have hc_2 := hn.2.2.2.1
      have HPB := Az.mk (HQ.out (b, p) (by simp))
      clear hn hnx
      go_wp2_with (first | (go_at_call 100; refine (come_calls g st sp1 sl1 rg1 ((b, p) :: rs) p _ (by (with_reducible repeat (first | refine drv_drewN ?_ _ | refine drv_drew ?_)); exact HD.out) HPB.out).mono ?_; rintro e w9 ⟨rfl, hd, hb, hk⟩; have nj_ := Az.mk (KeepBut.trans (by (with_reducible repeat (first | apply keep_drewN | apply keep_drew)); exact HK.out) hk (.inl rfl)); clear HK hk; have HK := nj_; clear nj_; have hn9 := drv_first hd; have nb_ := Az.mk (Below.trans (by repeat (first | (with_reducible first | exact HB.out | apply zq1 | apply below_drew1) | exact HB.out)) hb); have HD9 := Az.mk hd; clear HB HD; have HB := nb_; clear nb_ hd hb; have hfi9 : w9.cell? ⟨g, 27, none⟩ = some (.pointer (some ⟨b, 0, none⟩)) := hn9.1; have hff9 : w9.frozen? ⟨g, 27, none⟩ = false := hn9.2.2.2.2.2; have hnx9 : w9.cell? ⟨b, 3, none⟩ = some (.pointer q) := (HNX.out ▸ hn9.2.2.2.2.1); clear hn9))
      go_roundg (gk - 1)
      case measure => have := HI.out; simp only [List.length_cons] at this; omega
      case rel =>
        exact ⟨rs, comeSp p sp1, comeSl p sl1, comeRg p rg1, ⟨by rw [← HE.out]; rfl⟩, ⟨by have := HI.out; simp only [List.length_cons] at this; omega⟩, ⟨fun x hx => HQ.out x (List.mem_cons_of_mem _ hx)⟩,
          ⟨by (with_reducible repeat (first | refine drv_drewN ?_ _ | refine drv_drew ?_)); rw [← HNX.out]; exact Drv.drop HD9.out⟩, ⟨by repeat (first | exact HB.out | refine Below.setCell (p := ⟨g, 27, none⟩) ?_ (Nat.le_refl g) _ | apply zq1 | apply below_drew1)⟩, ⟨by (with_reducible repeat (first | apply keep_drewN | apply keep_drew)); exact KeepBut.set_ HK.out _ _⟩⟩
end Go.Proofs.Ytkgpnloghmbmlaa.Print
namespace Go.Proofs.Ytkgpnloghmbmlaa.Print
open Go.RowKit Go.Proofs.YtkgpnloghmbmlaaW.PrintWords Go.Proofs.YtkgpnloghmbmlaaW.PrintLast Go.Proofs.YtkgpnloghmbmlaaW.PrintMore Go.Proofs.Ytkgpnloghmbmlaa.Drv
set_option linter.unusedVariables false
set_option linter.unusedSimpArgs false
set_option maxHeartbeats 4000000 in
set_option maxRecDepth 100000 in
theorem put_gone (g : Nat) (st : Int) (sp : List Bool) (sl rg : List ByteArray) (ns : List (Nat × Pt)) (p : S54) (w : World) (hD : Drv w g st sp sl rg ns) (hst : st = 1) :
    Calls Try.prog 84 #[.pointer (some ⟨g, 0, none⟩), .agg #[.bool p.f0, .int .i64 p.f1, .string p.f2]] w fun e w' => e = .returned (.tuple #[]) ∧ Drv w' g st sp sl rg ns ∧ Below g w w' := by
  have hu80 := Try.underlying80
  have hu75 := Try.underlying75
  have hu54 := Try.underlying54
  have HGS := Az.mk (blk_lt hD.blk)
  have HGL := Az.mk (Nat.le_of_lt (blk_lt hD.blk))
  have HLS := Az.mk hD.last_lt
  have HD := Az.mk hD
  subst hst
  clear hD
  have HB := Az.mk (Below.refl g w)
  go_enter Try.func84, Try.ntmps84
  go_wp2_with (first | ((with_reducible refine zqg (N := 3) rfl ?_); refine zqb ?hg (N := 3) ?hd (cs := #[.bool p.f0, .int .i64 p.f1, .string p.f2]) (t := 54) ?hr ?_; (case hd => rfl); (case hg => rfl); (case hr => first | (go_simp; done) | (go_simp; rfl)); intro gp hg w1 hbox hb; have n0_ := Az.mk (hb.mono HGL.out); have n1_ := Az.mk hbox; have n2_ := Az.mk (Drv.below (g := g) (st := 1) (sp := sp) (sl := sl) (rg := rg) (ns := ns) (by (with_reducible repeat (first | refine drv_drewN ?_ _ | refine drv_drew ?_)); exact HD.out) hb); have HNE : Az (lastN g ns < gp) := ⟨by rw [hg]; exact HLS.out⟩; have HGP : Az (gp ≠ g) := ⟨by have h1 := HGS.out; rw [hg]; omega⟩; clear HB HD; have HB := n0_; have BK := n1_; have HD := n2_; clear n0_ n1_ n2_ hb hbox hg; have hst_ : w1.cell? ⟨g, 0, none⟩ = some (.int .i64 1) := drv_st HD.out))
  refine bodyPost_ret (results_none rfl _ _ _) rfl ?_
  exact ⟨rfl, (by (with_reducible repeat (first | refine drv_drewN ?_ _ | refine drv_drew ?_)); exact HD.out), (by repeat (first | (with_reducible first | exact HB.out | apply zq1 | apply below_drew1) | exact HB.out))⟩
theorem below_glue {g : Nat} {w W w9 : World} (h : Below g w W) (hg : g ≤ w.heap.size) (hb : Below W.heap.size W w9) : Below g w w9 := h.trans (hb.mono (Nat.le_trans hg h.size))
set_option maxHeartbeats 4000000 in
set_option maxRecDepth 100000 in
theorem put_some (g : Nat) (st : Int) (sp : List Bool) (sl rg : List ByteArray) (ns : List (Nat × Pt)) (p : S54) (w : World) (hD : Drv w g st sp sl rg ns) (hst : st ≠ 1) (hn : ns.length < 40) :
    Calls Try.prog 84 #[.pointer (some ⟨g, 0, none⟩), .agg #[.bool p.f0, .int .i64 p.f1, .string p.f2]] w fun e w' => e = .returned (.tuple #[]) ∧ (∃ n, Drv w' g st sp sl rg (ns ++ [(n, p)])) ∧ Below g w w' := by
  have hu80 := Try.underlying80
  have hu75 := Try.underlying75
  have hu54 := Try.underlying54
  have hu112 := Try.underlying112
  have HGS := Az.mk (blk_lt hD.blk)
  have HGL := Az.mk (Nat.le_of_lt (blk_lt hD.blk))
  have HLS := Az.mk hD.last_lt
  have HD := Az.mk hD
  have HN : Az (ns.length ≤ 40) := ⟨by omega⟩
  have hst1 : (st == 1) = false := by rw [beq_eq_false_iff_ne]; exact hst
  have h40 : ((ns.length : Int) == 40) = false := by rw [beq_eq_false_iff_ne]; omega
  have h41 : (ns.length == 40) = false := by rw [beq_eq_false_iff_ne]; omega
  clear hD hst hn
  have HB := Az.mk (Below.refl g w)
  go_enter Try.func84, Try.ntmps84
  go_wp2_with (first | ((with_reducible refine zqg (N := 3) rfl ?_); refine zqb ?hg (N := 3) ?hd (cs := #[.bool p.f0, .int .i64 p.f1, .string p.f2]) (t := 54) ?hr ?_; (case hd => rfl); (case hg => rfl); (case hr => first | (go_simp; done) | (go_simp; rfl)); intro gp hg w1 hbox hb; have n0_ := Az.mk (hb.mono HGL.out); have n1_ := Az.mk hbox; have n2_ := Az.mk (Drv.below (g := g) (st := st) (sp := sp) (sl := sl) (rg := rg) (ns := ns) (by (with_reducible repeat (first | refine drv_drewN ?_ _ | refine drv_drew ?_)); exact HD.out) hb); have HNE : Az (lastN g ns < gp) := ⟨by rw [hg]; exact HLS.out⟩; have HGP : Az (gp ≠ g) := ⟨by have h1 := HGS.out; rw [hg]; omega⟩; clear HB HD; have HB := n0_; have BK := n1_; have HD := n2_; clear n0_ n1_ n2_ hb hbox hg; have hst_ : w1.cell? ⟨g, 0, none⟩ = some (.int .i64 st) := drv_st HD.out) | (go_at_call 90; refine (waits_calls g st sp sl rg ns _ (by (with_reducible repeat (first | refine drv_drewN ?_ _ | refine drv_drew ?_)); exact HD.out) HN.out).mono ?_; rintro e w9 ⟨v9, rfl, ho, hb⟩; obtain ⟨A9, c9, rfl⟩ := Kd.R_slice ho; simp only [List.length_map]; have nd_ := Az.mk (Drv.below (g := g) (st := st) (sp := sp) (sl := sl) (rg := rg) (ns := ns) (by (with_reducible repeat (first | refine drv_drewN ?_ _ | refine drv_drew ?_)); exact HD.out) hb); have nb_ := Az.mk (below_glue (by repeat (first | (with_reducible first | exact HB.out | apply zq1 | apply below_drew1) | exact HB.out)) HGL.out hb); have nk_ := Az.mk (blk_below (g := gp) (o := .cells #[.bool p.f0, .int .i64 p.f1, .string p.f2] 54 (0, 0)) (by (with_reducible repeat (first | refine zq6 ?_ _ | refine zq8 ?_ | refine zq7 ?_ _)); exact BK.out) hb); clear HB HD BK ho hb; have HB := nb_; have HD := nd_; have BK := nk_; clear nb_ nd_ nk_))
  go_loopg [4] ns.length (fun kq v4 w' => ∃ (dn rs : List (Nat × Pt)), v4 = .pointer (some (linkOf g dn)) ∧ Az (ns = dn ++ rs) ∧ Az (rs.length = kq) ∧ Az (Drv w' g st sp sl rg ns) ∧ Az (w'.heap[gp]? = some (.cells #[.bool p.f0, .int .i64 p.f1, .string p.f2] 54 (0, 0))) ∧ Az (Below g w w'))
  case atStart => exact ⟨[], ns, rfl, ⟨rfl⟩, ⟨rfl⟩, ⟨(by (with_reducible repeat (first | refine drv_drewN ?_ _ | refine drv_drew ?_)); exact HD.out)⟩, ⟨(by (with_reducible repeat (first | refine zq6 ?_ _ | refine zq8 ?_ | refine zq7 ?_ _)); exact BK.out)⟩, ⟨(by repeat (first | (with_reducible first | exact HB.out | apply zq1 | apply below_drew1) | exact HB.out))⟩⟩
  case round =>
    clear HD BK HB
    obtain ⟨dn, rs, rfl, HE, HI, HD, BK, HB⟩ := hrel
    obtain ⟨lb, lo, hlk0⟩ : ∃ lb lo, (⟨lb, lo, none⟩ : Addr) = linkOf g dn := by cases dn <;> exact ⟨_, _, rfl⟩
    have HLK0 := Az.mk hlk0
    have hlkc : wr.cell? ⟨lb, lo, none⟩ = some (toN rs (.pointer none)) := by
      rw [hlk0]
      exact Drv.link (HE.out ▸ HD.out)
    rw [← hlk0]
    clear hlk0
    cases rs with
    | nil =>
      replace hlkc : wr.cell? ⟨lb, lo, none⟩ = some (.pointer none) := hlkc
      have hE : ns = dn := by have h_ := HE.out; rw [List.append_nil] at h_; exact h_
      have HLK1 : Az ((⟨lb, lo, none⟩ : Addr) = linkOf g ns) := ⟨by rw [HLK0.out, hE]⟩
      have HLB : Az (g ≤ lb) := ⟨by
        have h1 := congrArg Addr.block HLK1.out
        rw [linkOf_block] at h1
        have h2 := HD.out.seg.le
        have h3 : lb = lastN g ns := h1
        omega⟩
      clear HLK0 hE
      have HLK0 := HLK1
      have hcp_0 : wr.cell? ⟨gp, 0, none⟩ = some (.bool p.f0) := (zq4 BK.out 0).trans rfl
      have hcp_1 : wr.cell? ⟨gp, 1, none⟩ = some (.int .i64 p.f1) := (zq4 BK.out 1).trans rfl
      have hcp_2 : wr.cell? ⟨gp, 2, none⟩ = some (.string p.f2) := (zq4 BK.out 2).trans rfl
      go_wp2_with (first | ((with_reducible refine zqg (N := 32) rfl ?_); refine zqb ?hg (N := 32) ?hd (cs := #[.bool p.f0, .int .i64 p.f1, .string p.f2, .pointer none]) (t := 112) ?hr ?_; (case hd => rfl); (case hg => rfl); (case hr => first | (go_simp; done) | (go_simp; rfl)); intro gn hg w21 hbox hb; have n0_ := Az.mk (below_glue (by repeat (first | (with_reducible first | exact HB.out | apply zq1 | apply below_drew1) | exact HB.out)) HGL.out hb); have n2_ := Az.mk (Drv.below (g := g) (st := st) (sp := sp) (sl := sl) (rg := rg) (ns := ns) (by (with_reducible repeat (first | refine drv_drewN ?_ _ | refine drv_drew ?_)); exact HD.out) hb); have HLN : Az (lastN g ns < gn) := ⟨by rw [hg]; exact Drv.last_lt (st := st) (sp := sp) (sl := sl) (rg := rg) (by (with_reducible repeat (first | refine drv_drewN ?_ _ | refine drv_drew ?_)); exact HD.out)⟩; clear HB HD; have HB := n0_; have HD := n2_; have BN : Az (Go.Proofs.Ytkgpnloghmbmlaa.Drv.Node w21 gn p (.pointer none)) := ⟨hbox⟩; clear n0_ n2_ hb hbox hg; have hlk : w21.cell? ⟨lb, lo, none⟩ = some (.pointer none) := (HLK0.out.symm ▸ HD.out.linkE); have hlf : w21.frozen? ⟨lb, lo, none⟩ = false := (HLK0.out.symm ▸ HD.out.linkFreeE)))
      go_end0
      exact ⟨rfl, ⟨gn, by rw [HLK0.out]; exact Drv.hang HD.out BN.out HLN.out⟩, HB.out.setCell (p := ⟨lb, lo, none⟩) HLB.out _⟩
    | cons x rs =>
      obtain ⟨b, q⟩ := x
      replace hlkc : wr.cell? ⟨lb, lo, none⟩ = some (.pointer (some ⟨b, 0, none⟩)) := hlkc
      go_wp2
      go_roundg (gk - 1)
      case measure => have := HI.out; simp only [List.length_cons] at this; omega
      case rel => exact ⟨dn ++ [(b, q)], rs, by rw [linkOf_snoc], ⟨by have h_ := HE.out; first | (simp at h_; done) | (rw [h_, List.append_assoc]; rfl)⟩, ⟨by have := HI.out; simp only [List.length_cons] at this; omega⟩, ⟨(by (with_reducible repeat (first | refine drv_drewN ?_ _ | refine drv_drew ?_)); exact HD.out)⟩, ⟨(by (with_reducible repeat (first | refine zq6 ?_ _ | refine zq8 ?_ | refine zq7 ?_ _)); exact BK.out)⟩, ⟨(by repeat (first | (with_reducible first | exact HB.out | apply zq1 | apply below_drew1) | exact HB.out))⟩⟩
set_option maxHeartbeats 4000000 in
set_option maxRecDepth 100000 in
theorem put_full (g : Nat) (st : Int) (sp : List Bool) (sl rg : List ByteArray) (ns : List (Nat × Pt)) (p : S54) (w : World) (hD : Drv w g st sp sl rg ns) (hst : st ≠ 1) (hn : ns.length = 40) (hp : ∀ x ∈ ns, putB x.2 = true) (sp1 : List Bool) (sl1 rg1 : List ByteArray) (hc : comeAll (ns.map (·.2)) (sp, sl, rg) = (sp1, sl1, rg1)) :
    Calls Try.prog 84 #[.pointer (some ⟨g, 0, none⟩), .agg #[.bool p.f0, .int .i64 p.f1, .string p.f2]] w fun e w' => e = .returned (.tuple #[]) ∧ (∃ n, Drv w' g st sp1 sl1 rg1 [(n, p)]) ∧ Below g w w' := by
  have hu80 := Try.underlying80
  have hu75 := Try.underlying75
  have hu54 := Try.underlying54
  have hu112 := Try.underlying112
  have HGS := Az.mk (blk_lt hD.blk)
  have HGL := Az.mk (Nat.le_of_lt (blk_lt hD.blk))
  have HLS := Az.mk hD.last_lt
  have HFL := Az.mk (fun (W : World) (h : Drv W g st sp sl rg ns) => show Calls Try.prog 78 #[.pointer (some ⟨g, 0, none⟩)] W fun e w' => e = .returned (.tuple #[]) ∧ Drv w' g st sp1 sl1 rg1 [] ∧ Below g W w' ∧ KeepBut W w' g none from by
    have := flush_calls g st sp sl rg ns W h hp
    rw [hc] at this
    exact this)
  have HD := Az.mk hD
  have HN : Az (ns.length ≤ 40) := ⟨by omega⟩
  have hst1 : (st == 1) = false := by rw [beq_eq_false_iff_ne]; exact hst
  have h40 : ((ns.length : Int) == 40) = true := by rw [beq_iff_eq]; omega
  have h41 : (ns.length == 40) = true := by rw [beq_iff_eq]; omega
  clear hD hst hn hp hc
  have HB := Az.mk (Below.refl g w)
  go_enter Try.func84, Try.ntmps84
  go_wp2_with (first | ((with_reducible refine zqg (N := 3) rfl ?_); refine zqb ?hg (N := 3) ?hd (cs := #[.bool p.f0, .int .i64 p.f1, .string p.f2]) (t := 54) ?hr ?_; (case hd => rfl); (case hg => rfl); (case hr => first | (go_simp; done) | (go_simp; rfl)); intro gp hg w1 hbox hb; have n0_ := Az.mk (hb.mono HGL.out); have n1_ := Az.mk hbox; have n2_ := Az.mk (Drv.below (g := g) (st := st) (sp := sp) (sl := sl) (rg := rg) (ns := ns) (by (with_reducible repeat (first | refine drv_drewN ?_ _ | refine drv_drew ?_)); exact HD.out) hb); have HNE : Az (lastN g ns < gp) := ⟨by rw [hg]; exact HLS.out⟩; have HGP : Az (gp ≠ g) := ⟨by have h1 := HGS.out; rw [hg]; omega⟩; clear HB HD; have HB := n0_; have BK := n1_; have HD := n2_; clear n0_ n1_ n2_ hb hbox hg; have hst_ : w1.cell? ⟨g, 0, none⟩ = some (.int .i64 st) := drv_st HD.out) | (go_at_call 90; refine (waits_calls g st sp sl rg ns _ (by (with_reducible repeat (first | refine drv_drewN ?_ _ | refine drv_drew ?_)); exact HD.out) HN.out).mono ?_; rintro e w9 ⟨v9, rfl, ho, hb⟩; obtain ⟨A9, c9, rfl⟩ := Kd.R_slice ho; simp only [List.length_map]; have nd_ := Az.mk (Drv.below (g := g) (st := st) (sp := sp) (sl := sl) (rg := rg) (ns := ns) (by (with_reducible repeat (first | refine drv_drewN ?_ _ | refine drv_drew ?_)); exact HD.out) hb); have nb_ := Az.mk (below_glue (by repeat (first | (with_reducible first | exact HB.out | apply zq1 | apply below_drew1) | exact HB.out)) HGL.out hb); have nk_ := Az.mk (blk_below (g := gp) (o := .cells #[.bool p.f0, .int .i64 p.f1, .string p.f2] 54 (0, 0)) (by (with_reducible repeat (first | refine zq6 ?_ _ | refine zq8 ?_ | refine zq7 ?_ _)); exact BK.out) hb); clear HB HD BK ho hb; have HB := nb_; have HD := nd_; have BK := nk_; clear nb_ nd_ nk_) | (go_at_call 78; refine (HFL.out _ (by (with_reducible repeat (first | refine drv_drewN ?_ _ | refine drv_drew ?_)); exact HD.out)).mono ?_; rintro e w10 ⟨rfl, hd, hb, hk⟩; have nb_ := Az.mk (Below.trans (by repeat (first | (with_reducible first | exact HB.out | apply zq1 | apply below_drew1) | exact HB.out)) hb); have nk_ := Az.mk (KeepBut.blk hk (o := .cells #[.bool p.f0, .int .i64 p.f1, .string p.f2] 54 (0, 0)) (by (with_reducible repeat (first | refine zq6 ?_ _ | refine zq8 ?_ | refine zq7 ?_ _)); exact BK.out) HGP.out (by simp)); have nd_ := Az.mk hd; clear HB HD BK hb hk hd; have HB := nb_; have BK := nk_; have HD := nd_; clear nb_ nk_ nd_))
  go_loopg [4] ([] : List (Nat × Pt)).length (fun kq v4 w' => ∃ (dn rs : List (Nat × Pt)), v4 = .pointer (some (linkOf g dn)) ∧ Az (([] : List (Nat × Pt)) = dn ++ rs) ∧ Az (rs.length = kq) ∧ Az (Drv w' g st sp1 sl1 rg1 ([] : List (Nat × Pt))) ∧ Az (w'.heap[gp]? = some (.cells #[.bool p.f0, .int .i64 p.f1, .string p.f2] 54 (0, 0))) ∧ Az (Below g w w'))
  case atStart => exact ⟨[], ([] : List (Nat × Pt)), rfl, ⟨rfl⟩, ⟨rfl⟩, ⟨(by (with_reducible repeat (first | refine drv_drewN ?_ _ | refine drv_drew ?_)); exact HD.out)⟩, ⟨(by (with_reducible repeat (first | refine zq6 ?_ _ | refine zq8 ?_ | refine zq7 ?_ _)); exact BK.out)⟩, ⟨(by repeat (first | (with_reducible first | exact HB.out | apply zq1 | apply below_drew1) | exact HB.out))⟩⟩
  case round =>
    clear HD BK HB
    obtain ⟨dn, rs, rfl, HE, HI, HD, BK, HB⟩ := hrel
    obtain ⟨lb, lo, hlk0⟩ : ∃ lb lo, (⟨lb, lo, none⟩ : Addr) = linkOf g dn := by cases dn <;> exact ⟨_, _, rfl⟩
    have HLK0 := Az.mk hlk0
    have hlkc : wr.cell? ⟨lb, lo, none⟩ = some (toN rs (.pointer none)) := by
      rw [hlk0]
      exact Drv.link (HE.out ▸ HD.out)
    rw [← hlk0]
    clear hlk0
    cases rs with
    | nil =>
      replace hlkc : wr.cell? ⟨lb, lo, none⟩ = some (.pointer none) := hlkc
      have hE : ([] : List (Nat × Pt)) = dn := by have h_ := HE.out; rw [List.append_nil] at h_; exact h_
      have HLK1 : Az ((⟨lb, lo, none⟩ : Addr) = linkOf g ([] : List (Nat × Pt))) := ⟨by rw [HLK0.out, hE]⟩
      have HLB : Az (g ≤ lb) := ⟨by
        have h1 := congrArg Addr.block HLK1.out
        rw [linkOf_block] at h1
        have h2 := HD.out.seg.le
        have h3 : lb = lastN g ([] : List (Nat × Pt)) := h1
        omega⟩
      clear HLK0 hE
      have HLK0 := HLK1
      have hcp_0 : wr.cell? ⟨gp, 0, none⟩ = some (.bool p.f0) := (zq4 BK.out 0).trans rfl
      have hcp_1 : wr.cell? ⟨gp, 1, none⟩ = some (.int .i64 p.f1) := (zq4 BK.out 1).trans rfl
      have hcp_2 : wr.cell? ⟨gp, 2, none⟩ = some (.string p.f2) := (zq4 BK.out 2).trans rfl
      go_wp2_with (first | ((with_reducible refine zqg (N := 32) rfl ?_); refine zqb ?hg (N := 32) ?hd (cs := #[.bool p.f0, .int .i64 p.f1, .string p.f2, .pointer none]) (t := 112) ?hr ?_; (case hd => rfl); (case hg => rfl); (case hr => first | (go_simp; done) | (go_simp; rfl)); intro gn hg w21 hbox hb; have n0_ := Az.mk (below_glue (by repeat (first | (with_reducible first | exact HB.out | apply zq1 | apply below_drew1) | exact HB.out)) HGL.out hb); have n2_ := Az.mk (Drv.below (g := g) (st := st) (sp := sp1) (sl := sl1) (rg := rg1) (ns := ([] : List (Nat × Pt))) (by (with_reducible repeat (first | refine drv_drewN ?_ _ | refine drv_drew ?_)); exact HD.out) hb); have HLN : Az (lastN g ([] : List (Nat × Pt)) < gn) := ⟨by rw [hg]; exact Drv.last_lt (st := st) (sp := sp1) (sl := sl1) (rg := rg1) (by (with_reducible repeat (first | refine drv_drewN ?_ _ | refine drv_drew ?_)); exact HD.out)⟩; clear HB HD; have HB := n0_; have HD := n2_; have BN : Az (Go.Proofs.Ytkgpnloghmbmlaa.Drv.Node w21 gn p (.pointer none)) := ⟨hbox⟩; clear n0_ n2_ hb hbox hg; have hlk : w21.cell? ⟨lb, lo, none⟩ = some (.pointer none) := (HLK0.out.symm ▸ HD.out.linkE); have hlf : w21.frozen? ⟨lb, lo, none⟩ = false := (HLK0.out.symm ▸ HD.out.linkFreeE)))
      go_end0
      exact ⟨rfl, ⟨gn, by rw [HLK0.out]; exact Drv.hang HD.out BN.out HLN.out⟩, HB.out.setCell (p := ⟨lb, lo, none⟩) HLB.out _⟩
    | cons x rs =>
      obtain ⟨b, q⟩ := x
      replace hlkc : wr.cell? ⟨lb, lo, none⟩ = some (.pointer (some ⟨b, 0, none⟩)) := hlkc
      go_wp2
      go_roundg (gk - 1)
      case measure => have := HI.out; simp only [List.length_cons] at this; omega
      case rel => exact ⟨dn ++ [(b, q)], rs, by rw [linkOf_snoc], ⟨by have h_ := HE.out; first | (simp at h_; done) | (rw [h_, List.append_assoc]; rfl)⟩, ⟨by have := HI.out; simp only [List.length_cons] at this; omega⟩, ⟨(by (with_reducible repeat (first | refine drv_drewN ?_ _ | refine drv_drew ?_)); exact HD.out)⟩, ⟨(by (with_reducible repeat (first | refine zq6 ?_ _ | refine zq8 ?_ | refine zq7 ?_ _)); exact BK.out)⟩, ⟨(by repeat (first | (with_reducible first | exact HB.out | apply zq1 | apply below_drew1) | exact HB.out))⟩⟩
end Go.Proofs.Ytkgpnloghmbmlaa.Print
namespace Go.Proofs.Ytkgpnloghmbmlaa.Print
open Go.RowKit Go.Proofs.YtkgpnloghmbmlaaW.PrintWords Go.Proofs.YtkgpnloghmbmlaaW.PrintLast Go.Proofs.YtkgpnloghmbmlaaW.PrintMore Go.Proofs.Ytkgpnloghmbmlaa.Drv
set_option linter.unusedVariables false
set_option linter.unusedSimpArgs false
set_option maxHeartbeats 4000000 in
set_option maxRecDepth 100000 in
theorem changed_bad (a0_0 : Int) (A0_1 : Option Addr) (c0_1 : Nat) (l0_1 : List ByteArray) (A0_2 : Option Addr) (c0_2 : Nat) (l0_2 : List ByteArray) (A0_3 : Option Addr) (c0_3 : Nat) (l0_3 : List Bool) (A0_4 : Option Addr) (c0_4 : Nat) (l0_4 : List (S54)) (fv : Value) (w : World) (hr0_1 : Kd.C Kd.string w A0_1 l0_1.length l0_1) (hc0_1 : l0_1.length ≤ c0_1) (hr0_2 : Kd.C Kd.string w A0_2 l0_2.length l0_2) (hc0_2 : l0_2.length ≤ c0_2) (hr0_3 : Kd.C Kd.bool w A0_3 l0_3.length l0_3) (hc0_3 : l0_3.length ≤ c0_3) (hr0_4 : Kd.C k54 w A0_4 l0_4.length l0_4) (hc0_4 : l0_4.length ≤ c0_4) (hg : ¬ Good a0_0 l0_1 l0_2 l0_3 l0_4) :
    Calls Try.prog 76 #[.agg #[.int .i64 a0_0, .slice A0_1 l0_1.length c0_1, .slice A0_2 l0_2.length c0_2, .slice A0_3 l0_3.length c0_3, .slice A0_4 l0_4.length c0_4], fv] w fun e w' => ∃ v1_ v2_ v3_ v4_ : Value, e = .returned (.agg #[.int .i64 0, v1_, v2_, v3_, v4_]) ∧ Kd.R Kd.string 9 w' w.heap.size (fun k_ => some k_ ≠ (v2_ : Value).ownBlock) v1_ ([] : List ByteArray) ∧ Kd.R Kd.string 9 w' w.heap.size (fun k_ => some k_ ≠ (v1_ : Value).ownBlock) v2_ ([] : List ByteArray) ∧ Kd.R Kd.bool 4 w' w.heap.size (fun _ => True) v3_ ([] : List Bool) ∧ Kd.R k54 54 w' w.heap.size (fun _ => True) v4_ ([] : List S54) ∧ Below w.heap.size w w' := by
  have hu28 := Try.underlying28
  have HBAD := Az.mk (fun (W : World) (hb : Below w.heap.size w W) => readDisk_bad a0_0 A0_1 c0_1 l0_1 A0_2 c0_2 l0_2 A0_3 c0_3 l0_3 A0_4 c0_4 l0_4 W (Kd.C_below hr0_1 hb) hc0_1 (Kd.C_below hr0_2 hb) hc0_2 (Kd.C_below hr0_3 hb) hc0_3 (Kd.C_below hr0_4 hb) hc0_4 hg)
  have HB := Az.mk (Below.refl w.heap.size w)
  clear hr0_1 hc0_1 hr0_2 hc0_2 hr0_3 hc0_3 hr0_4 hc0_4 hg
  go_enter Try.func76, Try.ntmps76
  go_wp2_with (first | ((with_reducible refine zqg (N := 2) rfl ?_); refine zqb ?hg (N := 2) ?hd (cs := #[.int .i64 a0_0, .slice A0_1 l0_1.length c0_1, .slice A0_2 l0_2.length c0_2, .slice A0_3 l0_3.length c0_3, .slice A0_4 l0_4.length c0_4]) (t := 28) ?hr ?_; (case hd => rfl); (case hg => rfl); (case hr => first | (go_simp; done) | (go_simp; rfl)); intro gb hg w1 hbox hb; have n0_ := Az.mk (below_step (by repeat (first | (with_reducible first | exact HB.out | apply zq2 | apply zq1 | apply below_drew1) | exact HB.out)) hb); have BD := Az.mk hbox; clear HB; have HB := n0_; clear n0_ hb hbox hg; have hcd_0 : w1.cell? ⟨gb, 0, none⟩ = some (.int .i64 a0_0) := (zq4 BD.out 0).trans rfl; have hcd_1 : w1.cell? ⟨gb, 1, none⟩ = some (.slice A0_1 l0_1.length c0_1) := (zq4 BD.out 1).trans rfl; have hcd_2 : w1.cell? ⟨gb, 2, none⟩ = some (.slice A0_2 l0_2.length c0_2) := (zq4 BD.out 2).trans rfl; have hcd_3 : w1.cell? ⟨gb, 3, none⟩ = some (.slice A0_3 l0_3.length c0_3) := (zq4 BD.out 3).trans rfl; have hcd_4 : w1.cell? ⟨gb, 4, none⟩ = some (.slice A0_4 l0_4.length c0_4) := (zq4 BD.out 4).trans rfl) | ((with_reducible refine zqg (N := 4) rfl ?_); refine zqb ?hg (N := 4) ?hd (cs := #[.int .i64 0, .slice none 0 0, .slice none 0 0, .slice none 0 0, .slice none 0 0]) (t := 28) ?hr ?_; (case hd => rfl); (case hg => rfl); (case hr => first | (go_simp; done) | (go_simp; rfl)); intro gr hg w2 hbox hb; have n0_ := Az.mk (below_step (by repeat (first | (with_reducible first | exact HB.out | apply zq2 | apply zq1 | apply below_drew1) | exact HB.out)) hb); have BK := Az.mk hbox; have HGR : Az (w.heap.size ≤ gr) := ⟨by rw [hg]; exact (below_size (by repeat (first | (with_reducible first | exact HB.out | apply zq2 | apply zq1 | apply below_drew1) | exact HB.out)))⟩; have nd_ := Az.mk (blk_below (g := gb) (o := .cells #[.int .i64 a0_0, .slice A0_1 l0_1.length c0_1, .slice A0_2 l0_2.length c0_2, .slice A0_3 l0_3.length c0_3, .slice A0_4 l0_4.length c0_4] 28 (0, 0)) (by (with_reducible repeat (first | refine zq6 ?_ _ | refine zq8 ?_ | refine zq7 ?_ _)); exact BD.out) hb); clear HB BD; have HB := n0_; have BD := nd_; clear n0_ nd_ hb hbox hg; have hcd_0 : w2.cell? ⟨gb, 0, none⟩ = some (.int .i64 a0_0) := (zq4 BD.out 0).trans rfl; have hcd_1 : w2.cell? ⟨gb, 1, none⟩ = some (.slice A0_1 l0_1.length c0_1) := (zq4 BD.out 1).trans rfl; have hcd_2 : w2.cell? ⟨gb, 2, none⟩ = some (.slice A0_2 l0_2.length c0_2) := (zq4 BD.out 2).trans rfl; have hcd_3 : w2.cell? ⟨gb, 3, none⟩ = some (.slice A0_3 l0_3.length c0_3) := (zq4 BD.out 3).trans rfl; have hcd_4 : w2.cell? ⟨gb, 4, none⟩ = some (.slice A0_4 l0_4.length c0_4) := (zq4 BD.out 4).trans rfl) | (go_at_call 52; refine (HBAD.out _ (by repeat (first | (with_reducible first | exact HB.out | apply zq2 | apply zq1 | apply below_drew1) | exact HB.out))).mono ?_; rintro e w9 ⟨rfl, hb⟩; have n0_ := Az.mk (below_step (by repeat (first | (with_reducible first | exact HB.out | apply zq2 | apply zq1 | apply below_drew1) | exact HB.out)) hb); have nk_ := Az.mk (blk_below (g := gr) (o := .cells #[.int .i64 0, .slice none 0 0, .slice none 0 0, .slice none 0 0, .slice none 0 0] 28 (0, 0)) (by (with_reducible repeat (first | refine zq6 ?_ _ | refine zq8 ?_ | refine zq7 ?_ _)); exact BK.out) hb); clear HB BK; have HB := n0_; have BK := nk_; clear n0_ nk_ hb; have hcz_0 : w9.cell? ⟨gr, 0, none⟩ = some (.int .i64 0) := (zq4 BK.out 0).trans rfl; have hcz_1 : w9.cell? ⟨gr, 1, none⟩ = some (.slice none 0 0) := (zq4 BK.out 1).trans rfl; have hcz_2 : w9.cell? ⟨gr, 2, none⟩ = some (.slice none 0 0) := (zq4 BK.out 2).trans rfl; have hcz_3 : w9.cell? ⟨gr, 3, none⟩ = some (.slice none 0 0) := (zq4 BK.out 3).trans rfl; have hcz_4 : w9.cell? ⟨gr, 4, none⟩ = some (.slice none 0 0) := (zq4 BK.out 4).trans rfl; have hfz_0 := zq5 BK.out 0; have hfz_1 := zq5 BK.out 1; have hfz_2 := zq5 BK.out 2; have hfz_3 := zq5 BK.out 3; have hfz_4 := zq5 BK.out 4))
  have hset : ∀ {W : World} (h : Below w.heap.size w W) (j : Nat) (u : Value), Below w.heap.size w (W.setCell ⟨gr, j, none⟩ u) := fun h j u => zq3 h HGR.out
  refine bodyPost_ret (results_cell_row rfl _ _ gr 28 #[.int .i64 0, .slice none 0 0, .slice none 0 0, .slice none 0 0, .slice none 0 0] (0, 0) _ rfl (by
    refine blk_put (cs := #[.int .i64 0, .slice none 0 0, .slice none 0 0, .slice none 0 0, .slice none 0 0]) ?_ 4 _ rfl
    refine blk_put (cs := #[.int .i64 0, .slice none 0 0, .slice none 0 0, .slice none 0 0, .slice none 0 0]) ?_ 3 _ rfl
    refine blk_put (cs := #[.int .i64 0, .slice none 0 0, .slice none 0 0, .slice none 0 0, .slice none 0 0]) ?_ 2 _ rfl
    refine blk_put (cs := #[.int .i64 0, .slice none 0 0, .slice none 0 0, .slice none 0 0, .slice none 0 0]) ?_ 1 _ rfl
    refine blk_put (cs := #[.int .i64 0, .slice none 0 0, .slice none 0 0, .slice none 0 0, .slice none 0 0]) ?_ 0 _ rfl
    exact BK.out) Try.underlying28 rfl (by kernel_rfl)) rfl ?_
  exact ⟨_, _, _, _, rfl, Kd.R_nil _ _ _ _ _, Kd.R_nil _ _ _ _ _, Kd.R_nil _ _ _ _ _, Kd.R_nil _ _ _ _ _, hset (hset (hset (hset (hset HB.out 0 _) 1 _) 2 _) 3 _) 4 _⟩
theorem readDisk_good2 (a0_0 : Int) (A0_1 : Option Addr) (c0_1 : Nat) (l0_1 : List ByteArray) (A0_2 : Option Addr) (c0_2 : Nat) (l0_2 : List ByteArray) (A0_3 : Option Addr) (c0_3 : Nat) (l0_3 : List Bool) (A0_4 : Option Addr) (c0_4 : Nat) (l0_4 : List (S54)) (w : World) (hr0_1 : Kd.C Kd.string w A0_1 l0_1.length l0_1) (hc0_1 : l0_1.length ≤ c0_1) (hr0_2 : Kd.C Kd.string w A0_2 l0_2.length l0_2) (hc0_2 : l0_2.length ≤ c0_2) (hr0_3 : Kd.C Kd.bool w A0_3 l0_3.length l0_3) (hc0_3 : l0_3.length ≤ c0_3) (hr0_4 : Kd.C k54 w A0_4 l0_4.length l0_4) (hc0_4 : l0_4.length ≤ c0_4) (hg : Good a0_0 l0_1 l0_2 l0_3 l0_4) :
    Calls Try.prog 52 #[.agg #[.int .i64 a0_0, .slice A0_1 l0_1.length c0_1, .slice A0_2 l0_2.length c0_2, .slice A0_3 l0_3.length c0_3, .slice A0_4 l0_4.length c0_4]] w fun e w' => ∃ g ns, e = .returned (.tuple #[.pointer (some ⟨g, 0, none⟩), .bool true]) ∧ w.heap.size ≤ g ∧ Drv w' g a0_0 l0_3 l0_1 l0_2 ns ∧ ns.map (·.2) = l0_4 ∧ Below w.heap.size w w' :=
  (readDisk_calls a0_0 A0_1 c0_1 l0_1 A0_2 c0_2 l0_2 A0_3 c0_3 l0_3 A0_4 c0_4 l0_4 w hr0_1 hc0_1 hr0_2 hc0_2 hr0_3 hc0_3 hr0_4 hc0_4).mono fun e w' h => by
    rcases h with h | ⟨_, g, ns, h1, h2, h3, h4, h5⟩
    · exact absurd hg h.1
    · exact ⟨g, ns, h1, h2, h3, h4, h5⟩
set_option maxHeartbeats 4000000 in
set_option maxRecDepth 100000 in
theorem changed_put (a0_0 : Int) (A0_1 : Option Addr) (c0_1 : Nat) (l0_1 : List ByteArray) (A0_2 : Option Addr) (c0_2 : Nat) (l0_2 : List ByteArray) (A0_3 : Option Addr) (c0_3 : Nat) (l0_3 : List Bool) (A0_4 : Option Addr) (c0_4 : Nat) (l0_4 : List (S54)) (cp : Value) (w : World) (hr0_1 : Kd.C Kd.string w A0_1 l0_1.length l0_1) (hc0_1 : l0_1.length ≤ c0_1) (hr0_2 : Kd.C Kd.string w A0_2 l0_2.length l0_2) (hc0_2 : l0_2.length ≤ c0_2) (hr0_3 : Kd.C Kd.bool w A0_3 l0_3.length l0_3) (hc0_3 : l0_3.length ≤ c0_3) (hr0_4 : Kd.C k54 w A0_4 l0_4.length l0_4) (hc0_4 : l0_4.length ≤ c0_4) (hg : Good a0_0 l0_1 l0_2 l0_3 l0_4) (sp2 : List Bool) (sl2 rg2 : List ByteArray) (ws2 : List S54) (hlen : ws2.length ≤ 40)
    (hcl : ∀ (W : World), Below w.heap.size w W → ∀ (g : Nat) (ns : List (Nat × Pt)), Drv W g a0_0 l0_3 l0_1 l0_2 ns → ns.map (·.2) = l0_4 → w.heap.size ≤ g → Calls Try.prog 82 #[.pointer (some ⟨g, 0, none⟩), cp] W fun e w' => ∃ ns2, e = .returned (.bool true) ∧ Drv w' g a0_0 sp2 sl2 rg2 ns2 ∧ ns2.map (·.2) = ws2 ∧ Below g W w') :
    Calls Try.prog 76 #[.agg #[.int .i64 a0_0, .slice A0_1 l0_1.length c0_1, .slice A0_2 l0_2.length c0_2, .slice A0_3 l0_3.length c0_3, .slice A0_4 l0_4.length c0_4], .func (.func 82) #[] #[cp]] w fun e w' => ∃ v1_ v2_ v3_ v4_ : Value, e = .returned (.agg #[.int .i64 a0_0, v1_, v2_, v3_, v4_]) ∧ Kd.R Kd.string 9 w' w.heap.size (fun k_ => some k_ ≠ (v2_ : Value).ownBlock) v1_ sl2 ∧ Kd.R Kd.string 9 w' w.heap.size (fun k_ => some k_ ≠ (v1_ : Value).ownBlock) v2_ rg2 ∧ Kd.R Kd.bool 4 w' w.heap.size (fun _ => True) v3_ sp2 ∧ Kd.R k54 54 w' w.heap.size (fun _ => True) v4_ ws2 ∧ Below w.heap.size w w' := by
  have hu28 := Try.underlying28
  have HGD := Az.mk (fun (W : World) (hb : Below w.heap.size w W) => readDisk_good2 a0_0 A0_1 c0_1 l0_1 A0_2 c0_2 l0_2 A0_3 c0_3 l0_3 A0_4 c0_4 l0_4 W (Kd.C_below hr0_1 hb) hc0_1 (Kd.C_below hr0_2 hb) hc0_2 (Kd.C_below hr0_3 hb) hc0_3 (Kd.C_below hr0_4 hb) hc0_4 hg)
  have HCL := Az.mk hcl
  have HLEN := Az.mk hlen
  have HB := Az.mk (Below.refl w.heap.size w)
  clear hr0_1 hc0_1 hr0_2 hc0_2 hr0_3 hc0_3 hr0_4 hc0_4 hg hcl hlen
  go_enter Try.func76, Try.ntmps76
  go_wp2_with (first | ((with_reducible refine zqg (N := 2) rfl ?_); refine zqb ?hg (N := 2) ?hd (cs := #[.int .i64 a0_0, .slice A0_1 l0_1.length c0_1, .slice A0_2 l0_2.length c0_2, .slice A0_3 l0_3.length c0_3, .slice A0_4 l0_4.length c0_4]) (t := 28) ?hr ?_; (case hd => rfl); (case hg => rfl); (case hr => first | (go_simp; done) | (go_simp; rfl)); intro gb hg w1 hbox hb; have n0_ := Az.mk (below_step (by repeat (first | (with_reducible first | exact HB.out | apply zq2 | apply zq1 | apply below_drew1) | exact HB.out)) hb); have BD := Az.mk hbox; clear HB; have HB := n0_; clear n0_ hb hbox hg; have hcd_0 : w1.cell? ⟨gb, 0, none⟩ = some (.int .i64 a0_0) := (zq4 BD.out 0).trans rfl; have hcd_1 : w1.cell? ⟨gb, 1, none⟩ = some (.slice A0_1 l0_1.length c0_1) := (zq4 BD.out 1).trans rfl; have hcd_2 : w1.cell? ⟨gb, 2, none⟩ = some (.slice A0_2 l0_2.length c0_2) := (zq4 BD.out 2).trans rfl; have hcd_3 : w1.cell? ⟨gb, 3, none⟩ = some (.slice A0_3 l0_3.length c0_3) := (zq4 BD.out 3).trans rfl; have hcd_4 : w1.cell? ⟨gb, 4, none⟩ = some (.slice A0_4 l0_4.length c0_4) := (zq4 BD.out 4).trans rfl) | ((with_reducible refine zqg (N := 4) rfl ?_); refine zqb ?hg (N := 4) ?hd (cs := #[.int .i64 0, .slice none 0 0, .slice none 0 0, .slice none 0 0, .slice none 0 0]) (t := 28) ?hr ?_; (case hd => rfl); (case hg => rfl); (case hr => first | (go_simp; done) | (go_simp; rfl)); intro gr hg w2 hbox hb; have n0_ := Az.mk (below_step (by repeat (first | (with_reducible first | exact HB.out | apply zq2 | apply zq1 | apply below_drew1) | exact HB.out)) hb); have BK := Az.mk hbox; have HGR : Az (w.heap.size ≤ gr) := ⟨by rw [hg]; exact (below_size (by repeat (first | (with_reducible first | exact HB.out | apply zq2 | apply zq1 | apply below_drew1) | exact HB.out)))⟩; have nd_ := Az.mk (blk_below (g := gb) (o := .cells #[.int .i64 a0_0, .slice A0_1 l0_1.length c0_1, .slice A0_2 l0_2.length c0_2, .slice A0_3 l0_3.length c0_3, .slice A0_4 l0_4.length c0_4] 28 (0, 0)) (by (with_reducible repeat (first | refine zq6 ?_ _ | refine zq8 ?_ | refine zq7 ?_ _)); exact BD.out) hb); clear HB BD; have HB := n0_; have BD := nd_; clear n0_ nd_ hb hbox hg; have hcd_0 : w2.cell? ⟨gb, 0, none⟩ = some (.int .i64 a0_0) := (zq4 BD.out 0).trans rfl; have hcd_1 : w2.cell? ⟨gb, 1, none⟩ = some (.slice A0_1 l0_1.length c0_1) := (zq4 BD.out 1).trans rfl; have hcd_2 : w2.cell? ⟨gb, 2, none⟩ = some (.slice A0_2 l0_2.length c0_2) := (zq4 BD.out 2).trans rfl; have hcd_3 : w2.cell? ⟨gb, 3, none⟩ = some (.slice A0_3 l0_3.length c0_3) := (zq4 BD.out 3).trans rfl; have hcd_4 : w2.cell? ⟨gb, 4, none⟩ = some (.slice A0_4 l0_4.length c0_4) := (zq4 BD.out 4).trans rfl) | (go_at_call 52; refine (HGD.out _ (by repeat (first | (with_reducible first | exact HB.out | apply zq2 | apply zq1 | apply below_drew1) | exact HB.out))).mono ?_; rintro e w9 ⟨gd, ns, rfl, hgd, hd, hns, hb⟩; have n0_ := Az.mk (below_step (by repeat (first | (with_reducible first | exact HB.out | apply zq2 | apply zq1 | apply below_drew1) | exact HB.out)) hb); have nk_ := Az.mk (blk_below (g := gr) (o := .cells #[.int .i64 0, .slice none 0 0, .slice none 0 0, .slice none 0 0, .slice none 0 0] 28 (0, 0)) (by (with_reducible repeat (first | refine zq6 ?_ _ | refine zq8 ?_ | refine zq7 ?_ _)); exact BK.out) hb); have HRD : Az (gr < gd) := ⟨Nat.lt_of_lt_of_le (blk_lt (by (with_reducible repeat (first | refine zq6 ?_ _ | refine zq8 ?_ | refine zq7 ?_ _)); exact BK.out)) hgd⟩; have HWD : Az (w.heap.size ≤ gd) := ⟨Nat.le_trans (below_size (by repeat (first | (with_reducible first | exact HB.out | apply zq2 | apply zq1 | apply below_drew1) | exact HB.out))) hgd⟩; have HD := Az.mk hd; have HNS := Az.mk hns; clear HB BK; have HB := n0_; have BK := nk_; clear n0_ nk_ hb hd hns hgd) | (go_at_call 82; refine (HCL.out _ (by repeat (first | (with_reducible first | exact HB.out | apply zq2 | apply zq1 | apply below_drew1) | exact HB.out)) gd ns (by (with_reducible repeat (first | refine drv_drewN ?_ _ | refine drv_drew ?_)); exact HD.out) HNS.out HWD.out).mono ?_; rintro e w10 ⟨ns2, rfl, hd, hns2_, hb⟩; have hns := hns2_; clear hns2_; have hwg := HGR.out; have n0_ := Az.mk (Below.trans (by repeat (first | (with_reducible first | exact HB.out | apply zq2 | apply zq1 | apply below_drew1) | exact HB.out)) (hb.mono (by have h1 := HGR.out; have h2 := HRD.out; omega))); have nk_ : Az (w10.heap[gr]? = some (.cells #[.int .i64 0, .slice none 0 0, .slice none 0 0, .slice none 0 0, .slice none 0 0] 28 (0, 0))) := ⟨(hb.block gr HRD.out).trans (by (with_reducible repeat (first | refine zq6 ?_ _ | refine zq8 ?_ | refine zq7 ?_ _)); exact BK.out)⟩; have nd_ := Az.mk hd; have HNS2 := Az.mk hns; clear HB BK HD HNS; have HB := n0_; have BK := nk_; have HD := nd_; clear n0_ nk_ nd_ hd hns hb hwg) | (go_at_call 50; refine (disk_calls gd a0_0 sp2 sl2 rg2 ns2 _ (by (with_reducible repeat (first | refine drv_drewN ?_ _ | refine drv_drew ?_)); exact HD.out) (by have h1 := HLEN.out; have h2 := congrArg List.length HNS2.out; rw [List.length_map] at h2; omega)).mono ?_; rintro e w12 ⟨v1, v2, v3, v4, rfl, ho1, ho2, ho3, ho4, hb⟩; rw [HNS2.out] at ho4; obtain ⟨A1, c1, rfl⟩ := Kd.R_slice ho1; obtain ⟨A2, c2, rfl⟩ := Kd.R_slice ho2; obtain ⟨A3, c3, rfl⟩ := Kd.R_slice ho3; obtain ⟨A4, c4, rfl⟩ := Kd.R_slice ho4; have n0_ := Az.mk (below_step (by repeat (first | (with_reducible first | exact HB.out | apply zq2 | apply zq1 | apply below_drew1) | exact HB.out)) hb); have n1_ := Az.mk (blk_below (g := gr) (o := .cells #[.int .i64 0, .slice none 0 0, .slice none 0 0, .slice none 0 0, .slice none 0 0] 28 (0, 0)) (by (with_reducible repeat (first | refine zq6 ?_ _ | refine zq8 ?_ | refine zq7 ?_ _)); exact BK.out) hb); have HG5 : Az (gr < _) := ⟨blk_lt (by (with_reducible repeat (first | refine zq6 ?_ _ | refine zq8 ?_ | refine zq7 ?_ _)); exact BK.out)⟩; have HS5 : Az (w.heap.size ≤ _) := ⟨below_size (by repeat (first | (with_reducible first | exact HB.out | apply zq2 | apply zq1 | apply below_drew1) | exact HB.out))⟩; have HO1 := Az.mk ho1; have HO2 := Az.mk ho2; have HO3 := Az.mk ho3; have HO4 := Az.mk ho4; clear HB BK; have HB := n0_; have BK := n1_; clear n0_ n1_ ho1 ho2 ho3 ho4 hb; have hcz_0 : w12.cell? ⟨gr, 0, none⟩ = some (.int .i64 0) := (zq4 BK.out 0).trans rfl; have hcz_1 : w12.cell? ⟨gr, 1, none⟩ = some (.slice none 0 0) := (zq4 BK.out 1).trans rfl; have hcz_2 : w12.cell? ⟨gr, 2, none⟩ = some (.slice none 0 0) := (zq4 BK.out 2).trans rfl; have hcz_3 : w12.cell? ⟨gr, 3, none⟩ = some (.slice none 0 0) := (zq4 BK.out 3).trans rfl; have hcz_4 : w12.cell? ⟨gr, 4, none⟩ = some (.slice none 0 0) := (zq4 BK.out 4).trans rfl; have hfz_0 := zq5 BK.out 0; have hfz_1 := zq5 BK.out 1; have hfz_2 := zq5 BK.out 2; have hfz_3 := zq5 BK.out 3; have hfz_4 := zq5 BK.out 4))
  have hset : ∀ {W : World} (h : Below w.heap.size w W) (j : Nat) (u : Value), Below w.heap.size w (W.setCell ⟨gr, j, none⟩ u) := fun h j u => zq3 h HGR.out
  refine bodyPost_ret (results_cell_row rfl _ _ gr 28 #[.int .i64 a0_0, .slice A1 sl2.length c1, .slice A2 rg2.length c2, .slice A3 sp2.length c3, .slice A4 ws2.length c4] (0, 0) _ rfl (by
    refine blk_put (cs := #[.int .i64 a0_0, .slice A1 sl2.length c1, .slice A2 rg2.length c2, .slice A3 sp2.length c3, .slice none 0 0]) ?_ 4 _ rfl
    refine blk_put (cs := #[.int .i64 a0_0, .slice A1 sl2.length c1, .slice A2 rg2.length c2, .slice none 0 0, .slice none 0 0]) ?_ 3 _ rfl
    refine blk_put (cs := #[.int .i64 a0_0, .slice A1 sl2.length c1, .slice none 0 0, .slice none 0 0, .slice none 0 0]) ?_ 2 _ rfl
    refine blk_put (cs := #[.int .i64 a0_0, .slice none 0 0, .slice none 0 0, .slice none 0 0, .slice none 0 0]) ?_ 1 _ rfl
    refine blk_put (cs := #[.int .i64 0, .slice none 0 0, .slice none 0 0, .slice none 0 0, .slice none 0 0]) ?_ 0 _ rfl
    exact BK.out) Try.underlying28 rfl (by kernel_rfl)) rfl ?_
  exact ⟨_, _, _, _, rfl, Kd.R_lower (R_setOwn (R_setOwn (R_setOwn (R_setOwn (R_setOwn HO1.out HG5.out 0 _) HG5.out 1 _) HG5.out 2 _) HG5.out 3 _) HG5.out 4 _) HS5.out,
    Kd.R_lower (R_setOwn (R_setOwn (R_setOwn (R_setOwn (R_setOwn HO2.out HG5.out 0 _) HG5.out 1 _) HG5.out 2 _) HG5.out 3 _) HG5.out 4 _) HS5.out,
    Kd.R_lower (R_setOwn (R_setOwn (R_setOwn (R_setOwn (R_setOwn HO3.out HG5.out 0 _) HG5.out 1 _) HG5.out 2 _) HG5.out 3 _) HG5.out 4 _) HS5.out,
    Kd.R_lower (R_setOwn (R_setOwn (R_setOwn (R_setOwn (R_setOwn HO4.out HG5.out 0 _) HG5.out 1 _) HG5.out 2 _) HG5.out 3 _) HG5.out 4 _) HS5.out,
    hset (hset (hset (hset (hset HB.out 0 _) 1 _) 2 _) 3 _) 4 _⟩
set_option maxHeartbeats 4000000 in
set_option maxRecDepth 100000 in
theorem changed_put_no (a0_0 : Int) (A0_1 : Option Addr) (c0_1 : Nat) (l0_1 : List ByteArray) (A0_2 : Option Addr) (c0_2 : Nat) (l0_2 : List ByteArray) (A0_3 : Option Addr) (c0_3 : Nat) (l0_3 : List Bool) (A0_4 : Option Addr) (c0_4 : Nat) (l0_4 : List (S54)) (cp : Value) (w : World) (hr0_1 : Kd.C Kd.string w A0_1 l0_1.length l0_1) (hc0_1 : l0_1.length ≤ c0_1) (hr0_2 : Kd.C Kd.string w A0_2 l0_2.length l0_2) (hc0_2 : l0_2.length ≤ c0_2) (hr0_3 : Kd.C Kd.bool w A0_3 l0_3.length l0_3) (hc0_3 : l0_3.length ≤ c0_3) (hr0_4 : Kd.C k54 w A0_4 l0_4.length l0_4) (hc0_4 : l0_4.length ≤ c0_4) (hg : Good a0_0 l0_1 l0_2 l0_3 l0_4)
    (hcl : ∀ (W : World), Below w.heap.size w W → ∀ (g : Nat) (ns : List (Nat × Pt)), Drv W g a0_0 l0_3 l0_1 l0_2 ns → ns.map (·.2) = l0_4 → w.heap.size ≤ g → Calls Try.prog 82 #[.pointer (some ⟨g, 0, none⟩), cp] W fun e w' => e = .returned (.bool false) ∧ Below g W w') :
    Calls Try.prog 76 #[.agg #[.int .i64 a0_0, .slice A0_1 l0_1.length c0_1, .slice A0_2 l0_2.length c0_2, .slice A0_3 l0_3.length c0_3, .slice A0_4 l0_4.length c0_4], .func (.func 82) #[] #[cp]] w fun e w' => ∃ v1_ v2_ v3_ v4_ : Value, e = .returned (.agg #[.int .i64 0, v1_, v2_, v3_, v4_]) ∧ Kd.R Kd.string 9 w' w.heap.size (fun k_ => some k_ ≠ (v2_ : Value).ownBlock) v1_ ([] : List ByteArray) ∧ Kd.R Kd.string 9 w' w.heap.size (fun k_ => some k_ ≠ (v1_ : Value).ownBlock) v2_ ([] : List ByteArray) ∧ Kd.R Kd.bool 4 w' w.heap.size (fun _ => True) v3_ ([] : List Bool) ∧ Kd.R k54 54 w' w.heap.size (fun _ => True) v4_ ([] : List S54) ∧ Below w.heap.size w w' := by
  have hu28 := Try.underlying28
  have HGD := Az.mk (fun (W : World) (hb : Below w.heap.size w W) => readDisk_good2 a0_0 A0_1 c0_1 l0_1 A0_2 c0_2 l0_2 A0_3 c0_3 l0_3 A0_4 c0_4 l0_4 W (Kd.C_below hr0_1 hb) hc0_1 (Kd.C_below hr0_2 hb) hc0_2 (Kd.C_below hr0_3 hb) hc0_3 (Kd.C_below hr0_4 hb) hc0_4 hg)
  have HCL := Az.mk hcl
  have HB := Az.mk (Below.refl w.heap.size w)
  clear hr0_1 hc0_1 hr0_2 hc0_2 hr0_3 hc0_3 hr0_4 hc0_4 hg hcl
  go_enter Try.func76, Try.ntmps76
  go_wp2_with (first | ((with_reducible refine zqg (N := 2) rfl ?_); refine zqb ?hg (N := 2) ?hd (cs := #[.int .i64 a0_0, .slice A0_1 l0_1.length c0_1, .slice A0_2 l0_2.length c0_2, .slice A0_3 l0_3.length c0_3, .slice A0_4 l0_4.length c0_4]) (t := 28) ?hr ?_; (case hd => rfl); (case hg => rfl); (case hr => first | (go_simp; done) | (go_simp; rfl)); intro gb hg w1 hbox hb; have n0_ := Az.mk (below_step (by repeat (first | (with_reducible first | exact HB.out | apply zq2 | apply zq1 | apply below_drew1) | exact HB.out)) hb); have BD := Az.mk hbox; clear HB; have HB := n0_; clear n0_ hb hbox hg; have hcd_0 : w1.cell? ⟨gb, 0, none⟩ = some (.int .i64 a0_0) := (zq4 BD.out 0).trans rfl; have hcd_1 : w1.cell? ⟨gb, 1, none⟩ = some (.slice A0_1 l0_1.length c0_1) := (zq4 BD.out 1).trans rfl; have hcd_2 : w1.cell? ⟨gb, 2, none⟩ = some (.slice A0_2 l0_2.length c0_2) := (zq4 BD.out 2).trans rfl; have hcd_3 : w1.cell? ⟨gb, 3, none⟩ = some (.slice A0_3 l0_3.length c0_3) := (zq4 BD.out 3).trans rfl; have hcd_4 : w1.cell? ⟨gb, 4, none⟩ = some (.slice A0_4 l0_4.length c0_4) := (zq4 BD.out 4).trans rfl) | ((with_reducible refine zqg (N := 4) rfl ?_); refine zqb ?hg (N := 4) ?hd (cs := #[.int .i64 0, .slice none 0 0, .slice none 0 0, .slice none 0 0, .slice none 0 0]) (t := 28) ?hr ?_; (case hd => rfl); (case hg => rfl); (case hr => first | (go_simp; done) | (go_simp; rfl)); intro gr hg w2 hbox hb; have n0_ := Az.mk (below_step (by repeat (first | (with_reducible first | exact HB.out | apply zq2 | apply zq1 | apply below_drew1) | exact HB.out)) hb); have BK := Az.mk hbox; have HGR : Az (w.heap.size ≤ gr) := ⟨by rw [hg]; exact (below_size (by repeat (first | (with_reducible first | exact HB.out | apply zq2 | apply zq1 | apply below_drew1) | exact HB.out)))⟩; have nd_ := Az.mk (blk_below (g := gb) (o := .cells #[.int .i64 a0_0, .slice A0_1 l0_1.length c0_1, .slice A0_2 l0_2.length c0_2, .slice A0_3 l0_3.length c0_3, .slice A0_4 l0_4.length c0_4] 28 (0, 0)) (by (with_reducible repeat (first | refine zq6 ?_ _ | refine zq8 ?_ | refine zq7 ?_ _)); exact BD.out) hb); clear HB BD; have HB := n0_; have BD := nd_; clear n0_ nd_ hb hbox hg; have hcd_0 : w2.cell? ⟨gb, 0, none⟩ = some (.int .i64 a0_0) := (zq4 BD.out 0).trans rfl; have hcd_1 : w2.cell? ⟨gb, 1, none⟩ = some (.slice A0_1 l0_1.length c0_1) := (zq4 BD.out 1).trans rfl; have hcd_2 : w2.cell? ⟨gb, 2, none⟩ = some (.slice A0_2 l0_2.length c0_2) := (zq4 BD.out 2).trans rfl; have hcd_3 : w2.cell? ⟨gb, 3, none⟩ = some (.slice A0_3 l0_3.length c0_3) := (zq4 BD.out 3).trans rfl; have hcd_4 : w2.cell? ⟨gb, 4, none⟩ = some (.slice A0_4 l0_4.length c0_4) := (zq4 BD.out 4).trans rfl) | (go_at_call 52; refine (HGD.out _ (by repeat (first | (with_reducible first | exact HB.out | apply zq2 | apply zq1 | apply below_drew1) | exact HB.out))).mono ?_; rintro e w9 ⟨gd, ns, rfl, hgd, hd, hns, hb⟩; have n0_ := Az.mk (below_step (by repeat (first | (with_reducible first | exact HB.out | apply zq2 | apply zq1 | apply below_drew1) | exact HB.out)) hb); have nk_ := Az.mk (blk_below (g := gr) (o := .cells #[.int .i64 0, .slice none 0 0, .slice none 0 0, .slice none 0 0, .slice none 0 0] 28 (0, 0)) (by (with_reducible repeat (first | refine zq6 ?_ _ | refine zq8 ?_ | refine zq7 ?_ _)); exact BK.out) hb); have HRD : Az (gr < gd) := ⟨Nat.lt_of_lt_of_le (blk_lt (by (with_reducible repeat (first | refine zq6 ?_ _ | refine zq8 ?_ | refine zq7 ?_ _)); exact BK.out)) hgd⟩; have HWD : Az (w.heap.size ≤ gd) := ⟨Nat.le_trans (below_size (by repeat (first | (with_reducible first | exact HB.out | apply zq2 | apply zq1 | apply below_drew1) | exact HB.out))) hgd⟩; have HD := Az.mk hd; have HNS := Az.mk hns; clear HB BK; have HB := n0_; have BK := nk_; clear n0_ nk_ hb hd hns hgd) | (go_at_call 82; refine (HCL.out _ (by repeat (first | (with_reducible first | exact HB.out | apply zq2 | apply zq1 | apply below_drew1) | exact HB.out)) gd ns (by (with_reducible repeat (first | refine drv_drewN ?_ _ | refine drv_drew ?_)); exact HD.out) HNS.out HWD.out).mono ?_; rintro e w10 ⟨rfl, hb⟩; have n0_ := Az.mk (Below.trans (by repeat (first | (with_reducible first | exact HB.out | apply zq2 | apply zq1 | apply below_drew1) | exact HB.out)) (hb.mono (by have h1 := HGR.out; have h2 := HRD.out; omega))); have nk_ : Az (w10.heap[gr]? = some (.cells #[.int .i64 0, .slice none 0 0, .slice none 0 0, .slice none 0 0, .slice none 0 0] 28 (0, 0))) := ⟨(hb.block gr HRD.out).trans (by (with_reducible repeat (first | refine zq6 ?_ _ | refine zq8 ?_ | refine zq7 ?_ _)); exact BK.out)⟩; clear HB BK HD HNS; have HB := n0_; have BK := nk_; clear n0_ nk_ hb; have hcz_0 : w10.cell? ⟨gr, 0, none⟩ = some (.int .i64 0) := (zq4 BK.out 0).trans rfl; have hcz_1 : w10.cell? ⟨gr, 1, none⟩ = some (.slice none 0 0) := (zq4 BK.out 1).trans rfl; have hcz_2 : w10.cell? ⟨gr, 2, none⟩ = some (.slice none 0 0) := (zq4 BK.out 2).trans rfl; have hcz_3 : w10.cell? ⟨gr, 3, none⟩ = some (.slice none 0 0) := (zq4 BK.out 3).trans rfl; have hcz_4 : w10.cell? ⟨gr, 4, none⟩ = some (.slice none 0 0) := (zq4 BK.out 4).trans rfl; have hfz_0 := zq5 BK.out 0; have hfz_1 := zq5 BK.out 1; have hfz_2 := zq5 BK.out 2; have hfz_3 := zq5 BK.out 3; have hfz_4 := zq5 BK.out 4))
  have hset : ∀ {W : World} (h : Below w.heap.size w W) (j : Nat) (u : Value), Below w.heap.size w (W.setCell ⟨gr, j, none⟩ u) := fun h j u => zq3 h HGR.out
  refine bodyPost_ret (results_cell_row rfl _ _ gr 28 #[.int .i64 0, .slice none 0 0, .slice none 0 0, .slice none 0 0, .slice none 0 0] (0, 0) _ rfl (by
    refine blk_put (cs := #[.int .i64 0, .slice none 0 0, .slice none 0 0, .slice none 0 0, .slice none 0 0]) ?_ 4 _ rfl
    refine blk_put (cs := #[.int .i64 0, .slice none 0 0, .slice none 0 0, .slice none 0 0, .slice none 0 0]) ?_ 3 _ rfl
    refine blk_put (cs := #[.int .i64 0, .slice none 0 0, .slice none 0 0, .slice none 0 0, .slice none 0 0]) ?_ 2 _ rfl
    refine blk_put (cs := #[.int .i64 0, .slice none 0 0, .slice none 0 0, .slice none 0 0, .slice none 0 0]) ?_ 1 _ rfl
    refine blk_put (cs := #[.int .i64 0, .slice none 0 0, .slice none 0 0, .slice none 0 0, .slice none 0 0]) ?_ 0 _ rfl
    exact BK.out) Try.underlying28 rfl (by kernel_rfl)) rfl ?_
  exact ⟨_, _, _, _, rfl, Kd.R_nil _ _ _ _ _, Kd.R_nil _ _ _ _ _, Kd.R_nil _ _ _ _ _, Kd.R_nil _ _ _ _ _, hset (hset (hset (hset (hset HB.out 0 _) 1 _) 2 _) 3 _) 4 _⟩
end Go.Proofs.Ytkgpnloghmbmlaa.Print
