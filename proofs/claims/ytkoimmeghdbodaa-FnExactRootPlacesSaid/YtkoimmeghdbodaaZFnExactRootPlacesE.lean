/- Proved, with what follows on it: the row of the law FnExactRootPlaces. Conditions: the row's alone. Texts of this session and words that the kit's print laid for this seat, merged and cut by shrink.py, a program of this session. -/
import Derived.Test.YtkoimmeghdbodaaZFnExactRootPlacesD
namespace Go.Proofs.Ytkoimmeghdbodaa.Print
open Go.RowKit Go.Proofs.YtkoimmeghdbodaaW.PrintWords Go.Proofs.YtkoimmeghdbodaaW.PrintLast Go.Proofs.YtkoimmeghdbodaaW.PrintMore Go.Proofs.Ytkoimmeghdbodaa.Pure
set_option linter.unusedVariables false
set_option linter.unusedSimpArgs false
structure Mk (lo hi : Nat) (w w' : World) : Prop where
  os : w'.os = w.os
  tape : w'.tape = w.tape
  output : w'.output = w.output
  size : w.heap.size ≤ w'.heap.size
  far : ∀ b, b < w.heap.size → (b < lo ∨ hi ≤ b) → w'.heap[b]? = w.heap[b]?
  typ : ∀ (b : Nat) (cs : Array Value) (t : Nat), w.heap[b]? = some (Obj.cells cs t (0, 0)) → ∃ cs' : Array Value, w'.heap[b]? = some (Obj.cells cs' t (0, 0)) ∧ cs'.size = cs.size ∧ (t = 29 → ∀ i, cs'[i * 3 + 2]? = cs[i * 3 + 2]?) ∧ (t = 65 → ∀ i, cs'[i * 2 + 1]? = cs[i * 2 + 1]?)
theorem Mk.refl (lo hi : Nat) (w : World) : Mk lo hi w w := ⟨rfl, rfl, rfl, Nat.le_refl _, fun _ _ _ => rfl, fun b cs t h => ⟨cs, h, rfl, fun _ _ => rfl, fun _ _ => rfl⟩⟩
theorem Mk.trans {lo hi : Nat} {u v w : World} (h : Mk lo hi u v) (k : Mk lo hi v w) : Mk lo hi u w :=
  ⟨k.os.trans h.os, k.tape.trans h.tape, k.output.trans h.output, Nat.le_trans h.size k.size, fun b hb hf => (k.far b (Nat.lt_of_lt_of_le hb h.size) hf).trans (h.far b hb hf), fun b cs t hc => by
    obtain ⟨c1, h1, h2, h3, h4⟩ := h.typ b cs t hc
    obtain ⟨c2, k1, k2, k3, k4⟩ := k.typ b c1 t h1
    exact ⟨c2, k1, k2.trans h2, fun e i => (k3 e i).trans (h3 e i), fun e i => (k4 e i).trans (h4 e i)⟩⟩
theorem Mk.of_below {lo hi : Nat} {w w' : World} (h : Below w.heap.size w w') : Mk lo hi w w' :=
  ⟨h.os, h.tape, h.output, h.size, fun b hb _ => h.block b hb, fun b cs t hc => ⟨cs, (h.block b (blk_lt hc)).trans hc, rfl, fun _ _ => rfl, fun _ _ => rfl⟩⟩
theorem Mk.set {lo hi : Nat} {w : World} {g : Nat} {cs : Array Value} {t : Nat} (hg : lo ≤ g ∧ g < hi) (hb : w.heap[g]? = some (.cells cs t (0, 0))) (j : Nat) (hj : t = 37 ∨ (t = 29 ∧ j % 3 ≠ 2) ∨ (t = 65 ∧ j % 2 = 0)) (v : Value) : Mk lo hi w (w.setCell ⟨g, j, none⟩ v) :=
  ⟨rfl, rfl, rfl, by simp [World.setCell], fun b _ hf => Below.heap_setCell w _ v b (by show b ≠ g; omega), fun b cs0 t0 hc => by
    by_cases e : b = g
    · subst e
      rw [hb] at hc
      simp only [Option.some.injEq, Obj.cells.injEq] at hc
      obtain ⟨rfl, rfl, _⟩ := hc
      refine ⟨_, blk_set hb j v, by simp, fun e i => ?_, fun e i => ?_⟩
      · rw [Array.getElem?_setIfInBounds_ne (by omega)]
      · rw [Array.getElem?_setIfInBounds_ne (by omega)]
    · exact ⟨cs0, (Below.heap_setCell w _ v b e).trans hc, rfl, fun _ _ => rfl, fun _ _ => rfl⟩⟩
def ShPl (w : World) (lo hi : Nat) (v : Value) (n : Nat) : Prop :=
  (∃ c, v = .slice none 0 c ∧ n = 0) ∨ ∃ (g c : Nat) (cs : Array Value), v = .slice (some ⟨g, 0, none⟩) n c ∧ (lo ≤ g ∧ g < hi) ∧ w.heap[g]? = some (Obj.cells cs 37 (0, 0)) ∧ n * 2 ≤ cs.size
def ShPt (w : World) (lo hi : Nat) (v : Value) (n : Nat) : Prop :=
  (∃ c, v = .slice none 0 c ∧ n = 0) ∨ ∃ (g c : Nat) (cs : Array Value), v = .slice (some ⟨g, 0, none⟩) n c ∧ (lo ≤ g ∧ g < hi) ∧ w.heap[g]? = some (Obj.cells cs 29 (0, 0)) ∧ n * 3 ≤ cs.size ∧ ∀ i, i < n → ∃ (u : Value) (m : Nat), cs[i * 3 + 2]? = some u ∧ ShPl w lo hi u m ∧ m ≤ 1048576
def ShVo (w : World) (lo hi : Nat) (v : Value) (n : Nat) : Prop :=
  (∃ c, v = .slice none 0 c ∧ n = 0) ∨ ∃ (g c : Nat) (cs : Array Value), v = .slice (some ⟨g, 0, none⟩) n c ∧ (lo ≤ g ∧ g < hi) ∧ w.heap[g]? = some (Obj.cells cs 65 (0, 0)) ∧ n * 2 ≤ cs.size ∧ ∀ i, i < n → ∃ (u : Value) (m : Nat), cs[i * 2 + 1]? = some u ∧ ShPt w lo hi u m ∧ m ≤ 1048576
section
variable {lo hi : Nat} {w w' : World} {v : Value} {n : Nat}
theorem ShPl.keep (h : ShPl w lo hi v n) (k : Mk lo hi w w') : ShPl w' lo hi v n := by
  rcases h with h | ⟨g, c, cs, h1, h2, h3, h4⟩
  · exact Or.inl h
  · obtain ⟨cs', k1, k2, _, _⟩ := k.typ g cs 37 h3
    exact Or.inr ⟨g, c, cs', h1, h2, k1, by rw [k2]; exact h4⟩
theorem ShPt.keep (h : ShPt w lo hi v n) (k : Mk lo hi w w') : ShPt w' lo hi v n := by
  rcases h with h | ⟨g, c, cs, h1, h2, h3, h4, h5⟩
  · exact Or.inl h
  · obtain ⟨cs', k1, k2, k3, _⟩ := k.typ g cs 29 h3
    refine Or.inr ⟨g, c, cs', h1, h2, k1, by rw [k2]; exact h4, fun i hi => ?_⟩
    obtain ⟨u, m, e1, e2, e3⟩ := h5 i hi
    exact ⟨u, m, (k3 rfl i).trans e1, e2.keep k, e3⟩
theorem ShVo.keep (h : ShVo w lo hi v n) (k : Mk lo hi w w') : ShVo w' lo hi v n := by
  rcases h with h | ⟨g, c, cs, h1, h2, h3, h4, h5⟩
  · exact Or.inl h
  · obtain ⟨cs', k1, k2, _, k3⟩ := k.typ g cs 65 h3
    refine Or.inr ⟨g, c, cs', h1, h2, k1, by rw [k2]; exact h4, fun i hi => ?_⟩
    obtain ⟨u, m, e1, e2, e3⟩ := h5 i hi
    exact ⟨u, m, (k3 rfl i).trans e1, e2.keep k, e3⟩
theorem ShPl.cell (h : ShPl w lo hi v n) {i j : Nat} (hi' : i < n) (hj : j < 2) : ∃ (g c : Nat) (cs : Array Value) (u : Value), v = .slice (some ⟨g, 0, none⟩) n c ∧ (lo ≤ g ∧ g < hi) ∧ w.heap[g]? = some (Obj.cells cs 37 (0, 0)) ∧ w.cell? ⟨g, i * 2 + j, none⟩ = some u := by
  rcases h with ⟨_, _, h⟩ | ⟨g, c, cs, h1, h2, h3, h4⟩
  · omega
  · exact ⟨g, c, cs, _, h1, h2, h3, by simp only [World.cell?, h3]; exact Array.getElem?_eq_getElem (by omega)⟩
theorem nofreeze {g : Nat} {cs : Array Value} {t : Nat} (h : w.heap[g]? = some (.cells cs t (0, 0))) (j : Nat) : w.frozen? ⟨g, j, none⟩ = false := by
  simp [World.frozen?, h]
end
set_option maxHeartbeats 4000000 in
set_option maxRecDepth 100000 in
theorem markPl_call (lo hi : Nat) (v : Value) (n : Nat) (k0 : Int) (w : World) (h : ShPl w lo hi v n) (hn : n ≤ 1048576) (hk : 0 ≤ k0 ∧ k0 ≤ 8000000000000000000) :
    Calls Try.prog 32 #[v, .int .i64 k0] w fun e w' => e = .returned (.int .i64 (k0 + 2 * n)) ∧ Mk lo hi w w' := by
  have HS := Az.mk h
  have HN := Az.mk hn
  have HK := Az.mk hk
  have HE0 : Az (∃ A c, v = .slice A n c) := ⟨by
    rcases h with ⟨c, rfl, rfl⟩ | ⟨g, c, cs, rfl, _⟩
    · exact ⟨_, _, rfl⟩
    · exact ⟨_, _, rfl⟩⟩
  clear h hn hk
  obtain ⟨A, cc, rfl⟩ := HE0.out
  clear HE0
  have HM0 := Az.mk (Mk.refl lo hi w)
  go_enter Try.func32, Try.ntmps32
  go_wp2
  go_loopg [1, 5] n (fun kq v1 v5 wr => ∃ (i : Nat) (kk : Int), v5 = .int .i64 (i : Int) ∧ v1 = .int .i64 kk ∧ Az (kk = k0 + 2 * i) ∧ Az (i + kq = n) ∧ Az (Mk lo hi w wr))
  case atStart => exact ⟨0, k0, rfl, rfl, ⟨by omega⟩, ⟨Nat.zero_add _⟩, HM0⟩
  case round =>
    obtain ⟨i, kk, rfl, rfl, HV, HI, HM⟩ := hrel
    by_cases e1 : i < n
    · have e1b : decide ((i : Int) < (n : Int)) = true := decide_eq_true (by omega)
      have p1 := eq_true (show (0 : Int) ≤ (i : Int) by omega)
      have q1 := eq_true (show (i : Int) < (n : Int) by omega)
      have HW1 : Az (wrap64 ((i : Int) + 1) = ((i + 1 : Nat) : Int)) := ⟨by rw [Pure.wrap_ok (by have := HN.out; omega)]; omega⟩
      have HW2 : Az (wrap64 (kk + 1) = kk + 1) := ⟨Pure.wrap_ok (by have := HV.out; have := HK.out; have := HN.out; omega)⟩
      have HW3 : Az (wrap64 (kk + 1 + 1) = kk + 2) := ⟨by rw [Pure.wrap_ok (by have := HV.out; have := HK.out; have := HN.out; omega)]; omega⟩
      have hs := HS.out.keep HM.out
      obtain ⟨g, c, cs, u0, eA, hg, hb, hc0⟩ := hs.cell e1 (j := 0) (by omega)
      obtain ⟨g', c', cs', u1, eA', _, _, hc1⟩ := hs.cell e1 (j := 1) (by omega)
      injection eA with eA _ eC
      subst eA
      subst eC
      have eg : g = g' := by
        injection eA' with h1 h2 h3
        injection h1 with h1
        injection h1
      subst eg
      have hf0 := nofreeze hb (i * 2)
      have hm1 := Mk.set hg hb (i * 2) (Or.inl rfl) (.int .i64 kk)
      have hb2 := blk_set hb (i * 2) (.int .i64 kk)
      have hf1 := nofreeze hb2 (i * 2 + 1)
      have hc1b : (wr.setCell ⟨g, i * 2, none⟩ (.int .i64 kk)).cell? ⟨g, i * 2 + 1, none⟩ = some u1 := by
        rw [← hc1]
        simp only [World.cell?, hb2, hb]
        rw [Array.getElem?_setIfInBounds_ne (by omega)]
      have hm2 := Mk.set hg hb2 (i * 2 + 1) (Or.inl rfl) (.int .i64 (wrap64 (kk + 1)))
      have HM2 := Az.mk ((HM.out.trans hm1).trans hm2)
      rw [Nat.add_zero] at hc0
      clear hm1 hm2 hb2 hb hs hg eA' hc1
      go_wp2
      go_roundg (n - (i + 1))
      case measure => have := HI.out; omega
      case rel => exact ⟨i + 1, _, by rw [← HW1.out], rfl, ⟨by rw [HW2.out, HW3.out]; have := HV.out; omega⟩, ⟨by have := HI.out; omega⟩, HM2⟩
    · have e1b : decide ((i : Int) < (n : Int)) = false := decide_eq_false (by omega)
      have hi : i = n := by have := HI.out; omega
      subst hi
      go_wp2
      go_ret
      exact ⟨by rw [← HV.out]; rfl, HM.out⟩
theorem ShPt.cell {lo hi : Nat} {w : World} {v : Value} {n : Nat} (h : ShPt w lo hi v n) {i : Nat} (hi' : i < n) : ∃ (g c : Nat) (cs : Array Value) (u0 u1 u : Value) (m : Nat), v = .slice (some ⟨g, 0, none⟩) n c ∧ (lo ≤ g ∧ g < hi) ∧ w.heap[g]? = some (Obj.cells cs 29 (0, 0)) ∧ cs[i * 3]? = some u0 ∧ cs[i * 3 + 1]? = some u1 ∧ cs[i * 3 + 2]? = some u ∧ ShPl w lo hi u m ∧ m ≤ 1048576 := by
  rcases h with ⟨_, _, h⟩ | ⟨g, c, cs, h1, h2, h3, h4, h5⟩
  · omega
  · obtain ⟨u, m, e1, e2, e3⟩ := h5 i hi'
    exact ⟨g, c, cs, _, _, u, m, h1, h2, h3, Array.getElem?_eq_getElem (by omega), Array.getElem?_eq_getElem (by omega), e1, e2, e3⟩
set_option maxHeartbeats 4000000 in
set_option maxRecDepth 100000 in
theorem markPt_call (lo hi : Nat) (v : Value) (n : Nat) (k0 : Int) (w : World) (h : ShPt w lo hi v n) (hn : n ≤ 1048576) (hk : 0 ≤ k0 ∧ k0 ≤ 7000000000000000000) :
    Calls Try.prog 113 #[v, .int .i64 k0] w fun e w' => ∃ k' : Int, e = .returned (.int .i64 k') ∧ k0 ≤ k' ∧ k' ≤ k0 + 2097154 * n ∧ Mk lo hi w w' := by
  have hu29 := Try.underlying29
  have HS := Az.mk h
  have HN := Az.mk hn
  have HK := Az.mk hk
  have HE0 : Az (∃ A c, v = .slice A n c) := ⟨by
    rcases h with ⟨c, rfl, rfl⟩ | ⟨g, c, cs, rfl, _⟩
    · exact ⟨_, _, rfl⟩
    · exact ⟨_, _, rfl⟩⟩
  clear h hn hk
  obtain ⟨A, cc, rfl⟩ := HE0.out
  clear HE0
  have HM0 := Az.mk (Mk.refl lo hi w)
  go_enter Try.func113, Try.ntmps113
  go_wp2
  go_loopg [1, 5] n (fun kq v1 v5 wr => ∃ (i : Nat) (kk : Int), v5 = .int .i64 (i : Int) ∧ v1 = .int .i64 kk ∧ Az (k0 ≤ kk ∧ kk ≤ k0 + 2097154 * i) ∧ Az (i + kq = n) ∧ Az (Mk lo hi w wr))
  case atStart => exact ⟨0, k0, rfl, rfl, ⟨by omega⟩, ⟨Nat.zero_add _⟩, HM0⟩
  case round =>
    obtain ⟨i, kk, rfl, rfl, HV, HI, HM⟩ := hrel
    by_cases e1 : i < n
    · have e1b : decide ((i : Int) < (n : Int)) = true := decide_eq_true (by omega)
      have p1 := eq_true (show (0 : Int) ≤ (i : Int) by omega)
      have q1 := eq_true (show (i : Int) < (n : Int) by omega)
      have HW1 : Az (wrap64 ((i : Int) + 1) = ((i + 1 : Nat) : Int)) := ⟨by rw [Pure.wrap_ok (by have := HN.out; omega)]; omega⟩
      have HW2 : Az (wrap64 (kk + 1) = kk + 1) := ⟨Pure.wrap_ok (by have := HV.out; have := HK.out; have := HN.out; omega)⟩
      have HW3 : Az (wrap64 (kk + 1 + 1) = kk + 2) := ⟨by rw [Pure.wrap_ok (by have := HV.out; have := HK.out; have := HN.out; omega)]; omega⟩
      have HKB : Az (0 ≤ kk + 2 ∧ kk + 2 ≤ 8000000000000000000) := ⟨by have := HV.out; have := HK.out; have := HN.out; omega⟩
      have hs := HS.out.keep HM.out
      obtain ⟨g, c, cs, u0, u1, u, m, eA, hg, hb, hd0, hd1, hd2, hsp, hmm⟩ := hs.cell e1
      injection eA with eA _ eC
      subst eA
      subst eC
      have hc0 : wr.cell? ⟨g, i * 3, none⟩ = some u0 := (zq4 hb _).trans hd0
      have hf0 := nofreeze hb (i * 3)
      have hm1 := Mk.set hg hb (i * 3) (Or.inr (Or.inl ⟨rfl, by omega⟩)) (.int .i64 kk)
      have hb2 := blk_set hb (i * 3) (.int .i64 kk)
      have hf1 := nofreeze hb2 (i * 3 + 1)
      have hc1 : (wr.setCell ⟨g, i * 3, none⟩ (.int .i64 kk)).cell? ⟨g, i * 3 + 1, none⟩ = some u1 := by
        rw [zq4 hb2, Array.getElem?_setIfInBounds_ne (by omega)]
        exact hd1
      have hm2 := Mk.set hg hb2 (i * 3 + 1) (Or.inr (Or.inl ⟨rfl, by omega⟩)) (.int .i64 (wrap64 (kk + 1)))
      have hb3 := blk_set hb2 (i * 3 + 1) (.int .i64 (wrap64 (kk + 1)))
      have hc2 : ((wr.setCell ⟨g, i * 3, none⟩ (.int .i64 kk)).setCell ⟨g, i * 3 + 1, none⟩ (.int .i64 (wrap64 (kk + 1)))).cell? ⟨g, i * 3 + 2, none⟩ = some u := by
        rw [zq4 hb3, Array.getElem?_setIfInBounds_ne (by omega), Array.getElem?_setIfInBounds_ne (by omega)]
        exact hd2
      have HM2 := Az.mk ((HM.out.trans hm1).trans hm2)
      have HSP := Az.mk (hsp.keep (hm1.trans hm2))
      have HMM := Az.mk hmm
      clear hm1 hm2 hb3 hb2 hb hs hg hd0 hd1 hd2 hsp hmm
      go_wp2_with (first | (go_at_call 32; refine (markPl_call lo hi u m (wrap64 (wrap64 (kk + 1) + 1)) _ HSP.out HMM.out (by rw [HW2.out, HW3.out]; exact HKB.out)).mono ?_; rintro e w9 ⟨rfl, hm9⟩; have M9 := Az.mk hm9; clear hm9) | go_in)
      go_roundg (n - (i + 1))
      case measure => have := HI.out; omega
      case rel => exact ⟨i + 1, _, by rw [← HW1.out], rfl, ⟨by rw [HW2.out, HW3.out]; have := HV.out; have := HMM.out; omega⟩, ⟨by have := HI.out; omega⟩, ⟨HM2.out.trans M9.out⟩⟩
    · have e1b : decide ((i : Int) < (n : Int)) = false := decide_eq_false (by omega)
      have hi : i = n := by have := HI.out; omega
      subst hi
      go_wp2
      go_ret
      exact ⟨kk, rfl, HV.out.1, HV.out.2, HM.out⟩
theorem markText_l0 (n : Nat) : ∀ (x : Nat) (s : ByteArray), x < n → x + s.size ≤ 9223372036854775806 → ∃ r, Ev (fun k => laws_markText.l0 k (x : Int) s) r := by
  induction n with
  | zero => intro x s h; omega
  | succ n ih =>
    intro x s hx hs
    by_cases h0 : x = 0
    · refine ⟨(⟨#[109]⟩ : ByteArray) ++ s, Pure.Ev.next ?_⟩
      simp only [laws_markText.l0]
      exact Pure.Ev.neg (by omega) (Pure.Ev.pos (by omega) (Pure.Ev.ret rfl))
    · have e : wrap64 (Int.tdiv (x : Int) 10) = ((x / 10 : Nat) : Int) := by
        rw [Int.tdiv_eq_ediv_of_nonneg (by omega), Pure.wrap_ok (by omega)]
        omega
      have hz := Pure.strOfNums_size [(wrap64 (48 + (Int.tmod (x : Int) 10))) % 256]
      have hz2 : (strOfNums [(wrap64 (48 + (Int.tmod (x : Int) 10))) % 256] ++ s).size = 1 + s.size := by rw [ByteArray.size_append, hz]; rfl
      obtain ⟨r, hr⟩ := ih (x / 10) (strOfNums [(wrap64 (48 + (Int.tmod (x : Int) 10))) % 256] ++ s) (by omega) (by rw [hz2]; omega)
      refine ⟨r, Pure.Ev.next ?_⟩
      simp only [laws_markText.l0, e]
      exact Pure.Ev.pos (by omega) (Pure.Ev.take rfl (Pure.Ev.pos (by rw [hz]; simp; omega) hr))
theorem markText_some (x : Int) (hx : x ≤ 9223372036854775806) : ∃ r, ∀ w : World, Calls Try.prog 112 #[.int .i64 x] w fun e w' => e = .returned (.string r) ∧ Below w.heap.size w w' := by
  by_cases h : x ≤ 0
  · exact ⟨_, fun w => laws_markText.calls 0 x _ w (by unfold laws_markText.f; rw [if_pos h])⟩
  · obtain ⟨m, rfl⟩ := Int.eq_ofNat_of_zero_le (show 0 ≤ x by omega)
    obtain ⟨r, hr⟩ := markText_l0 (m + 1) m (⟨#[]⟩ : ByteArray) (by omega) (by show m + 0 ≤ _; omega)
    obtain ⟨k, hk⟩ := Ev.rounds hr
    exact ⟨r, fun w => laws_markText.calls k m r w (by unfold laws_markText.f; rw [if_neg h]; exact hk)⟩
theorem ShVo.cell {lo hi : Nat} {w : World} {v : Value} {n : Nat} (h : ShVo w lo hi v n) {i : Nat} (hi' : i < n) : ∃ (g c : Nat) (cs : Array Value) (u0 u : Value) (m : Nat), v = .slice (some ⟨g, 0, none⟩) n c ∧ (lo ≤ g ∧ g < hi) ∧ w.heap[g]? = some (Obj.cells cs 65 (0, 0)) ∧ cs[i * 2]? = some u0 ∧ cs[i * 2 + 1]? = some u ∧ ShPt w lo hi u m ∧ m ≤ 1048576 := by
  rcases h with ⟨_, _, h⟩ | ⟨g, c, cs, h1, h2, h3, h4, h5⟩
  · omega
  · obtain ⟨u, m, e1, e2, e3⟩ := h5 i hi'
    exact ⟨g, c, cs, _, u, m, h1, h2, h3, Array.getElem?_eq_getElem (by omega), e1, e2, e3⟩
set_option maxHeartbeats 4000000 in
set_option maxRecDepth 100000 in
theorem markVo_call (lo hi : Nat) (v : Value) (n : Nat) (k0 : Int) (w : World) (h : ShVo w lo hi v n) (hn : n ≤ 1048576) (hk : 0 ≤ k0 ∧ k0 ≤ 4000000000000000000) :
    Calls Try.prog 88 #[v, .int .i64 k0] w fun e w' => ∃ k' : Int, e = .returned (.int .i64 k') ∧ k0 ≤ k' ∧ k' ≤ k0 + 2199025352705 * n ∧ Mk lo hi w w' := by
  have hu65 := Try.underlying65
  have HS := Az.mk h
  have HN := Az.mk hn
  have HK := Az.mk hk
  have HE0 : Az (∃ A c, v = .slice A n c) := ⟨by
    rcases h with ⟨c, rfl, rfl⟩ | ⟨g, c, cs, rfl, _⟩
    · exact ⟨_, _, rfl⟩
    · exact ⟨_, _, rfl⟩⟩
  clear h hn hk
  obtain ⟨A, cc, rfl⟩ := HE0.out
  clear HE0
  have HM0 := Az.mk (Mk.refl lo hi w)
  go_enter Try.func88, Try.ntmps88
  go_wp2
  go_loopg [1, 5] n (fun kq v1 v5 wr => ∃ (i : Nat) (kk : Int), v5 = .int .i64 (i : Int) ∧ v1 = .int .i64 kk ∧ Az (k0 ≤ kk ∧ kk ≤ k0 + 2199025352705 * i) ∧ Az (i + kq = n) ∧ Az (Mk lo hi w wr))
  case atStart => exact ⟨0, k0, rfl, rfl, ⟨by omega⟩, ⟨Nat.zero_add _⟩, HM0⟩
  case round =>
    obtain ⟨i, kk, rfl, rfl, HV, HI, HM⟩ := hrel
    by_cases e1 : i < n
    · have e1b : decide ((i : Int) < (n : Int)) = true := decide_eq_true (by omega)
      have p1 := eq_true (show (0 : Int) ≤ (i : Int) by omega)
      have q1 := eq_true (show (i : Int) < (n : Int) by omega)
      have HW1 : Az (wrap64 ((i : Int) + 1) = ((i + 1 : Nat) : Int)) := ⟨by rw [Pure.wrap_ok (by have := HN.out; omega)]; omega⟩
      have HW2 : Az (wrap64 (kk + 1) = kk + 1) := ⟨Pure.wrap_ok (by have := HV.out; have := HK.out; have := HN.out; omega)⟩
      have HKB : Az (0 ≤ kk + 1 ∧ kk + 1 ≤ 7000000000000000000) := ⟨by have := HV.out; have := HK.out; have := HN.out; omega⟩
      obtain ⟨tx, htx⟩ := markText_some kk (by have := HV.out; have := HK.out; have := HN.out; omega)
      have HTX := Az.mk htx
      have hs := HS.out.keep HM.out
      obtain ⟨g, c, cs, u0, u, m, eA, hg, hb, hd0, hd1, hsp, hmm⟩ := hs.cell e1
      injection eA with eA _ eC
      subst eA
      subst eC
      have HB := Az.mk hb
      have HG := Az.mk hg
      have HD0 := Az.mk hd0
      have HD1 := Az.mk hd1
      have HSP := Az.mk hsp
      have HMM := Az.mk hmm
      clear htx hs hb hg hd0 hd1 hsp hmm
      go_wp2_with (first | (go_at_call 112; refine (HTX.out _).mono ?_; rintro e w15 ⟨rfl, hb15⟩; have hb := blk_below HB.out hb15; have hc0 := (zq4 hb (i * 2)).trans HD0.out; have hf0 := nofreeze hb (i * 2); have hm1 := Mk.of_below (lo := lo) (hi := hi) hb15; have hm2 := Mk.set HG.out hb (i * 2) (Or.inr (Or.inr ⟨rfl, by omega⟩)) (.string tx); have hb2 := blk_set hb (i * 2) (.string tx); have hc1 : (w15.setCell ⟨g, i * 2, none⟩ (.string tx)).cell? ⟨g, i * 2 + 1, none⟩ = some u := (by rw [zq4 hb2, Array.getElem?_setIfInBounds_ne (by omega)]; exact HD1.out); have HM2 := Az.mk ((HM.out.trans hm1).trans hm2); have HSP2 := Az.mk (HSP.out.keep (hm1.trans hm2)); clear hm1 hm2 hb2 hb hb15) | (go_at_call 113; refine (markPt_call lo hi u m (wrap64 (kk + 1)) _ HSP2.out HMM.out (by rw [HW2.out]; exact HKB.out)).mono ?_; rintro e w26 ⟨k9, rfl, hk9, hk8, hm9⟩; have M9 := Az.mk hm9; have K9 := Az.mk (And.intro hk9 hk8); clear hm9 hk9 hk8) | go_in)
      go_roundg (n - (i + 1))
      case measure => have := HI.out; omega
      case rel => exact ⟨i + 1, _, by rw [← HW1.out], rfl, ⟨by have h := K9.out; rw [HW2.out] at h; have := HV.out; have := HMM.out; omega⟩, ⟨by have := HI.out; omega⟩, ⟨HM2.out.trans M9.out⟩⟩
    · have e1b : decide ((i : Int) < (n : Int)) = false := decide_eq_false (by omega)
      have hi : i = n := by have := HI.out; omega
      subst hi
      go_wp2
      go_ret
      exact ⟨kk, rfl, HV.out.1, HV.out.2, HM.out⟩
set_option maxHeartbeats 4000000 in
set_option maxRecDepth 100000 in
theorem markRoot_call (lo hi : Nat) (tx : Int) (v : Value) (n : Nat) (k0 : Int) (w : World) (h : ShVo w lo hi v n) (hn : n ≤ 1048576) (hk : 0 ≤ k0 ∧ k0 ≤ 4000000000000000000) :
    Calls Try.prog 45 #[.agg #[.int .i64 tx, v], .int .i64 k0] w fun e w' => ∃ k' : Int, e = .returned (.int .i64 k') ∧ k0 ≤ k' ∧ k' ≤ k0 + 2199025352705 * n ∧ Mk lo hi w w' := by
  have hu57 := Try.underlying57
  have HE0 : Az (∃ A c, v = .slice A n c) := ⟨by
    rcases h with ⟨c, rfl, rfl⟩ | ⟨g, c, cs, rfl, _⟩
    · exact ⟨_, _, rfl⟩
    · exact ⟨_, _, rfl⟩⟩
  obtain ⟨A, cc, rfl⟩ := HE0.out
  clear HE0
  have hb : Below w.heap.size w (w.alloc (Obj.cells #[.int .i64 tx, .slice A n cc] 57)) := (Below.refl w.heap.size w).alloc (Nat.le_refl _) _
  have hc0 := ((Blk.made w #[.int .i64 tx, .slice A n cc] 57).cell 0).trans rfl
  have hc1 := ((Blk.made w #[.int .i64 tx, .slice A n cc] 57).cell 1).trans rfl
  have hm := Mk.of_below (lo := lo) (hi := hi) hb
  have HC := Az.mk (markVo_call lo hi (.slice A n cc) n k0 _ (h.keep hm) hn hk)
  have HM := Az.mk hm
  clear h hn hk hb hm
  go_enter Try.func45, Try.ntmps45
  go_wp2_with (first | (go_at_call 88; refine HC.out.mono ?_; rintro e w9 ⟨k9, rfl, hk9, hk8, hm9⟩; have M9 := Az.mk hm9; have K9 := Az.mk (And.intro hk9 hk8); clear hm9 hk9 hk8) | go_in)
  go_ret
  exact ⟨k9, rfl, K9.out.1, K9.out.2, HM.out.trans M9.out⟩
end Go.Proofs.Ytkoimmeghdbodaa.Print
namespace Go.Proofs.Ytkoimmeghdbodaa.Pure
open Go.RowKit Go.Proofs.Ytkoimmeghdbodaa.Print Go.Proofs.YtkoimmeghdbodaaW.PrintWords
theorem fill_set {α : Type} (l : List α) (z x : α) (i : Nat) (hx : l[i]? = some x) : (l.take i ++ List.replicate (l.length - i) z).set i x = l.take (i + 1) ++ List.replicate (l.length - (i + 1)) z := by
  have hi : i < l.length := (List.getElem?_eq_some_iff.1 hx).1
  have ht : (l.take i).length = i := by rw [List.length_take]; omega
  rw [List.set_append_right _ _ (by omega), ht, Nat.sub_self, show l.length - i = (l.length - (i + 1)) + 1 by omega, List.replicate_succ, List.set_cons_zero, List.take_add_one, hx]
  simp
theorem fill_len {α : Type} (l : List α) (z : α) (i : Nat) (h : i ≤ l.length) : (l.take i ++ List.replicate (l.length - i) z).length = l.length := by
  simp only [List.length_append, List.length_take, List.length_replicate]
  omega
theorem fill_end {α : Type} (l : List α) (z : α) : l.take l.length ++ List.replicate (l.length - l.length) z = l := by simp
def pl (x : S94) : S37 := ⟨x.f0, x.f1⟩
def pls (l : List S94) : List S37 := l.map pl
theorem pls_length (l : List S94) : (pls l).length = l.length := by simp [pls]
theorem pls_some {l : List S94} {i : Nat} (h : i < l.length) : (pls l)[i]? = some (⟨(rd_T94 l (i : Int)).f0, (rd_T94 l (i : Int)).f1⟩ : S37) := by
  simp [pls, pl, rd_T94, List.getD, h]
theorem toPlaceS_l0 (l : List S94) (hl : l.length ≤ 1048576) (d : Nat) : ∀ i : Nat, i + d = l.length →
    Ev (fun k => laws_toPlaceS.l0 k l ((pls l).take i ++ List.replicate ((pls l).length - i) z37) (i : Int)) (pls l) := by
  have hp := pls_length l
  induction d with
  | zero =>
    intro i hi
    refine Ev.next ?_
    simp only [laws_toPlaceS.l0]
    have hil : i = (pls l).length := by omega
    subst hil
    exact Ev.neg (by omega) (Ev.ret (fill_end (pls l) _))
  | succ d ih =>
    intro i hi
    have e : wrap64 ((i : Int) + 1) = ((i + 1 : Nat) : Int) := by rw [wrap_ok (by omega)]; omega
    have hih := ih (i + 1) (by omega)
    have hlen := fill_len (pls l) z37 i (by omega)
    refine Ev.next ?_
    simp only [laws_toPlaceS.l0, e, Int.toNat_natCast]
    clear e
    refine Ev.pos (by omega) (Ev.pos (by omega) (Ev.take rfl (Ev.pos (by omega) ?_)))
    rw [fill_set (pls l) _ _ i (pls_some (by omega))]
    exact hih
theorem toPlaceS_ev (l : List S94) (hl : l.length ≤ 1048576) : Ev (fun k => laws_toPlaceS.f k l) (pls l) := by
  have h := toPlaceS_l0 l hl l.length 0 (Nat.zero_add _)
  simp only [List.take_zero, List.nil_append, Nat.sub_zero, pls_length] at h
  unfold laws_toPlaceS.f
  simp only [Int.toNat_natCast]
  exact Ev.pos (by omega) (Ev.pos (by omega) h)
theorem eqPlaceS_l0 (l : List S37) (hl : l.length ≤ 1048576) (d : Nat) : ∀ i : Nat, i + d = l.length → Ev (fun k => laws_eqPlaceS.l0 k l l (i : Int)) true := by
  induction d with
  | zero =>
    intro i hi
    refine Ev.next ?_
    simp only [laws_eqPlaceS.l0]
    exact Ev.neg (by omega) (Ev.ret rfl)
  | succ d ih =>
    intro i hi
    have e : wrap64 ((i : Int) + 1) = ((i + 1 : Nat) : Int) := by rw [wrap_ok (by omega)]; omega
    have hih := ih (i + 1) (by omega)
    refine Ev.next ?_
    simp only [laws_eqPlaceS.l0, e]
    clear e
    exact Ev.pos (by omega) (Ev.pos (by omega) (Ev.pos (by omega) (Ev.take (a := true) (by simp [laws_eqPlace.f]) (Ev.pos rfl hih))))
theorem eqPlaceS_ev (l : List S37) (hl : l.length ≤ 1048576) : Ev (fun k => laws_eqPlaceS.f k l l) true := by
  unfold laws_eqPlaceS.f
  exact Ev.pos rfl (eqPlaceS_l0 l hl _ 0 (Nat.zero_add _))
theorem eqPtr_ev (s m : Int) (l : List S37) (hl : l.length ≤ 1048576) : Ev (fun k => laws_eqPtr.f k s m l s m l) true := by
  unfold laws_eqPtr.f
  exact Ev.pos rfl (Ev.pos rfl (Ev.bind (eqPlaceS_ev l hl) (Ev.pos rfl (Ev.ret rfl))))
end Go.Proofs.Ytkoimmeghdbodaa.Pure
namespace Go.Proofs.Ytkoimmeghdbodaa.Print
open Go.RowKit Go.Proofs.YtkoimmeghdbodaaW.PrintWords Go.Proofs.YtkoimmeghdbodaaW.PrintLast Go.Proofs.YtkoimmeghdbodaaW.PrintMore
attribute [local go_sem] max2_int min2_int max_two min_two max_three min_three max_four min_four   -- for this text's walks alone
set_option linter.unusedVariables false
set_option linter.unusedSimpArgs false
def spec_l2All.l0 : Nat → List (S29) → Int → Int → List (S65) → Option ((List (S29)))
 | 0, _, _, _, _ => none
 | k + 1, x3, x4, x425000, x425001 => if x4 < (x425001.length : Int) then (if 0 ≤ x4 then (if x3.length + ((rd_T65 x425001 x4).f1).length < 3518437208883 then (spec_l2All.l0 k (x3 ++ ((rd_T65 x425001 x4).f1)) (wrap64 (x4 + 1)) x425000 x425001) else (none)) else (none)) else (some x3)
def spec_l2All.f (k : Nat) (a0_0 : Int) (l0_1 : List (S65)) : Option ((List (S29))) := spec_l2All.l0 k (([] : List (S29))) 0 a0_0 l0_1
set_option maxHeartbeats 8000000 in
set_option maxRecDepth 100000 in
theorem spec_l2All.calls (k : Nat) (a0_0 : Int) (P0_1_ : Nat → Prop) (A0_1 : Option Addr) (c0_1 : Nat) (l0_1 : List (S65)) (r : List (S29)) (w : World) (hs0_1 : Kd.V k65 65 w w.heap.size (fun k_ => P0_1_ k_) (.slice A0_1 l0_1.length c0_1) l0_1) (h : spec_l2All.f k a0_0 l0_1 = some r) :
  Calls Try.prog 86 #[.agg #[.int .i64 a0_0, .slice A0_1 l0_1.length c0_1]] w fun e w' => ∃ v0_ : Value, e = .returned (v0_) ∧ Kd.N k29 29 w' w.heap.size (fun k_ => (P0_1_ k_ ∨ w.heap.size ≤ k_)) v0_ r ∧ Below w.heap.size w w' := by
 have hu57 := Try.underlying57
 have HO0_1 := Az.mk (show Kd.V k65 65 w w.heap.size (fun k_ => (P0_1_ k_ ∨ w.heap.size ≤ k_)) (.slice A0_1 l0_1.length c0_1) l0_1 from Kd.V_mono hs0_1 (fun k_ hk => .inl hk))
 have HB := Az.mk (Below.refl w.heap.size w)
 have H : (spec_l2All.l0 k (([] : List (S29))) 0 a0_0 l0_1) = some r := h
 clear h
 obtain ⟨y425, hy425⟩ : ∃ y_ : List (S29), y_ = (([] : List (S29))) := ⟨_, rfl⟩
 replace H : (spec_l2All.l0 k y425 0 a0_0 l0_1) = some r := by first | (rw [hy425]; with_reducible exact H) | (have H2_ := (Option.bind_some _ _).symm.trans H; rw [hy425]; with_reducible exact H2_) | (have H2_ := (Option.bind_some _ _).symm.trans H; with_reducible exact H2_) | with_reducible exact H | (rw [hy425]; exact H) | exact H
 have Ny425 := Az.mk hy425
 clear hy425
 have H' := Az.mk H
 clear H
 go_enter Try.func86, Try.ntmps86
 go_wp2_with (first | ((with_reducible refine zqg (N := 1) rfl ?_); refine zqb ?hg (N := 1) ?hd (cs := #[.int .i64 a0_0, .slice A0_1 l0_1.length c0_1]) (t := 57) ?hr ?_; (case hd => rfl); (case hg => rfl); (case hr => first | (go_simp; done) | (go_simp; rfl)); intro gb424 hg w2 hbox hb; have n0_ := Az.mk (Kd.V_below (Kd.V_elderB (by (with_reducible repeat (first | apply Kd.V_alloc | apply Kd.V_drewN | apply Kd.V_drew)); exact HO0_1.out) gb424 (Nat.le_of_eq hg.symm)) hb); have n1_ := Az.mk (below_step (by repeat (first | (with_reducible first | exact HB.out | apply zq2 | apply zq1 | apply zqd) | exact HB.out)) hb); have n2_ := Az.mk (hbox); have n3_ := Az.mk ((by rw [hg]; exact (below_size (by repeat (first | (with_reducible first | exact HB.out | apply zq2 | apply zq1 | apply zqd) | exact HB.out))) : w.heap.size ≤ gb424)); have n4_ := Az.mk ((by rw [hg]; exact (below_size (by repeat (first | (with_reducible first | exact HB.out | apply zq2 | apply zq1 | apply zqd) | exact HB.out))) : w.heap.size ≤ gb424)); clear HO0_1; clear HB; have HO0_1 := n0_; have HB := n1_; have BK424 := n2_; have GW424 := n3_; have GE424 := n4_; clear n0_ n1_ n2_ n3_ n4_; clear hb hbox hg) | ((with_reducible refine zqg (N := 5) rfl ?_); refine Kd.N_lit k29 _ 29 ?hg (N' := 5) ?hd (xs := ([] : List (S29))) (inner := []) (ok := (fun k_ => (P0_1_ k_ ∨ w.heap.size ≤ k_) ∧ k_ ≠ gb424)) (okp := (fun k_ => (P0_1_ k_ ∨ w.heap.size ≤ k_) ∧ k_ ≠ gb424)) ?hr ?hp (fun _ hk => hk) ((show ∀ k_, w2.heap.size ≤ k_ → (fun k_ => (P0_1_ k_ ∨ w.heap.size ≤ k_) ∧ k_ ≠ gb424) k_ from fun k_ hk => ⟨(.inr (Nat.le_trans (below_size (by repeat (first | (with_reducible first | exact HB.out | apply zq2 | apply zq1 | apply zqd | refine zq3 ?_ GE424.out) | exact HB.out))) hk)), Kd.freshB (g := gb424) (o := .cells #[.int .i64 a0_0, .slice A0_1 l0_1.length c0_1] 57 (0, 0)) (by (with_reducible repeat (first | refine zq6 ?_ _ | refine zq8 ?_ | refine zq7 ?_ _)); exact BK424.out) k_ hk⟩) _ (Nat.le_refl _)) (Below.refl _ _) (Nat.le_refl _) (by simp) ?_; (case hd => rfl); (case hg => rfl); (case hr => first | (go_simp; done) | (go_simp; rfl)); (case hp => exact (Reps.none _ _)); intro v426 w3 ho4 hb hg_ hnew_; clear hg_ hnew_; (first | rw [← Ny425.out] at ho4 | (simp only [Int.reduceToNat] at ho4; rw [← Ny425.out] at ho4)); have n0_ := Az.mk (Kd.V_elder' (by (with_reducible repeat (first | apply Kd.V_alloc | apply Kd.V_drewN | apply Kd.V_drew)); exact HO0_1.out) (Kd.N_base ho4) hb); have n1_ := Az.mk (Kd.N_lower ho4 (below_size (by repeat (first | (with_reducible first | exact HB.out | apply zq2 | apply zq1 | apply zqd | refine zq3 ?_ GE424.out) | exact HB.out)))); have n2_ := Az.mk (blk_below (g := gb424) (o := .cells #[.int .i64 a0_0, .slice A0_1 l0_1.length c0_1] 57 (0, 0)) (by (with_reducible repeat (first | refine zq6 ?_ _ | refine zq8 ?_ | refine zq7 ?_ _)); exact BK424.out) hb); have n3_ := Az.mk (below_step (by repeat (first | (with_reducible first | exact HB.out | apply zq2 | apply zq1 | apply zqd | refine zq3 ?_ GE424.out) | exact HB.out)) hb); clear HO0_1; clear BK424; clear HB; have HO0_1 := n0_; have HO427 := n1_; have BK424 := n2_; have HB := n3_; clear n0_ n1_ n2_ n3_; clear hb ho4))
 go_loopg [3, 4] k (fun kq v3 v4 w' => ∃ (x3_1 : List (S29)) (x4_1 : Int), v4 = .int .i64 x4_1 ∧ Az (spec_l2All.l0 kq x3_1 x4_1 a0_0 l0_1 = some r) ∧ Az (kq ≤ k) ∧ Az (Kd.N k29 29 w' w.heap.size (fun k_ => (P0_1_ k_ ∨ w.heap.size ≤ k_) ∧ k_ ≠ gb424) v3 x3_1) ∧ Az (Kd.V k65 65 w' w.heap.size (fun k_ => (P0_1_ k_ ∨ w.heap.size ≤ k_) ∧ some k_ ≠ (v3 : Value).ownBlock ∧ k_ ≠ gb424) (.slice A0_1 l0_1.length c0_1) l0_1) ∧ Az (w'.heap[gb424]? = some (.cells #[.int .i64 a0_0, (.slice A0_1 l0_1.length c0_1)] 57 (0, 0))) ∧ Az (Below w.heap.size w w'))
 case atStart => exact ⟨(y425), (0), (by first | rfl | (simp; done) | (simp [*]; done)), H', ⟨Nat.le_refl _⟩, ⟨by (with_reducible repeat (first | apply Kd.N_alloc | apply Kd.N_drewN | apply Kd.N_drew)); exact HO427.out⟩, ⟨by (with_reducible repeat (first | apply Kd.V_alloc | apply Kd.V_drewN | apply Kd.V_drew)); exact Kd.V_mono HO0_1.out (fun _ hk => ⟨hk.1.1, ⟨hk.2, hk.1.2⟩⟩)⟩, ⟨by (with_reducible repeat (first | refine zq6 ?_ _ | refine zq8 ?_ | refine zq7 ?_ _)); exact BK424.out⟩, ⟨by repeat (first | (with_reducible first | exact HB.out | apply zq2 | apply zq1 | apply zqd | refine zq3 ?_ GE424.out) | exact HB.out)⟩⟩
 case round =>
  clear H'
  try clear p2
  obtain ⟨x3_1, x4_1, rfl, HA, HK1, HO_3, HO_425001, BK424, HB⟩ := hrel
  cases gk with
  | zero => exact absurd HA.out (by simp [spec_l2All.l0])
  | succ k1 =>
   have H := HA.out
   clear HA
   simp only [spec_l2All.l0] at H
   by_cases c5 : x4_1 < (l0_1.length : Int)
   ·rw [if_pos c5] at H
    have c5b0 : decide (x4_1 < (l0_1.length : Int)) = true := decide_eq_true c5
    clear c5
    by_cases c6 : 0 ≤ x4_1
    ·rw [if_pos c6] at H
     have c6b0 : decide (0 ≤ x4_1) = true := decide_eq_true c6
     clear c6
     by_cases c7 : x3_1.length + ((rd_T65 l0_1 x4_1).f1).length < 3518437208883
     ·rw [if_pos c7] at H
      have LMc7 := Az.mk c7
      clear c7
      obtain ⟨y429, hy429⟩ : ∃ y_ : List (S29), y_ = (x3_1 ++ ((rd_T65 l0_1 x4_1).f1)) := ⟨_, rfl⟩
      replace H : (spec_l2All.l0 k1 y429 (wrap64 (x4_1 + 1)) a0_0 l0_1) = some r := by first | (rw [hy429]; with_reducible exact H) | (have H2_ := (Option.bind_some _ _).symm.trans H; rw [hy429]; with_reducible exact H2_) | (have H2_ := (Option.bind_some _ _).symm.trans H; with_reducible exact H2_) | with_reducible exact H | (rw [hy429]; exact H) | exact H
      have Ny429 := Az.mk hy429
      clear hy429
      have H' := Az.mk H
      clear H
      have hcz8_0 : wr.cell? ⟨gb424, 0, none⟩ = some (.int .i64 a0_0) := (zq4 BK424.out 0).trans rfl
      have hcz8_1 : wr.cell? ⟨gb424, 1, none⟩ = some (.slice A0_1 l0_1.length c0_1) := (zq4 BK424.out 1).trans rfl
      have hfz8_0 := zq5 BK424.out 0
      have hfz8_1 := zq5 BK424.out 1
      have p428 : 0 ≤ (x4_1 : Int) := of_decide_eq_true (by first | (with_reducible assumption) | assumption)
      have q428 : x4_1 < (l0_1.length : Int) := of_decide_eq_true (by first | (with_reducible assumption) | assumption)
      obtain ⟨ad428, A428_1, c428_1, e428, hx428_0, hx428_1, hl428_1, hi428_1⟩ := at_T65 (Kd.V_reads' HO_425001.out).2.2 x4_1 p428 q428
      cases e428
      obtain ⟨ce428, hce428, hMe428, hcc428⟩ := Kd.V_get HO_425001.out z65 x4_1 p428 (by first | exact q428 | exact of_decide_eq_true (by first | (with_reducible assumption) | assumption) | (have e_ := (Kd.V_reads' HO_425001.out).1; omega))
      obtain ⟨ua428_1, uc428_1, rfl, ul428_1, ge428_1⟩ := k65_openF hMe428
      have hv428_1 := hcc428 1 _ rfl
      rw [add_field _ _ 1 (by omega)] at hv428_1
      replace hv428_1 := Option.some.inj (hv428_1.symm.trans hx428_1)
      injection hv428_1 with hva_ hvn_ hvc_
      rw [hva_] at ge428_1
      rw [hvc_] at ul428_1
      have HL428_1 := Az.mk (show Kd.V k29 29 _ w.heap.size _ _ ((rd_T65 l0_1 x4_1).f1) from Kd.V_mk ul428_1 ge428_1)
      clear hva_ hvn_ hvc_ ge428_1 ul428_1
      clear hcc428 hce428
      have HR428_1 := Az.mk hi428_1
      have HC428_1 := Az.mk hl428_1
      clear hi428_1 hl428_1
      replace p428 := eq_true p428
      replace q428 := eq_true q428
      go_wp2_with (first | ((with_reducible refine gate_builtin (b := .append) (xs := #[.tmp 13, .tmp 19]) rfl ?_); at_builtin; refine Kd.N_append_rows k29 (w0 := w) w.heap.size rfl (.tmp 13) (.tmp 19) 63 29 (.agg #[(.int .i64 0), (.int .i64 0), (.slice none 0 0)]) 40 rfl Try.underlying63 info29 rfl (by decide) (by omega) u3 x3_1 ((rd_T65 l0_1 x4_1).f1) _ _ _ (fun k_ => (P0_1_ k_ ∨ w.heap.size ≤ k_) ∧ k_ ≠ gb424) (fun k_ => ((fun k_ => (P0_1_ k_ ∨ w.heap.size ≤ k_) ∧ k_ ≠ gb424)) k_ ∧ some k_ ≠ (u3 : Value).ownBlock) rfl rfl ?aO ?aR (fun _ hk => hk) ?aF ?aB ?aS ?aL ?_; (case aR => exact (by skip; exact Kd.V_F (Kd.V_mono (ok' := (fun k_ => ((fun k_ => (P0_1_ k_ ∨ w.heap.size ≤ k_) ∧ k_ ≠ gb424)) k_ ∧ some k_ ≠ (u3 : Value).ownBlock)) (HL428_1.out) (fun k_ hk => ⟨⟨hk.1, hk.2.2⟩, hk.2.1⟩)))); (case aB => exact (by repeat (first | (with_reducible first | exact HB.out | apply zq2 | apply zq1 | apply zqd | refine zq3 ?_ GE424.out) | exact HB.out))); (case aF => exact (fun k_ hk => ⟨(.inr (Nat.le_trans (below_size (by repeat (first | (with_reducible first | exact HB.out | apply zq2 | apply zq1 | apply zqd | refine zq3 ?_ GE424.out) | exact HB.out))) hk)), Kd.freshB (g := gb424) (o := .cells #[.int .i64 a0_0, .slice (some ad428) l0_1.length c0_1] 57 (0, 0)) (by (with_reducible repeat (first | refine zq6 ?_ _ | refine zq8 ?_ | refine zq7 ?_ _)); exact BK424.out) k_ hk⟩)); (case aO => exact (by (with_reducible repeat (first | apply Kd.N_alloc | apply Kd.N_drewN | apply Kd.N_drew)); exact HO_3.out)); (case aS => exact (below_size (by repeat (first | (with_reducible first | exact HB.out | apply zq2 | apply zq1 | apply zqd | refine zq3 ?_ GE424.out) | exact HB.out)))); (case aL => have := LMc7.out; omega); intro v430 w9 ho hb hg hat; rw [← Ny429.out] at ho; have n0_ := Az.mk (Kd.V_afterv (ok := (fun k_ => (P0_1_ k_ ∨ w.heap.size ≤ k_) ∧ k_ ≠ gb424)) (by (with_reducible repeat (first | apply Kd.V_alloc | apply Kd.V_drewN | apply Kd.V_drew)); exact Kd.V_mono HO_425001.out (fun _ hk => ⟨⟨hk.1, hk.2.2⟩, hk.2.1⟩)) hg hat); have n1_ := Az.mk (blk_grown (g := gb424) (o := .cells #[.int .i64 a0_0, .slice (some ad428) l0_1.length c0_1] 57 (0, 0)) (by (with_reducible repeat (first | refine zq6 ?_ _ | refine zq8 ?_ | refine zq7 ?_ _)); exact BK424.out) hg (Kd.N_ne HO_3.out BK424.out (by decide))); have n2_ := Az.mk (Kd.V_afterv (ok := (fun k_ => (P0_1_ k_ ∨ w.heap.size ≤ k_) ∧ k_ ≠ gb424)) (by (with_reducible repeat (first | apply Kd.V_alloc | apply Kd.V_drewN | apply Kd.V_drew)); exact Kd.V_mono HL428_1.out (fun _ hk => ⟨⟨hk.1, hk.2.2⟩, hk.2.1⟩)) hg hat); have n3_ := Az.mk (hb); have n4_ := Az.mk (ho); clear HO_425001; clear BK424; clear HL428_1; clear HB; clear HO_3; have HO_425001 := n0_; have BK424 := n1_; have HL428_1 := n2_; have HB := n3_; have HO431 := n4_; clear n0_ n1_ n2_ n3_ n4_; clear ho hb hg hat))
      go_roundg k1
      case measure => have := HK1.out; omega
      case rel => exact ⟨(y429), (wrap64 (x4_1 + 1)), (by first | rfl | (simp; done) | (simp [*]; done)), H', ⟨by have := HK1.out; omega⟩, ⟨by (with_reducible repeat (first | apply Kd.N_alloc | apply Kd.N_drewN | apply Kd.N_drew)); exact HO431.out⟩, ⟨by (with_reducible repeat (first | apply Kd.V_alloc | apply Kd.V_drewN | apply Kd.V_drew)); exact Kd.V_mono HO_425001.out (fun _ hk => ⟨hk.1.1, ⟨hk.2, hk.1.2⟩⟩)⟩, ⟨by (with_reducible repeat (first | refine zq6 ?_ _ | refine zq8 ?_ | refine zq7 ?_ _)); exact BK424.out⟩, ⟨by repeat (first | (with_reducible first | exact HB.out | apply zq2 | apply zq1 | apply zqd | refine zq3 ?_ GE424.out) | exact HB.out)⟩⟩
     ·rw [if_neg c7] at H
      exact absurd H (by simp)
    ·rw [if_neg c6] at H
     exact absurd H (by simp)
   ·rw [if_neg c5] at H
    have c5b0 : decide (x4_1 < (l0_1.length : Int)) = false := decide_eq_false c5
    clear c5
    obtain rfl := Option.some.inj H
    have hcz10_0 : wr.cell? ⟨gb424, 0, none⟩ = some (.int .i64 a0_0) := (zq4 BK424.out 0).trans rfl
    have hcz10_1 : wr.cell? ⟨gb424, 1, none⟩ = some (.slice A0_1 l0_1.length c0_1) := (zq4 BK424.out 1).trans rfl
    have hfz10_0 := zq5 BK424.out 0
    have hfz10_1 := zq5 BK424.out 1
    go_wp2
    go_ret
    exact ⟨_, by first | rfl | (simp [errW_none, errW_some] <;> rfl) | (simp [*, errW_none, errW_some] <;> rfl), by (with_reducible repeat (first | apply Kd.N_alloc | apply Kd.N_drewN | apply Kd.N_drew)); exact Kd.N_mono HO_3.out (fun _ hk => hk.1), by repeat (first | (with_reducible first | exact HB.out | apply zq2 | apply zq1 | apply zqd | refine zq3 ?_ GE424.out) | exact HB.out)⟩
end Go.Proofs.Ytkoimmeghdbodaa.Print
namespace Go.Proofs.Ytkoimmeghdbodaa.Print
open Go.RowKit Go.Proofs.YtkoimmeghdbodaaW.PrintWords Go.Proofs.YtkoimmeghdbodaaW.PrintLast Go.Proofs.YtkoimmeghdbodaaW.PrintMore
attribute [local go_sem] max2_int min2_int max_two min_two max_three min_three max_four min_four   -- for this text's walks alone
set_option linter.unusedVariables false
set_option linter.unusedSimpArgs false
attribute [local go_sem high] eqA37
mutual
def spec_l2Meet.l0 : Nat → Int → Int → Int → List (S37) → Int → Int → List (S37) → Option (Bool)
 | 0, _, _, _, _, _, _, _ => none
 | k + 1, x5, x433000, x433001, x433002, x434000, x434001, x434002 => if x5 < (x433002.length : Int) then (spec_l2Meet.l1 k x5 0 x433000 x433001 x433002 x434000 x434001 x434002) else (some false)
def spec_l2Meet.l1 : Nat → Int → Int → Int → Int → List (S37) → Int → Int → List (S37) → Option (Bool)
 | 0, _, _, _, _, _, _, _, _ => none
 | k + 1, x5, x6, x433000, x433001, x433002, x434000, x434001, x434002 => if x6 < (x434002.length : Int) then (if 0 ≤ x5 then (if x5 < (x433002.length : Int) then (if 0 ≤ x6 then (if (((rd_T37 x433002 x5).f0) == ((rd_T37 x434002 x6).f0) && (((rd_T37 x433002 x5).f1) == ((rd_T37 x434002 x6).f1))) = true then (some true) else (spec_l2Meet.l1 k x5 (wrap64 (x6 + 1)) x433000 x433001 x433002 x434000 x434001 x434002)) else (none)) else (none)) else (none)) else (spec_l2Meet.l0 k (wrap64 (x5 + 1)) x433000 x433001 x433002 x434000 x434001 x434002)
end
def spec_l2Meet.f (k : Nat) (a0_0 : Int) (a0_1 : Int) (l0_2 : List (S37)) (a1_0 : Int) (a1_1 : Int) (l1_2 : List (S37)) : Option (Bool) := spec_l2Meet.l0 k 0 a0_0 a0_1 l0_2 a1_0 a1_1 l1_2
set_option maxHeartbeats 8000000 in
set_option maxRecDepth 100000 in
theorem spec_l2Meet.calls (k : Nat) (a0_0 : Int) (a0_1 : Int) (A0_2 : Option Addr) (c0_2 : Nat) (l0_2 : List (S37)) (a1_0 : Int) (a1_1 : Int) (A1_2 : Option Addr) (c1_2 : Nat) (l1_2 : List (S37)) (r : Bool) (w : World) (hr0_2 : Kd.C k37 w A0_2 l0_2.length l0_2) (hc0_2 : l0_2.length ≤ c0_2) (hr1_2 : Kd.C k37 w A1_2 l1_2.length l1_2) (hc1_2 : l1_2.length ≤ c1_2) (h : spec_l2Meet.f k a0_0 a0_1 l0_2 a1_0 a1_1 l1_2 = some r) :
  Calls Try.prog 87 #[.agg #[.int .i64 a0_0, .int .i64 a0_1, .slice A0_2 l0_2.length c0_2], .agg #[.int .i64 a1_0, .int .i64 a1_1, .slice A1_2 l1_2.length c1_2]] w fun e w' => e = .returned (.bool r) ∧ Below w.heap.size w w' := by
 have hu29 := Try.underlying29
 have hu37 := Try.underlying37
 have HR0_2 := Az.mk hr0_2
 have HC0_2 := Az.mk hc0_2
 clear hr0_2 hc0_2
 have HR1_2 := Az.mk hr1_2
 have HC1_2 := Az.mk hc1_2
 clear hr1_2 hc1_2
 have HB := Az.mk (Below.refl w.heap.size w)
 have H : (spec_l2Meet.l0 k 0 a0_0 a0_1 l0_2 a1_0 a1_1 l1_2) = some r := h
 clear h
 have H' := Az.mk H
 clear H
 go_enter Try.func87, Try.ntmps87
 go_wp2_with (first | ((with_reducible refine zqg (N := 2) rfl ?_); refine zqb ?hg (N := 2) ?hd (cs := #[.int .i64 a0_0, .int .i64 a0_1, .slice A0_2 l0_2.length c0_2]) (t := 29) ?hr ?_; (case hd => rfl); (case hg => rfl); (case hr => first | (go_simp; done) | (go_simp; rfl)); intro gb432 hg w3 hbox hb; have n0_ := Az.mk (below_step (by repeat (first | (with_reducible first | exact HB.out | apply zq2 | apply zq1 | apply zqd) | exact HB.out)) hb); have n1_ := Az.mk (hbox); have n2_ := Az.mk ((by rw [hg]; exact (below_size (by repeat (first | (with_reducible first | exact HB.out | apply zq2 | apply zq1 | apply zqd) | exact HB.out))) : w.heap.size ≤ gb432)); have n3_ := Az.mk ((by rw [hg]; exact (below_size (by repeat (first | (with_reducible first | exact HB.out | apply zq2 | apply zq1 | apply zqd) | exact HB.out))) : w.heap.size ≤ gb432)); clear HB; have HB := n0_; have BK432 := n1_; have GW432 := n2_; have GE432 := n3_; clear n0_ n1_ n2_ n3_; clear hb hbox hg) | ((with_reducible refine zqg (N := 3) rfl ?_); refine zqb ?hg (N := 3) ?hd (cs := #[.int .i64 a1_0, .int .i64 a1_1, .slice A1_2 l1_2.length c1_2]) (t := 29) ?hr ?_; (case hd => rfl); (case hg => rfl); (case hr => first | (go_simp; done) | (go_simp; rfl)); intro gb433 hg w4 hbox hb; have n0_ := Az.mk (blk_below (g := gb432) (o := .cells #[.int .i64 a0_0, .int .i64 a0_1, .slice A0_2 l0_2.length c0_2] 29 (0, 0)) (by (with_reducible repeat (first | refine zq6 ?_ _ | refine zq8 ?_ | refine zq7 ?_ _)); exact BK432.out) hb); have n1_ := Az.mk (below_step (by repeat (first | (with_reducible first | exact HB.out | apply zq2 | apply zq1 | apply zqd | refine zq3 ?_ GE432.out) | exact HB.out)) hb); have n2_ := Az.mk (hbox); have n3_ := Az.mk ((by rw [hg]; exact (below_size (by repeat (first | (with_reducible first | exact HB.out | apply zq2 | apply zq1 | apply zqd | refine zq3 ?_ GE432.out) | exact HB.out))) : w.heap.size ≤ gb433)); have n4_ := Az.mk ((by rw [hg]; exact (below_size (by repeat (first | (with_reducible first | exact HB.out | apply zq2 | apply zq1 | apply zqd | refine zq3 ?_ GE432.out) | exact HB.out))) : w.heap.size ≤ gb433)); have n5_ := Az.mk ((by rw [hg]; exact Nat.ne_of_lt (blk_lt (g := gb432) (o := .cells #[.int .i64 a0_0, .int .i64 a0_1, .slice A0_2 l0_2.length c0_2] 29 (0, 0)) (by (with_reducible repeat (first | refine zq6 ?_ _ | refine zq8 ?_ | refine zq7 ?_ _)); exact BK432.out)) : gb432 ≠ gb433)); have n6_ := Az.mk ((by rw [hg]; exact Nat.ne_of_gt (blk_lt (g := gb432) (o := .cells #[.int .i64 a0_0, .int .i64 a0_1, .slice A0_2 l0_2.length c0_2] 29 (0, 0)) (by (with_reducible repeat (first | refine zq6 ?_ _ | refine zq8 ?_ | refine zq7 ?_ _)); exact BK432.out)) : gb433 ≠ gb432)); clear BK432; clear HB; have BK432 := n0_; have HB := n1_; have BK433 := n2_; have GW433 := n3_; have GE433 := n4_; have NB432_433 := n5_; have NB433_432 := n6_; clear n0_ n1_ n2_ n3_ n4_ n5_ n6_; clear hb hbox hg))
 repeat (go_quiet (first | ((with_reducible refine zqg (N := 2) rfl ?_); refine zqb ?hg (N := 2) ?hd (cs := #[.int .i64 a0_0, .int .i64 a0_1, .slice A0_2 l0_2.length c0_2]) (t := 29) ?hr ?_; (case hd => rfl); (case hg => rfl); (case hr => first | (go_simp; done) | (go_simp; rfl)); intro gb432 hg w3 hbox hb; have n0_ := Az.mk (below_step (by repeat (first | (with_reducible first | exact HB.out | apply zq2 | apply zq1 | apply zqd) | exact HB.out)) hb); have n1_ := Az.mk (hbox); have n2_ := Az.mk ((by rw [hg]; exact (below_size (by repeat (first | (with_reducible first | exact HB.out | apply zq2 | apply zq1 | apply zqd) | exact HB.out))) : w.heap.size ≤ gb432)); have n3_ := Az.mk ((by rw [hg]; exact (below_size (by repeat (first | (with_reducible first | exact HB.out | apply zq2 | apply zq1 | apply zqd) | exact HB.out))) : w.heap.size ≤ gb432)); clear HB; have HB := n0_; have BK432 := n1_; have GW432 := n2_; have GE432 := n3_; clear n0_ n1_ n2_ n3_; clear hb hbox hg) | ((with_reducible refine zqg (N := 3) rfl ?_); refine zqb ?hg (N := 3) ?hd (cs := #[.int .i64 a1_0, .int .i64 a1_1, .slice A1_2 l1_2.length c1_2]) (t := 29) ?hr ?_; (case hd => rfl); (case hg => rfl); (case hr => first | (go_simp; done) | (go_simp; rfl)); intro gb433 hg w4 hbox hb; have n0_ := Az.mk (blk_below (g := gb432) (o := .cells #[.int .i64 a0_0, .int .i64 a0_1, .slice A0_2 l0_2.length c0_2] 29 (0, 0)) (by (with_reducible repeat (first | refine zq6 ?_ _ | refine zq8 ?_ | refine zq7 ?_ _)); exact BK432.out) hb); have n1_ := Az.mk (below_step (by repeat (first | (with_reducible first | exact HB.out | apply zq2 | apply zq1 | apply zqd | refine zq3 ?_ GE432.out) | exact HB.out)) hb); have n2_ := Az.mk (hbox); have n3_ := Az.mk ((by rw [hg]; exact (below_size (by repeat (first | (with_reducible first | exact HB.out | apply zq2 | apply zq1 | apply zqd | refine zq3 ?_ GE432.out) | exact HB.out))) : w.heap.size ≤ gb433)); have n4_ := Az.mk ((by rw [hg]; exact (below_size (by repeat (first | (with_reducible first | exact HB.out | apply zq2 | apply zq1 | apply zqd | refine zq3 ?_ GE432.out) | exact HB.out))) : w.heap.size ≤ gb433)); have n5_ := Az.mk ((by rw [hg]; exact Nat.ne_of_lt (blk_lt (g := gb432) (o := .cells #[.int .i64 a0_0, .int .i64 a0_1, .slice A0_2 l0_2.length c0_2] 29 (0, 0)) (by (with_reducible repeat (first | refine zq6 ?_ _ | refine zq8 ?_ | refine zq7 ?_ _)); exact BK432.out)) : gb432 ≠ gb433)); have n6_ := Az.mk ((by rw [hg]; exact Nat.ne_of_gt (blk_lt (g := gb432) (o := .cells #[.int .i64 a0_0, .int .i64 a0_1, .slice A0_2 l0_2.length c0_2] 29 (0, 0)) (by (with_reducible repeat (first | refine zq6 ?_ _ | refine zq8 ?_ | refine zq7 ?_ _)); exact BK432.out)) : gb433 ≠ gb432)); clear BK432; clear HB; have BK432 := n0_; have HB := n1_; have BK433 := n2_; have GW433 := n3_; have GE433 := n4_; have NB432_433 := n5_; have NB433_432 := n6_; clear n0_ n1_ n2_ n3_ n4_ n5_ n6_; clear hb hbox hg)); try go_wp2_with (first | ((with_reducible refine zqg (N := 2) rfl ?_); refine zqb ?hg (N := 2) ?hd (cs := #[.int .i64 a0_0, .int .i64 a0_1, .slice A0_2 l0_2.length c0_2]) (t := 29) ?hr ?_; (case hd => rfl); (case hg => rfl); (case hr => first | (go_simp; done) | (go_simp; rfl)); intro gb432 hg w3 hbox hb; have n0_ := Az.mk (below_step (by repeat (first | (with_reducible first | exact HB.out | apply zq2 | apply zq1 | apply zqd) | exact HB.out)) hb); have n1_ := Az.mk (hbox); have n2_ := Az.mk ((by rw [hg]; exact (below_size (by repeat (first | (with_reducible first | exact HB.out | apply zq2 | apply zq1 | apply zqd) | exact HB.out))) : w.heap.size ≤ gb432)); have n3_ := Az.mk ((by rw [hg]; exact (below_size (by repeat (first | (with_reducible first | exact HB.out | apply zq2 | apply zq1 | apply zqd) | exact HB.out))) : w.heap.size ≤ gb432)); clear HB; have HB := n0_; have BK432 := n1_; have GW432 := n2_; have GE432 := n3_; clear n0_ n1_ n2_ n3_; clear hb hbox hg) | ((with_reducible refine zqg (N := 3) rfl ?_); refine zqb ?hg (N := 3) ?hd (cs := #[.int .i64 a1_0, .int .i64 a1_1, .slice A1_2 l1_2.length c1_2]) (t := 29) ?hr ?_; (case hd => rfl); (case hg => rfl); (case hr => first | (go_simp; done) | (go_simp; rfl)); intro gb433 hg w4 hbox hb; have n0_ := Az.mk (blk_below (g := gb432) (o := .cells #[.int .i64 a0_0, .int .i64 a0_1, .slice A0_2 l0_2.length c0_2] 29 (0, 0)) (by (with_reducible repeat (first | refine zq6 ?_ _ | refine zq8 ?_ | refine zq7 ?_ _)); exact BK432.out) hb); have n1_ := Az.mk (below_step (by repeat (first | (with_reducible first | exact HB.out | apply zq2 | apply zq1 | apply zqd | refine zq3 ?_ GE432.out) | exact HB.out)) hb); have n2_ := Az.mk (hbox); have n3_ := Az.mk ((by rw [hg]; exact (below_size (by repeat (first | (with_reducible first | exact HB.out | apply zq2 | apply zq1 | apply zqd | refine zq3 ?_ GE432.out) | exact HB.out))) : w.heap.size ≤ gb433)); have n4_ := Az.mk ((by rw [hg]; exact (below_size (by repeat (first | (with_reducible first | exact HB.out | apply zq2 | apply zq1 | apply zqd | refine zq3 ?_ GE432.out) | exact HB.out))) : w.heap.size ≤ gb433)); have n5_ := Az.mk ((by rw [hg]; exact Nat.ne_of_lt (blk_lt (g := gb432) (o := .cells #[.int .i64 a0_0, .int .i64 a0_1, .slice A0_2 l0_2.length c0_2] 29 (0, 0)) (by (with_reducible repeat (first | refine zq6 ?_ _ | refine zq8 ?_ | refine zq7 ?_ _)); exact BK432.out)) : gb432 ≠ gb433)); have n6_ := Az.mk ((by rw [hg]; exact Nat.ne_of_gt (blk_lt (g := gb432) (o := .cells #[.int .i64 a0_0, .int .i64 a0_1, .slice A0_2 l0_2.length c0_2] 29 (0, 0)) (by (with_reducible repeat (first | refine zq6 ?_ _ | refine zq8 ?_ | refine zq7 ?_ _)); exact BK432.out)) : gb433 ≠ gb432)); clear BK432; clear HB; have BK432 := n0_; have HB := n1_; have BK433 := n2_; have GW433 := n3_; have GE433 := n4_; have NB432_433 := n5_; have NB433_432 := n6_; clear n0_ n1_ n2_ n3_ n4_ n5_ n6_; clear hb hbox hg)))
 go_loopg [5] k (fun kq v5 w' => ∃ (x5_1 : Int), v5 = .int .i64 x5_1 ∧ Az (spec_l2Meet.l0 kq x5_1 a0_0 a0_1 l0_2 a1_0 a1_1 l1_2 = some r) ∧ Az (kq ≤ k) ∧ Az (w'.heap[gb432]? = some (.cells #[.int .i64 a0_0, .int .i64 a0_1, (.slice A0_2 l0_2.length c0_2)] 29 (0, 0))) ∧ Az (w'.heap[gb433]? = some (.cells #[.int .i64 a1_0, .int .i64 a1_1, (.slice A1_2 l1_2.length c1_2)] 29 (0, 0))) ∧ Az (Below w.heap.size w w'))
 case atStart => exact ⟨(0), (by first | rfl | (simp; done) | (simp [*]; done)), H', ⟨Nat.le_refl _⟩, ⟨by (with_reducible repeat (first | refine zq6 ?_ _ | refine zq8 ?_ | refine zq7 ?_ _)); exact BK432.out⟩, ⟨by (with_reducible repeat (first | refine zq6 ?_ _ | refine zq8 ?_ | refine zq7 ?_ _)); exact BK433.out⟩, ⟨by repeat (first | (with_reducible first | exact HB.out | apply zq2 | apply zq1 | apply zqd | refine zq3 ?_ GE432.out | refine zq3 ?_ GE433.out) | exact HB.out)⟩⟩
 case round =>
  clear H'
  try clear c1
  try clear p2
  obtain ⟨x5_1, rfl, HA, HK1, BK432, BK433, HB⟩ := hrel
  cases gk with
  | zero => exact absurd HA.out (by simp [spec_l2Meet.l0])
  | succ k1 =>
   have H := HA.out
   clear HA
   simp only [spec_l2Meet.l0] at H
   by_cases c5 : x5_1 < (l0_2.length : Int)
   ·rw [if_pos c5] at H
    have c5b0 : decide (x5_1 < (l0_2.length : Int)) = true := decide_eq_true c5
    clear c5
    have H' := Az.mk H
    clear H
    have hnb6 := NB432_433.out
    have hnc6 := NB433_432.out
    have hcz7_0 : wr.cell? ⟨gb432, 0, none⟩ = some (.int .i64 a0_0) := (zq4 BK432.out 0).trans rfl
    have hcz7_1 : wr.cell? ⟨gb432, 1, none⟩ = some (.int .i64 a0_1) := (zq4 BK432.out 1).trans rfl
    have hcz7_2 : wr.cell? ⟨gb432, 2, none⟩ = some (.slice A0_2 l0_2.length c0_2) := (zq4 BK432.out 2).trans rfl
    have hfz7_0 := zq5 BK432.out 0
    have hfz7_1 := zq5 BK432.out 1
    have hfz7_2 := zq5 BK432.out 2
    go_wp2
    repeat (go_quiet (fail); try go_wp2)
    go_loopg [6] k1 (fun kq v6 w' => ∃ (x6_2 : Int), v6 = .int .i64 x6_2 ∧ Az (spec_l2Meet.l1 kq x5_1 x6_2 a0_0 a0_1 l0_2 a1_0 a1_1 l1_2 = some r) ∧ Az (kq ≤ k1) ∧ Az (w'.heap[gb432]? = some (.cells #[.int .i64 a0_0, .int .i64 a0_1, (.slice A0_2 l0_2.length c0_2)] 29 (0, 0))) ∧ Az (w'.heap[gb433]? = some (.cells #[.int .i64 a1_0, .int .i64 a1_1, (.slice A1_2 l1_2.length c1_2)] 29 (0, 0))) ∧ Az (Below w.heap.size w w'))
    case atStart => exact ⟨(0), (by first | rfl | (simp; done) | (simp [*]; done)), H', ⟨Nat.le_refl _⟩, ⟨by (with_reducible repeat (first | refine zq6 ?_ _ | refine zq8 ?_ | refine zq7 ?_ _)); exact BK432.out⟩, ⟨by (with_reducible repeat (first | refine zq6 ?_ _ | refine zq8 ?_ | refine zq7 ?_ _)); exact BK433.out⟩, ⟨by repeat (first | (with_reducible first | exact HB.out | apply zq2 | apply zq1 | apply zqd | refine zq3 ?_ GE432.out | refine zq3 ?_ GE433.out) | exact HB.out)⟩⟩
    case round =>
     clear H'
     try clear c1
     try clear p2
     try clear c5
     try clear c5b0
     try clear c6
     try clear hcz7_0
     try clear hcz7_1
     try clear hcz7_2
     try clear hfz7_0
     try clear hfz7_1
     try clear hfz7_2
     try clear p2
     obtain ⟨x6_2, rfl, HA, HK2, BK432, BK433, HB⟩ := hrel
     cases gk with
     | zero => exact absurd HA.out (by simp [spec_l2Meet.l1])
     | succ k2 =>
      have H := HA.out
      clear HA
      simp only [spec_l2Meet.l1] at H
      by_cases c8 : x6_2 < (l1_2.length : Int)
      ·rw [if_pos c8] at H
       have c8b0 : decide (x6_2 < (l1_2.length : Int)) = true := decide_eq_true c8
       clear c8
       by_cases c9 : 0 ≤ x5_1
       ·rw [if_pos c9] at H
        have c9b0 : decide (0 ≤ x5_1) = true := decide_eq_true c9
        clear c9
        by_cases c10 : x5_1 < (l0_2.length : Int)
        ·rw [if_pos c10] at H
         have c10b0 : decide (x5_1 < (l0_2.length : Int)) = true := decide_eq_true c10
         clear c10
         by_cases c11 : 0 ≤ x6_2
         ·rw [if_pos c11] at H
          have c11b0 : decide (0 ≤ x6_2) = true := decide_eq_true c11
          clear c11
          by_cases c12 : (((rd_T37 l0_2 x5_1).f0) == ((rd_T37 l1_2 x6_2).f0) && (((rd_T37 l0_2 x5_1).f1) == ((rd_T37 l1_2 x6_2).f1))) = true
          ·rw [if_pos c12] at H
           have c12b0 : (((rd_T37 l0_2 x5_1).f0) == ((rd_T37 l1_2 x6_2).f0) && (((rd_T37 l0_2 x5_1).f1) == ((rd_T37 l1_2 x6_2).f1))) = true := c12
           (try (have c12b1 : decide (((rd_T37 l0_2 x5_1).f0) = ((rd_T37 l1_2 x6_2).f0) && (((rd_T37 l0_2 x5_1).f1) == ((rd_T37 l1_2 x6_2).f1))) = true := by simpa using c12))
           (try (have c12b2 : (((rd_T37 l0_2 x5_1).f0) == ((rd_T37 l1_2 x6_2).f0) && (((rd_T37 l0_2 x5_1).f1) == ((rd_T37 l1_2 x6_2).f1))) = true := by simpa using c12))
           clear c12
           obtain rfl := Option.some.inj H
           have hnb13 := NB433_432.out
           have hnc13 := NB432_433.out
           have hcz14_0 : wr.cell? ⟨gb433, 0, none⟩ = some (.int .i64 a1_0) := (zq4 BK433.out 0).trans rfl
           have hcz14_1 : wr.cell? ⟨gb433, 1, none⟩ = some (.int .i64 a1_1) := (zq4 BK433.out 1).trans rfl
           have hcz14_2 : wr.cell? ⟨gb433, 2, none⟩ = some (.slice A1_2 l1_2.length c1_2) := (zq4 BK433.out 2).trans rfl
           have hfz14_0 := zq5 BK433.out 0
           have hfz14_1 := zq5 BK433.out 1
           have hfz14_2 := zq5 BK433.out 2
           have hcz15_0 : wr.cell? ⟨gb432, 0, none⟩ = some (.int .i64 a0_0) := (zq4 BK432.out 0).trans rfl
           have hcz15_1 : wr.cell? ⟨gb432, 1, none⟩ = some (.int .i64 a0_1) := (zq4 BK432.out 1).trans rfl
           have hcz15_2 : wr.cell? ⟨gb432, 2, none⟩ = some (.slice A0_2 l0_2.length c0_2) := (zq4 BK432.out 2).trans rfl
           have hfz15_0 := zq5 BK432.out 0
           have hfz15_1 := zq5 BK432.out 1
           have hfz15_2 := zq5 BK432.out 2
           have p434 : 0 ≤ (x5_1 : Int) := of_decide_eq_true (by first | (with_reducible assumption) | assumption)
           have q434 : x5_1 < (l0_2.length : Int) := of_decide_eq_true (by first | (with_reducible assumption) | assumption)
           obtain ⟨ad434, e434, hx434_0, hx434_1⟩ := at_T37 HR0_2.out x5_1 p434 q434
           cases e434
           replace hx434_0 := (HB.out.cell (World.block_lt_of_cell? w _ hx434_0)).trans hx434_0
           replace hx434_1 := (HB.out.cell (World.block_lt_of_cell? w _ hx434_1)).trans hx434_1
           replace p434 := eq_true p434
           replace q434 := eq_true q434
           have p435 : 0 ≤ (x6_2 : Int) := of_decide_eq_true (by first | (with_reducible assumption) | assumption)
           have q435 : x6_2 < (l1_2.length : Int) := of_decide_eq_true (by first | (with_reducible assumption) | assumption)
           obtain ⟨ad435, e435, hx435_0, hx435_1⟩ := at_T37 HR1_2.out x6_2 p435 q435
           cases e435
           replace hx435_0 := (HB.out.cell (World.block_lt_of_cell? w _ hx435_0)).trans hx435_0
           replace hx435_1 := (HB.out.cell (World.block_lt_of_cell? w _ hx435_1)).trans hx435_1
           replace p435 := eq_true p435
           replace q435 := eq_true q435
           go_wp2
           repeat (go_quiet (fail); try go_wp2)
           go_ret
           exact ⟨by first | rfl | (simp [errW_none, errW_some] <;> rfl) | (simp [*, errW_none, errW_some] <;> rfl), by repeat (first | (with_reducible first | exact HB.out | apply zq2 | apply zq1 | apply zqd | refine zq3 ?_ GE432.out | refine zq3 ?_ GE433.out) | exact HB.out)⟩
          ·rw [if_neg c12] at H
           have c12b0 : (((rd_T37 l0_2 x5_1).f0) == ((rd_T37 l1_2 x6_2).f0) && (((rd_T37 l0_2 x5_1).f1) == ((rd_T37 l1_2 x6_2).f1))) = false := by simpa using c12
           (try (have c12b1 : decide (((rd_T37 l0_2 x5_1).f0) = ((rd_T37 l1_2 x6_2).f0) && (((rd_T37 l0_2 x5_1).f1) == ((rd_T37 l1_2 x6_2).f1))) = false := by simpa using c12))
           (try (have c12b2 : (((rd_T37 l0_2 x5_1).f0) == ((rd_T37 l1_2 x6_2).f0) && (((rd_T37 l0_2 x5_1).f1) == ((rd_T37 l1_2 x6_2).f1))) = false := by simpa using c12))
           (try (have c12b3 : ¬ (((rd_T37 l0_2 x5_1).f0) = ((rd_T37 l1_2 x6_2).f0) && (((rd_T37 l0_2 x5_1).f1) == ((rd_T37 l1_2 x6_2).f1))) := by simpa using c12))
           clear c12
           have H' := Az.mk H
           clear H
           have hnb16 := NB433_432.out
           have hnc16 := NB432_433.out
           have hcz17_0 : wr.cell? ⟨gb433, 0, none⟩ = some (.int .i64 a1_0) := (zq4 BK433.out 0).trans rfl
           have hcz17_1 : wr.cell? ⟨gb433, 1, none⟩ = some (.int .i64 a1_1) := (zq4 BK433.out 1).trans rfl
           have hcz17_2 : wr.cell? ⟨gb433, 2, none⟩ = some (.slice A1_2 l1_2.length c1_2) := (zq4 BK433.out 2).trans rfl
           have hfz17_0 := zq5 BK433.out 0
           have hfz17_1 := zq5 BK433.out 1
           have hfz17_2 := zq5 BK433.out 2
           have hcz18_0 : wr.cell? ⟨gb432, 0, none⟩ = some (.int .i64 a0_0) := (zq4 BK432.out 0).trans rfl
           have hcz18_1 : wr.cell? ⟨gb432, 1, none⟩ = some (.int .i64 a0_1) := (zq4 BK432.out 1).trans rfl
           have hcz18_2 : wr.cell? ⟨gb432, 2, none⟩ = some (.slice A0_2 l0_2.length c0_2) := (zq4 BK432.out 2).trans rfl
           have hfz18_0 := zq5 BK432.out 0
           have hfz18_1 := zq5 BK432.out 1
           have hfz18_2 := zq5 BK432.out 2
           have p434 : 0 ≤ (x5_1 : Int) := of_decide_eq_true (by first | (with_reducible assumption) | assumption)
           have q434 : x5_1 < (l0_2.length : Int) := of_decide_eq_true (by first | (with_reducible assumption) | assumption)
           obtain ⟨ad434, e434, hx434_0, hx434_1⟩ := at_T37 HR0_2.out x5_1 p434 q434
           cases e434
           replace hx434_0 := (HB.out.cell (World.block_lt_of_cell? w _ hx434_0)).trans hx434_0
           replace hx434_1 := (HB.out.cell (World.block_lt_of_cell? w _ hx434_1)).trans hx434_1
           replace p434 := eq_true p434
           replace q434 := eq_true q434
           have p435 : 0 ≤ (x6_2 : Int) := of_decide_eq_true (by first | (with_reducible assumption) | assumption)
           have q435 : x6_2 < (l1_2.length : Int) := of_decide_eq_true (by first | (with_reducible assumption) | assumption)
           obtain ⟨ad435, e435, hx435_0, hx435_1⟩ := at_T37 HR1_2.out x6_2 p435 q435
           cases e435
           replace hx435_0 := (HB.out.cell (World.block_lt_of_cell? w _ hx435_0)).trans hx435_0
           replace hx435_1 := (HB.out.cell (World.block_lt_of_cell? w _ hx435_1)).trans hx435_1
           replace p435 := eq_true p435
           replace q435 := eq_true q435
           go_wp2
           repeat (go_quiet (fail); try go_wp2)
           go_roundg k2
           case measure => have := HK1.out; have := HK2.out; omega
           case rel => exact ⟨(wrap64 (x6_2 + 1)), (by first | rfl | (simp; done) | (simp [*]; done)), H', ⟨by have := HK1.out; have := HK2.out; omega⟩, ⟨by (with_reducible repeat (first | refine zq6 ?_ _ | refine zq8 ?_ | refine zq7 ?_ _)); exact BK432.out⟩, ⟨by (with_reducible repeat (first | refine zq6 ?_ _ | refine zq8 ?_ | refine zq7 ?_ _)); exact BK433.out⟩, ⟨by repeat (first | (with_reducible first | exact HB.out | apply zq2 | apply zq1 | apply zqd | refine zq3 ?_ GE432.out | refine zq3 ?_ GE433.out) | exact HB.out)⟩⟩
         ·rw [if_neg c11] at H
          exact absurd H (by simp)
        ·rw [if_neg c10] at H
         exact absurd H (by simp)
       ·rw [if_neg c9] at H
        exact absurd H (by simp)
      ·rw [if_neg c8] at H
       have c8b0 : decide (x6_2 < (l1_2.length : Int)) = false := decide_eq_false c8
       clear c8
       have H' := Az.mk H
       clear H
       have hnb19 := NB433_432.out
       have hnc19 := NB432_433.out
       have hcz20_0 : wr.cell? ⟨gb433, 0, none⟩ = some (.int .i64 a1_0) := (zq4 BK433.out 0).trans rfl
       have hcz20_1 : wr.cell? ⟨gb433, 1, none⟩ = some (.int .i64 a1_1) := (zq4 BK433.out 1).trans rfl
       have hcz20_2 : wr.cell? ⟨gb433, 2, none⟩ = some (.slice A1_2 l1_2.length c1_2) := (zq4 BK433.out 2).trans rfl
       have hfz20_0 := zq5 BK433.out 0
       have hfz20_1 := zq5 BK433.out 1
       have hfz20_2 := zq5 BK433.out 2
       go_wp2
       repeat (go_quiet (fail); try go_wp2)
       go_roundg k2
       case measure => have := HK1.out; have := HK2.out; omega
       case rel => exact ⟨(wrap64 (x5_1 + 1)), (by first | rfl | (simp; done) | (simp [*]; done)), H', ⟨by have := HK1.out; have := HK2.out; omega⟩, ⟨by (with_reducible repeat (first | refine zq6 ?_ _ | refine zq8 ?_ | refine zq7 ?_ _)); exact BK432.out⟩, ⟨by (with_reducible repeat (first | refine zq6 ?_ _ | refine zq8 ?_ | refine zq7 ?_ _)); exact BK433.out⟩, ⟨by repeat (first | (with_reducible first | exact HB.out | apply zq2 | apply zq1 | apply zqd | refine zq3 ?_ GE432.out | refine zq3 ?_ GE433.out) | exact HB.out)⟩⟩
   ·rw [if_neg c5] at H
    have c5b0 : decide (x5_1 < (l0_2.length : Int)) = false := decide_eq_false c5
    clear c5
    obtain rfl := Option.some.inj H
    have hnb21 := NB432_433.out
    have hnc21 := NB433_432.out
    have hcz22_0 : wr.cell? ⟨gb432, 0, none⟩ = some (.int .i64 a0_0) := (zq4 BK432.out 0).trans rfl
    have hcz22_1 : wr.cell? ⟨gb432, 1, none⟩ = some (.int .i64 a0_1) := (zq4 BK432.out 1).trans rfl
    have hcz22_2 : wr.cell? ⟨gb432, 2, none⟩ = some (.slice A0_2 l0_2.length c0_2) := (zq4 BK432.out 2).trans rfl
    have hfz22_0 := zq5 BK432.out 0
    have hfz22_1 := zq5 BK432.out 1
    have hfz22_2 := zq5 BK432.out 2
    go_wp2
    repeat (go_quiet (fail); try go_wp2)
    go_ret
    exact ⟨by first | rfl | (simp [errW_none, errW_some] <;> rfl) | (simp [*, errW_none, errW_some] <;> rfl), by repeat (first | (with_reducible first | exact HB.out | apply zq2 | apply zq1 | apply zqd | refine zq3 ?_ GE432.out | refine zq3 ?_ GE433.out) | exact HB.out)⟩
end Go.Proofs.Ytkoimmeghdbodaa.Print
namespace Go.Proofs.Ytkoimmeghdbodaa.Print
open Go.RowKit Go.Proofs.YtkoimmeghdbodaaW.PrintWords Go.Proofs.YtkoimmeghdbodaaW.PrintLast Go.Proofs.YtkoimmeghdbodaaW.PrintMore
attribute [local go_sem] max2_int min2_int max_two min_two max_three min_three max_four min_four   -- for this text's walks alone
set_option linter.unusedVariables false
set_option linter.unusedSimpArgs false
def spec_l2Name.l0 : Nat → ByteArray → Int → Option (Bool)
 | 0, _, _ => none
 | k + 1, x0, x3 => if x3 < (x0.size : Int) then (if 0 ≤ x3 then (if (bt x0 x3) < 97 then (some false) else (if (bt x0 x3) > 122 then (some false) else (spec_l2Name.l0 k x0 (wrap64 (x3 + 1))))) else (none)) else (some true)
def spec_l2Name.f (k : Nat) (a0 : ByteArray) : Option (Bool) := (spec_l6In.f (a0.size : Int) 1 3).bind fun t436 => (if t436 = true then (spec_l2Name.l0 k a0 0) else (some false))
set_option maxHeartbeats 8000000 in
set_option maxRecDepth 100000 in
theorem spec_l2Name.calls (k : Nat) (a0 : ByteArray) (r : Bool) (w : World) (h : spec_l2Name.f k a0 = some r) :
  Calls Try.prog 98 #[.string a0] w fun e w' => e = .returned (.bool r) ∧ Drawn0 w w' := by
 have H : ((spec_l6In.f (a0.size : Int) 1 3).bind fun t436 => (if t436 = true then (spec_l2Name.l0 k a0 0) else (some false))) = some r := h
 clear h
 replace H := Option.bind_eq_some_iff.mp H
 obtain ⟨t436, A20, H⟩ := H
 replace H : (if t436 = true then (spec_l2Name.l0 k a0 0) else (some false)) = some r := H
 have A2 := Az.mk A20
 clear A20
 by_cases c3 : t436 = true
 ·subst c3
  have H1 : (spec_l2Name.l0 k a0 0) = some r := by rw [if_pos rfl] at H; exact H
  clear H
  have H := H1
  clear H1
  have H' := Az.mk H
  clear H
  go_enter Try.func98, Try.ntmps98
  go_wp2_with (first | ((with_reducible refine gate_callee (f := 75) rfl ?_); refine zq9 (some 6) rfl rfl Try.func75 (by kernel_rfl) rfl #[.int .i64 (a0.size : Int), .int .i64 1, .int .i64 3] rfl (by (try simp only [List.map_toArray, List.map_cons, List.map_nil]); first | done | rfl | (simp only [List.length_drop, List.length_take]; rfl)) ?_; (with_reducible refine (spec_l6In.calls (a0.size : Int) 1 3 true _ A2.out).mono ?_); rintro e w' ⟨rfl, ⟨nd, rfl⟩⟩; refine ⟨_, rfl, ?_⟩))
  go_loopg [3] k (fun kq v3 w' => ∃ (x3_1 : Int), v3 = .int .i64 x3_1 ∧ Az (spec_l2Name.l0 kq a0 x3_1 = some r) ∧ Az (kq ≤ k) ∧ Drawn0 w w')
  case atStart => exact ⟨(0), (by first | rfl | (simp; done) | (simp [*]; done)), H', ⟨Nat.le_refl _⟩, by repeat (first | exact Drawn0.refl _ | apply Drawn0.step)⟩
  case round =>
   clear H'
   try clear p2
   try clear c3
   obtain ⟨x3_1, rfl, HA, HK1, ⟨m1, rfl⟩⟩ := hrel
   cases gk with
   | zero => exact absurd HA.out (by simp [spec_l2Name.l0])
   | succ k1 =>
    have H := HA.out
    clear HA
    simp only [spec_l2Name.l0] at H
    by_cases c4 : x3_1 < (a0.size : Int)
    ·rw [if_pos c4] at H
     have c4b0 : decide (x3_1 < (a0.size : Int)) = true := decide_eq_true c4
     clear c4
     by_cases c5 : 0 ≤ x3_1
     ·rw [if_pos c5] at H
      have c5b0 : decide (0 ≤ x3_1) = true := decide_eq_true c5
      clear c5
      by_cases c7 : (bt a0 x3_1) < 97
      ·rw [if_pos c7] at H
       have c7b0 : decide ((bt a0 x3_1) < 97) = true := decide_eq_true c7
       clear c7
       obtain rfl := Option.some.inj H
       have p6 : 0 ≤ (x3_1 : Int) := of_decide_eq_true (by first | (with_reducible assumption) | assumption)
       have q6 : x3_1 < (a0.size : Int) := of_decide_eq_true (by first | (with_reducible assumption) | assumption)
       have hx6 := bt_at a0 x3_1
       replace p6 := eq_true p6
       replace q6 := eq_true q6
       go_wp2
       go_ret
       exact ⟨by first | rfl | (simp; done) | (simp [*]; done), by repeat (first | exact Drawn0.refl _ | apply Drawn0.step)⟩
      ·rw [if_neg c7] at H
       have c7b0 : decide ((bt a0 x3_1) < 97) = false := decide_eq_false c7
       clear c7
       by_cases c9 : (bt a0 x3_1) > 122
       ·rw [if_pos c9] at H
        have c9b0 : decide (122 < (bt a0 x3_1)) = true := decide_eq_true c9
        clear c9
        obtain rfl := Option.some.inj H
        have p6 : 0 ≤ (x3_1 : Int) := of_decide_eq_true (by first | (with_reducible assumption) | assumption)
        have q6 : x3_1 < (a0.size : Int) := of_decide_eq_true (by first | (with_reducible assumption) | assumption)
        have hx6 := bt_at a0 x3_1
        replace p6 := eq_true p6
        replace q6 := eq_true q6
        have p8 : 0 ≤ (x3_1 : Int) := of_decide_eq_true (by first | (with_reducible assumption) | assumption)
        have q8 : x3_1 < (a0.size : Int) := of_decide_eq_true (by first | (with_reducible assumption) | assumption)
        have hx8 := bt_at a0 x3_1
        replace p8 := eq_true p8
        replace q8 := eq_true q8
        go_wp2
        go_ret
        exact ⟨by first | rfl | (simp; done) | (simp [*]; done), by repeat (first | exact Drawn0.refl _ | apply Drawn0.step)⟩
       ·rw [if_neg c9] at H
        have c9b0 : decide (122 < (bt a0 x3_1)) = false := decide_eq_false c9
        clear c9
        have H' := Az.mk H
        clear H
        have p6 : 0 ≤ (x3_1 : Int) := of_decide_eq_true (by first | (with_reducible assumption) | assumption)
        have q6 : x3_1 < (a0.size : Int) := of_decide_eq_true (by first | (with_reducible assumption) | assumption)
        have hx6 := bt_at a0 x3_1
        replace p6 := eq_true p6
        replace q6 := eq_true q6
        have p8 : 0 ≤ (x3_1 : Int) := of_decide_eq_true (by first | (with_reducible assumption) | assumption)
        have q8 : x3_1 < (a0.size : Int) := of_decide_eq_true (by first | (with_reducible assumption) | assumption)
        have hx8 := bt_at a0 x3_1
        replace p8 := eq_true p8
        replace q8 := eq_true q8
        go_wp2
        go_roundg k1
        case measure => have := HK1.out; omega
        case rel => exact ⟨(wrap64 (x3_1 + 1)), (by first | rfl | (simp; done) | (simp [*]; done)), H', ⟨by have := HK1.out; omega⟩, by repeat (first | exact Drawn0.refl _ | apply Drawn0.step)⟩
     ·rw [if_neg c5] at H
      exact absurd H (by simp)
    ·rw [if_neg c4] at H
     have c4b0 : decide (x3_1 < (a0.size : Int)) = false := decide_eq_false c4
     clear c4
     obtain rfl := Option.some.inj H
     go_wp2
     go_ret
     exact ⟨by first | rfl | (simp; done) | (simp [*]; done), by repeat (first | exact Drawn0.refl _ | apply Drawn0.step)⟩
 ·replace c3 := Bool.eq_false_iff.mpr c3
  subst c3
  have H1 : (some false) = some r := by rw [if_neg (show ¬ (false = true) by decide)] at H; exact H
  clear H
  have H := H1
  clear H1
  obtain rfl := Option.some.inj H
  go_enter Try.func98, Try.ntmps98
  go_wp2_with (first | ((with_reducible refine gate_callee (f := 75) rfl ?_); refine zq9 (some 6) rfl rfl Try.func75 (by kernel_rfl) rfl #[.int .i64 (a0.size : Int), .int .i64 1, .int .i64 3] rfl (by (try simp only [List.map_toArray, List.map_cons, List.map_nil]); first | done | rfl | (simp only [List.length_drop, List.length_take]; rfl)) ?_; (with_reducible refine (spec_l6In.calls (a0.size : Int) 1 3 false _ A2.out).mono ?_); rintro e w' ⟨rfl, ⟨nd, rfl⟩⟩; refine ⟨_, rfl, ?_⟩))
  go_ret
  exact ⟨by first | rfl | (simp; done) | (simp [*]; done), by repeat (first | exact Drawn0.refl _ | apply Drawn0.step)⟩
end Go.Proofs.Ytkoimmeghdbodaa.Print
namespace Go.Proofs.Ytkoimmeghdbodaa.Print
open Go.RowKit Go.Proofs.YtkoimmeghdbodaaW.PrintWords Go.Proofs.YtkoimmeghdbodaaW.PrintLast Go.Proofs.YtkoimmeghdbodaaW.PrintMore
attribute [local go_sem] max2_int min2_int max_two min_two max_three min_three max_four min_four   -- for this text's walks alone
set_option linter.unusedVariables false
set_option linter.unusedSimpArgs false
attribute [local go_sem high] eqA37
mutual
def spec_l2Same.j0 : Nat → Bool → Int → Int → List (S37) → Int → Int → List (S37) → Option (Bool)
 | 0, _, _, _, _, _, _, _ => none
 | k + 1, x26, x438000, x438001, x438002, x439000, x439001, x439002 => if x26 = true then (some false) else (spec_l2Same.l0 k 0 x438000 x438001 x438002 x439000 x439001 x439002)
def spec_l2Same.l0 : Nat → Int → Int → Int → List (S37) → Int → Int → List (S37) → Option (Bool)
 | 0, _, _, _, _, _, _, _ => none
 | k + 1, x5, x438000, x438001, x438002, x439000, x439001, x439002 => if x5 < (x438002.length : Int) then (if 0 ≤ x5 then (if x5 < (x439002.length : Int) then (if (!(((rd_T37 x438002 x5).f0) == ((rd_T37 x439002 x5).f0)) || (!(((rd_T37 x438002 x5).f1) == ((rd_T37 x439002 x5).f1)))) = true then (some false) else (spec_l2Same.l0 k (wrap64 (x5 + 1)) x438000 x438001 x438002 x439000 x439001 x439002)) else (none)) else (none)) else (some true)
end
def spec_l2Same.f (k : Nat) (a0_0 : Int) (a0_1 : Int) (l0_2 : List (S37)) (a1_0 : Int) (a1_1 : Int) (l1_2 : List (S37)) : Option (Bool) := if a0_0 = a1_0 then (if a0_1 = a1_1 then (spec_l2Same.j0 k ((l0_2.length : Int) != (l1_2.length : Int)) a0_0 a0_1 l0_2 a1_0 a1_1 l1_2) else (spec_l2Same.j0 k true a0_0 a0_1 l0_2 a1_0 a1_1 l1_2)) else (spec_l2Same.j0 k true a0_0 a0_1 l0_2 a1_0 a1_1 l1_2)
set_option maxHeartbeats 8000000 in
set_option maxRecDepth 100000 in
theorem spec_l2Same.calls (k : Nat) (a0_0 : Int) (a0_1 : Int) (A0_2 : Option Addr) (c0_2 : Nat) (l0_2 : List (S37)) (a1_0 : Int) (a1_1 : Int) (A1_2 : Option Addr) (c1_2 : Nat) (l1_2 : List (S37)) (r : Bool) (w : World) (hr0_2 : Kd.C k37 w A0_2 l0_2.length l0_2) (hc0_2 : l0_2.length ≤ c0_2) (hr1_2 : Kd.C k37 w A1_2 l1_2.length l1_2) (hc1_2 : l1_2.length ≤ c1_2) (h : spec_l2Same.f k a0_0 a0_1 l0_2 a1_0 a1_1 l1_2 = some r) :
  Calls Try.prog 99 #[.agg #[.int .i64 a0_0, .int .i64 a0_1, .slice A0_2 l0_2.length c0_2], .agg #[.int .i64 a1_0, .int .i64 a1_1, .slice A1_2 l1_2.length c1_2]] w fun e w' => e = .returned (.bool r) ∧ Below w.heap.size w w' := by
 have hu29 := Try.underlying29
 have hu37 := Try.underlying37
 have HR0_2 := Az.mk hr0_2
 have HC0_2 := Az.mk hc0_2
 clear hr0_2 hc0_2
 have HR1_2 := Az.mk hr1_2
 have HC1_2 := Az.mk hc1_2
 clear hr1_2 hc1_2
 have HB := Az.mk (Below.refl w.heap.size w)
 have H : (if a0_0 = a1_0 then (if a0_1 = a1_1 then (spec_l2Same.j0 k ((l0_2.length : Int) != (l1_2.length : Int)) a0_0 a0_1 l0_2 a1_0 a1_1 l1_2) else (spec_l2Same.j0 k true a0_0 a0_1 l0_2 a1_0 a1_1 l1_2)) else (spec_l2Same.j0 k true a0_0 a0_1 l0_2 a1_0 a1_1 l1_2)) = some r := h
 clear h
 have HC3 := Az.mk H
 clear H
 go_enter Try.func99, Try.ntmps99
 go_upto_region 1 with (first | ((with_reducible refine zqg (N := 2) rfl ?_); (try (refine gate_guard (by rfl) ?_; dsimp only)); refine zqb ?hg (N := 2) ?hd (cs := #[.int .i64 a0_0, .int .i64 a0_1, .slice A0_2 l0_2.length c0_2]) (t := 29) ?hr ?_; (case hd => rfl); (case hg => rfl); (case hr => first | (go_simp; done) | (go_simp; rfl)); intro gb437 hg w4 hbox hb; have n0_ := Az.mk (below_step (by repeat (first | (with_reducible first | exact HB.out | apply zq2 | apply zq1 | apply zqd) | exact HB.out)) hb); have n1_ := Az.mk (hbox); have n2_ := Az.mk ((by rw [hg]; exact (below_size (by repeat (first | (with_reducible first | exact HB.out | apply zq2 | apply zq1 | apply zqd) | exact HB.out))) : w.heap.size ≤ gb437)); have n3_ := Az.mk ((by rw [hg]; exact (below_size (by repeat (first | (with_reducible first | exact HB.out | apply zq2 | apply zq1 | apply zqd) | exact HB.out))) : w.heap.size ≤ gb437)); clear HB; have HB := n0_; have BK437 := n1_; have GW437 := n2_; have GE437 := n3_; clear n0_ n1_ n2_ n3_; clear hb hbox hg) | ((with_reducible refine zqg (N := 3) rfl ?_); (try (refine gate_guard (by rfl) ?_; dsimp only)); refine zqb ?hg (N := 3) ?hd (cs := #[.int .i64 a1_0, .int .i64 a1_1, .slice A1_2 l1_2.length c1_2]) (t := 29) ?hr ?_; (case hd => rfl); (case hg => rfl); (case hr => first | (go_simp; done) | (go_simp; rfl)); intro gb438 hg w5 hbox hb; have n0_ := Az.mk (blk_below (g := gb437) (o := .cells #[.int .i64 a0_0, .int .i64 a0_1, .slice A0_2 l0_2.length c0_2] 29 (0, 0)) (by (with_reducible repeat (first | refine zq6 ?_ _ | refine zq8 ?_ | refine zq7 ?_ _)); exact BK437.out) hb); have n1_ := Az.mk (below_step (by repeat (first | (with_reducible first | exact HB.out | apply zq2 | apply zq1 | apply zqd | refine zq3 ?_ GE437.out) | exact HB.out)) hb); have n2_ := Az.mk (hbox); have n3_ := Az.mk ((by rw [hg]; exact (below_size (by repeat (first | (with_reducible first | exact HB.out | apply zq2 | apply zq1 | apply zqd | refine zq3 ?_ GE437.out) | exact HB.out))) : w.heap.size ≤ gb438)); have n4_ := Az.mk ((by rw [hg]; exact (below_size (by repeat (first | (with_reducible first | exact HB.out | apply zq2 | apply zq1 | apply zqd | refine zq3 ?_ GE437.out) | exact HB.out))) : w.heap.size ≤ gb438)); have n5_ := Az.mk ((by rw [hg]; exact Nat.ne_of_lt (blk_lt (g := gb437) (o := .cells #[.int .i64 a0_0, .int .i64 a0_1, .slice A0_2 l0_2.length c0_2] 29 (0, 0)) (by (with_reducible repeat (first | refine zq6 ?_ _ | refine zq8 ?_ | refine zq7 ?_ _)); exact BK437.out)) : gb437 ≠ gb438)); have n6_ := Az.mk ((by rw [hg]; exact Nat.ne_of_gt (blk_lt (g := gb437) (o := .cells #[.int .i64 a0_0, .int .i64 a0_1, .slice A0_2 l0_2.length c0_2] 29 (0, 0)) (by (with_reducible repeat (first | refine zq6 ?_ _ | refine zq8 ?_ | refine zq7 ?_ _)); exact BK437.out)) : gb438 ≠ gb437)); clear BK437; clear HB; have BK437 := n0_; have HB := n1_; have BK438 := n2_; have GW438 := n3_; have GE438 := n4_; have NB437_438 := n5_; have NB438_437 := n6_; clear n0_ n1_ n2_ n3_ n4_ n5_ n6_; clear hb hbox hg))
 repeat (go_quiet (first | ((with_reducible refine zqg (N := 2) rfl ?_); (try (refine gate_guard (by rfl) ?_; dsimp only)); refine zqb ?hg (N := 2) ?hd (cs := #[.int .i64 a0_0, .int .i64 a0_1, .slice A0_2 l0_2.length c0_2]) (t := 29) ?hr ?_; (case hd => rfl); (case hg => rfl); (case hr => first | (go_simp; done) | (go_simp; rfl)); intro gb437 hg w4 hbox hb; have n0_ := Az.mk (below_step (by repeat (first | (with_reducible first | exact HB.out | apply zq2 | apply zq1 | apply zqd) | exact HB.out)) hb); have n1_ := Az.mk (hbox); have n2_ := Az.mk ((by rw [hg]; exact (below_size (by repeat (first | (with_reducible first | exact HB.out | apply zq2 | apply zq1 | apply zqd) | exact HB.out))) : w.heap.size ≤ gb437)); have n3_ := Az.mk ((by rw [hg]; exact (below_size (by repeat (first | (with_reducible first | exact HB.out | apply zq2 | apply zq1 | apply zqd) | exact HB.out))) : w.heap.size ≤ gb437)); clear HB; have HB := n0_; have BK437 := n1_; have GW437 := n2_; have GE437 := n3_; clear n0_ n1_ n2_ n3_; clear hb hbox hg) | ((with_reducible refine zqg (N := 3) rfl ?_); (try (refine gate_guard (by rfl) ?_; dsimp only)); refine zqb ?hg (N := 3) ?hd (cs := #[.int .i64 a1_0, .int .i64 a1_1, .slice A1_2 l1_2.length c1_2]) (t := 29) ?hr ?_; (case hd => rfl); (case hg => rfl); (case hr => first | (go_simp; done) | (go_simp; rfl)); intro gb438 hg w5 hbox hb; have n0_ := Az.mk (blk_below (g := gb437) (o := .cells #[.int .i64 a0_0, .int .i64 a0_1, .slice A0_2 l0_2.length c0_2] 29 (0, 0)) (by (with_reducible repeat (first | refine zq6 ?_ _ | refine zq8 ?_ | refine zq7 ?_ _)); exact BK437.out) hb); have n1_ := Az.mk (below_step (by repeat (first | (with_reducible first | exact HB.out | apply zq2 | apply zq1 | apply zqd | refine zq3 ?_ GE437.out) | exact HB.out)) hb); have n2_ := Az.mk (hbox); have n3_ := Az.mk ((by rw [hg]; exact (below_size (by repeat (first | (with_reducible first | exact HB.out | apply zq2 | apply zq1 | apply zqd | refine zq3 ?_ GE437.out) | exact HB.out))) : w.heap.size ≤ gb438)); have n4_ := Az.mk ((by rw [hg]; exact (below_size (by repeat (first | (with_reducible first | exact HB.out | apply zq2 | apply zq1 | apply zqd | refine zq3 ?_ GE437.out) | exact HB.out))) : w.heap.size ≤ gb438)); have n5_ := Az.mk ((by rw [hg]; exact Nat.ne_of_lt (blk_lt (g := gb437) (o := .cells #[.int .i64 a0_0, .int .i64 a0_1, .slice A0_2 l0_2.length c0_2] 29 (0, 0)) (by (with_reducible repeat (first | refine zq6 ?_ _ | refine zq8 ?_ | refine zq7 ?_ _)); exact BK437.out)) : gb437 ≠ gb438)); have n6_ := Az.mk ((by rw [hg]; exact Nat.ne_of_gt (blk_lt (g := gb437) (o := .cells #[.int .i64 a0_0, .int .i64 a0_1, .slice A0_2 l0_2.length c0_2] 29 (0, 0)) (by (with_reducible repeat (first | refine zq6 ?_ _ | refine zq8 ?_ | refine zq7 ?_ _)); exact BK437.out)) : gb438 ≠ gb437)); clear BK437; clear HB; have BK437 := n0_; have HB := n1_; have BK438 := n2_; have GW438 := n3_; have GE438 := n4_; have NB437_438 := n5_; have NB438_437 := n6_; clear n0_ n1_ n2_ n3_ n4_ n5_ n6_; clear hb hbox hg)); go_upto_region 1 with (first | ((with_reducible refine zqg (N := 2) rfl ?_); (try (refine gate_guard (by rfl) ?_; dsimp only)); refine zqb ?hg (N := 2) ?hd (cs := #[.int .i64 a0_0, .int .i64 a0_1, .slice A0_2 l0_2.length c0_2]) (t := 29) ?hr ?_; (case hd => rfl); (case hg => rfl); (case hr => first | (go_simp; done) | (go_simp; rfl)); intro gb437 hg w4 hbox hb; have n0_ := Az.mk (below_step (by repeat (first | (with_reducible first | exact HB.out | apply zq2 | apply zq1 | apply zqd) | exact HB.out)) hb); have n1_ := Az.mk (hbox); have n2_ := Az.mk ((by rw [hg]; exact (below_size (by repeat (first | (with_reducible first | exact HB.out | apply zq2 | apply zq1 | apply zqd) | exact HB.out))) : w.heap.size ≤ gb437)); have n3_ := Az.mk ((by rw [hg]; exact (below_size (by repeat (first | (with_reducible first | exact HB.out | apply zq2 | apply zq1 | apply zqd) | exact HB.out))) : w.heap.size ≤ gb437)); clear HB; have HB := n0_; have BK437 := n1_; have GW437 := n2_; have GE437 := n3_; clear n0_ n1_ n2_ n3_; clear hb hbox hg) | ((with_reducible refine zqg (N := 3) rfl ?_); (try (refine gate_guard (by rfl) ?_; dsimp only)); refine zqb ?hg (N := 3) ?hd (cs := #[.int .i64 a1_0, .int .i64 a1_1, .slice A1_2 l1_2.length c1_2]) (t := 29) ?hr ?_; (case hd => rfl); (case hg => rfl); (case hr => first | (go_simp; done) | (go_simp; rfl)); intro gb438 hg w5 hbox hb; have n0_ := Az.mk (blk_below (g := gb437) (o := .cells #[.int .i64 a0_0, .int .i64 a0_1, .slice A0_2 l0_2.length c0_2] 29 (0, 0)) (by (with_reducible repeat (first | refine zq6 ?_ _ | refine zq8 ?_ | refine zq7 ?_ _)); exact BK437.out) hb); have n1_ := Az.mk (below_step (by repeat (first | (with_reducible first | exact HB.out | apply zq2 | apply zq1 | apply zqd | refine zq3 ?_ GE437.out) | exact HB.out)) hb); have n2_ := Az.mk (hbox); have n3_ := Az.mk ((by rw [hg]; exact (below_size (by repeat (first | (with_reducible first | exact HB.out | apply zq2 | apply zq1 | apply zqd | refine zq3 ?_ GE437.out) | exact HB.out))) : w.heap.size ≤ gb438)); have n4_ := Az.mk ((by rw [hg]; exact (below_size (by repeat (first | (with_reducible first | exact HB.out | apply zq2 | apply zq1 | apply zqd | refine zq3 ?_ GE437.out) | exact HB.out))) : w.heap.size ≤ gb438)); have n5_ := Az.mk ((by rw [hg]; exact Nat.ne_of_lt (blk_lt (g := gb437) (o := .cells #[.int .i64 a0_0, .int .i64 a0_1, .slice A0_2 l0_2.length c0_2] 29 (0, 0)) (by (with_reducible repeat (first | refine zq6 ?_ _ | refine zq8 ?_ | refine zq7 ?_ _)); exact BK437.out)) : gb437 ≠ gb438)); have n6_ := Az.mk ((by rw [hg]; exact Nat.ne_of_gt (blk_lt (g := gb437) (o := .cells #[.int .i64 a0_0, .int .i64 a0_1, .slice A0_2 l0_2.length c0_2] 29 (0, 0)) (by (with_reducible repeat (first | refine zq6 ?_ _ | refine zq8 ?_ | refine zq7 ?_ _)); exact BK437.out)) : gb438 ≠ gb437)); clear BK437; clear HB; have BK437 := n0_; have HB := n1_; have BK438 := n2_; have GW438 := n3_; have GE438 := n4_; have NB437_438 := n5_; have NB438_437 := n6_; clear n0_ n1_ n2_ n3_ n4_ n5_ n6_; clear hb hbox hg)))
 (try simp only [Act.put, List.setIfInBounds_toArray, List.set_cons_zero, List.set_cons_succ])
 go_cut [26] (fun v26 wc => ∃ (kq : Nat) (x26_2 : Bool), v26 = .bool x26_2 ∧ Az (spec_l2Same.j0 kq x26_2 a0_0 a0_1 l0_2 a1_0 a1_1 l1_2 = some r) ∧ Az (kq ≤ k) ∧ Az (wc.heap[gb437]? = some (.cells #[.int .i64 a0_0, .int .i64 a0_1, (.slice A0_2 l0_2.length c0_2)] 29 (0, 0))) ∧ Az (wc.heap[gb438]? = some (.cells #[.int .i64 a1_0, .int .i64 a1_1, (.slice A1_2 l1_2.length c1_2)] 29 (0, 0))) ∧ Az (Below w.heap.size w wc))
 case first =>
  have H := HC3.out
  clear HC3
  by_cases c6 : a0_0 = a1_0
  ·rw [if_pos c6] at H
   have c6b0 : (a0_0 == a1_0) = true := beq_iff_eq.mpr c6
   have c6b1 : (a0_0 != a1_0) = false := bne_eq_false_iff_eq.mpr c6
   clear c6
   (first | rw [c6b0] | (simp only [i64_w, i32_w]; rw [c6b0]) | skip)
   by_cases c7 : a0_1 = a1_1
   ·rw [if_pos c7] at H
    have c7b0 : (a0_1 == a1_1) = true := beq_iff_eq.mpr c7
    have c7b1 : (a0_1 != a1_1) = false := bne_eq_false_iff_eq.mpr c7
    clear c7
    have H' := Az.mk H
    clear H
    have hnb8 := NB437_438.out
    have hnc8 := NB438_437.out
    have hcz9_0 : w5.cell? ⟨gb437, 0, none⟩ = some (.int .i64 a0_0) := (zq4 BK437.out 0).trans rfl
    have hcz9_1 : w5.cell? ⟨gb437, 1, none⟩ = some (.int .i64 a0_1) := (zq4 BK437.out 1).trans rfl
    have hcz9_2 : w5.cell? ⟨gb437, 2, none⟩ = some (.slice A0_2 l0_2.length c0_2) := (zq4 BK437.out 2).trans rfl
    have hfz9_0 := zq5 BK437.out 0
    have hfz9_1 := zq5 BK437.out 1
    have hfz9_2 := zq5 BK437.out 2
    have hcz10_0 : w5.cell? ⟨gb438, 0, none⟩ = some (.int .i64 a1_0) := (zq4 BK438.out 0).trans rfl
    have hcz10_1 : w5.cell? ⟨gb438, 1, none⟩ = some (.int .i64 a1_1) := (zq4 BK438.out 1).trans rfl
    have hcz10_2 : w5.cell? ⟨gb438, 2, none⟩ = some (.slice A1_2 l1_2.length c1_2) := (zq4 BK438.out 2).trans rfl
    have hfz10_0 := zq5 BK438.out 0
    have hfz10_1 := zq5 BK438.out 1
    have hfz10_2 := zq5 BK438.out 2
    go_wp2
    repeat (go_quiet (fail); try go_wp2)
    go_meet
    case rel => exact ⟨_, (((l0_2.length : Int) != (l1_2.length : Int))), (by first | rfl | (simp; done) | (simp [*]; done)), H', ⟨by first | omega | exact Nat.le_refl _⟩, ⟨by (with_reducible repeat (first | refine zq6 ?_ _ | refine zq8 ?_ | refine zq7 ?_ _)); exact BK437.out⟩, ⟨by (with_reducible repeat (first | refine zq6 ?_ _ | refine zq8 ?_ | refine zq7 ?_ _)); exact BK438.out⟩, ⟨by repeat (first | (with_reducible first | exact HB.out | apply zq2 | apply zq1 | apply zqd | refine zq3 ?_ GE437.out | refine zq3 ?_ GE438.out) | exact HB.out)⟩⟩
   ·rw [if_neg c7] at H
    have c7b0 : (a0_1 == a1_1) = false := beq_eq_false_iff_ne.mpr c7
    have c7b1 : (a0_1 != a1_1) = true := bne_iff_ne.mpr c7
    have H' := Az.mk H
    clear H
    have hnb11 := NB437_438.out
    have hnc11 := NB438_437.out
    have hcz12_0 : w5.cell? ⟨gb437, 0, none⟩ = some (.int .i64 a0_0) := (zq4 BK437.out 0).trans rfl
    have hcz12_1 : w5.cell? ⟨gb437, 1, none⟩ = some (.int .i64 a0_1) := (zq4 BK437.out 1).trans rfl
    have hcz12_2 : w5.cell? ⟨gb437, 2, none⟩ = some (.slice A0_2 l0_2.length c0_2) := (zq4 BK437.out 2).trans rfl
    have hfz12_0 := zq5 BK437.out 0
    have hfz12_1 := zq5 BK437.out 1
    have hfz12_2 := zq5 BK437.out 2
    have hcz13_0 : w5.cell? ⟨gb438, 0, none⟩ = some (.int .i64 a1_0) := (zq4 BK438.out 0).trans rfl
    have hcz13_1 : w5.cell? ⟨gb438, 1, none⟩ = some (.int .i64 a1_1) := (zq4 BK438.out 1).trans rfl
    have hcz13_2 : w5.cell? ⟨gb438, 2, none⟩ = some (.slice A1_2 l1_2.length c1_2) := (zq4 BK438.out 2).trans rfl
    have hfz13_0 := zq5 BK438.out 0
    have hfz13_1 := zq5 BK438.out 1
    have hfz13_2 := zq5 BK438.out 2
    go_wp2
    repeat (go_quiet (fail); try go_wp2)
    go_meet
    case rel => exact ⟨_, (true), (by first | rfl | (simp; done) | (simp [*]; done)), H', ⟨by first | omega | exact Nat.le_refl _⟩, ⟨by (with_reducible repeat (first | refine zq6 ?_ _ | refine zq8 ?_ | refine zq7 ?_ _)); exact BK437.out⟩, ⟨by (with_reducible repeat (first | refine zq6 ?_ _ | refine zq8 ?_ | refine zq7 ?_ _)); exact BK438.out⟩, ⟨by repeat (first | (with_reducible first | exact HB.out | apply zq2 | apply zq1 | apply zqd | refine zq3 ?_ GE437.out | refine zq3 ?_ GE438.out) | exact HB.out)⟩⟩
  ·rw [if_neg c6] at H
   have c6b0 : (a0_0 == a1_0) = false := beq_eq_false_iff_ne.mpr c6
   have c6b1 : (a0_0 != a1_0) = true := bne_iff_ne.mpr c6
   (first | rw [c6b0] | (simp only [i64_w, i32_w]; rw [c6b0]) | skip)
   have H' := Az.mk H
   clear H
   have hnb14 := NB437_438.out
   have hnc14 := NB438_437.out
   have hcz15_0 : w5.cell? ⟨gb437, 0, none⟩ = some (.int .i64 a0_0) := (zq4 BK437.out 0).trans rfl
   have hcz15_1 : w5.cell? ⟨gb437, 1, none⟩ = some (.int .i64 a0_1) := (zq4 BK437.out 1).trans rfl
   have hcz15_2 : w5.cell? ⟨gb437, 2, none⟩ = some (.slice A0_2 l0_2.length c0_2) := (zq4 BK437.out 2).trans rfl
   have hfz15_0 := zq5 BK437.out 0
   have hfz15_1 := zq5 BK437.out 1
   have hfz15_2 := zq5 BK437.out 2
   have hcz16_0 : w5.cell? ⟨gb438, 0, none⟩ = some (.int .i64 a1_0) := (zq4 BK438.out 0).trans rfl
   have hcz16_1 : w5.cell? ⟨gb438, 1, none⟩ = some (.int .i64 a1_1) := (zq4 BK438.out 1).trans rfl
   have hcz16_2 : w5.cell? ⟨gb438, 2, none⟩ = some (.slice A1_2 l1_2.length c1_2) := (zq4 BK438.out 2).trans rfl
   have hfz16_0 := zq5 BK438.out 0
   have hfz16_1 := zq5 BK438.out 1
   have hfz16_2 := zq5 BK438.out 2
   go_wp2
   repeat (go_quiet (fail); try go_wp2)
   go_meet
   case rel => exact ⟨_, (true), (by first | rfl | (simp; done) | (simp [*]; done)), H', ⟨by first | omega | exact Nat.le_refl _⟩, ⟨by (with_reducible repeat (first | refine zq6 ?_ _ | refine zq8 ?_ | refine zq7 ?_ _)); exact BK437.out⟩, ⟨by (with_reducible repeat (first | refine zq6 ?_ _ | refine zq8 ?_ | refine zq7 ?_ _)); exact BK438.out⟩, ⟨by repeat (first | (with_reducible first | exact HB.out | apply zq2 | apply zq1 | apply zqd | refine zq3 ?_ GE437.out | refine zq3 ?_ GE438.out) | exact HB.out)⟩⟩
 case rest =>
  clear HC3
  try clear c1
  try clear p2
  try clear c6
  try clear c6b0
  try clear c6b1
  try clear c7
  try clear c7b0
  try clear c7b1
  try clear c8
  try clear c9
  try clear c11
  try clear c14
  try clear hcz10_0
  try clear hcz10_1
  try clear hcz10_2
  try clear hcz12_0
  try clear hcz12_1
  try clear hcz12_2
  try clear hcz13_0
  try clear hcz13_1
  try clear hcz13_2
  try clear hcz15_0
  try clear hcz15_1
  try clear hcz15_2
  try clear hcz16_0
  try clear hcz16_1
  try clear hcz16_2
  try clear hcz9_0
  try clear hcz9_1
  try clear hcz9_2
  try clear hfz10_0
  try clear hfz10_1
  try clear hfz10_2
  try clear hfz12_0
  try clear hfz12_1
  try clear hfz12_2
  try clear hfz13_0
  try clear hfz13_1
  try clear hfz13_2
  try clear hfz15_0
  try clear hfz15_1
  try clear hfz15_2
  try clear hfz16_0
  try clear hfz16_1
  try clear hfz16_2
  try clear hfz9_0
  try clear hfz9_1
  try clear hfz9_2
  obtain ⟨kq, x26_2, rfl, HA, HJ2, BK437, BK438, HB⟩ := hcut
  cases kq with
  | zero => exact absurd HA.out (by simp [spec_l2Same.j0])
  | succ kj2 =>
   have H := HA.out
   clear HA
   simp only [spec_l2Same.j0] at H
   by_cases c17 : x26_2 = true
   ·subst c17
    have H1 : (some false) = some r := by rw [if_pos rfl] at H; exact H
    clear H
    have H := H1
    clear H1
    obtain rfl := Option.some.inj H
    go_wp2
    repeat (go_quiet (fail); try go_wp2)
    go_ret
    exact ⟨by first | rfl | (simp [errW_none, errW_some] <;> rfl) | (simp [*, errW_none, errW_some] <;> rfl), by repeat (first | (with_reducible first | exact HB.out | apply zq2 | apply zq1 | apply zqd | refine zq3 ?_ GE437.out | refine zq3 ?_ GE438.out) | exact HB.out)⟩
   ·replace c17 := Bool.eq_false_iff.mpr c17
    subst c17
    have H1 : (spec_l2Same.l0 kj2 0 a0_0 a0_1 l0_2 a1_0 a1_1 l1_2) = some r := by rw [if_neg (show ¬ (false = true) by decide)] at H; exact H
    clear H
    have H := H1
    clear H1
    have H' := Az.mk H
    clear H
    go_wp2
    repeat (go_quiet (fail); try go_wp2)
    go_loopg [5] kj2 (fun kq v5 w' => ∃ (x5_2 : Int), v5 = .int .i64 x5_2 ∧ Az (spec_l2Same.l0 kq x5_2 a0_0 a0_1 l0_2 a1_0 a1_1 l1_2 = some r) ∧ Az (kq ≤ kj2) ∧ Az (w'.heap[gb437]? = some (.cells #[.int .i64 a0_0, .int .i64 a0_1, (.slice A0_2 l0_2.length c0_2)] 29 (0, 0))) ∧ Az (w'.heap[gb438]? = some (.cells #[.int .i64 a1_0, .int .i64 a1_1, (.slice A1_2 l1_2.length c1_2)] 29 (0, 0))) ∧ Az (Below w.heap.size w w'))
    case atStart => exact ⟨(0), (by first | rfl | (simp; done) | (simp [*]; done)), H', ⟨Nat.le_refl _⟩, ⟨by (with_reducible repeat (first | refine zq6 ?_ _ | refine zq8 ?_ | refine zq7 ?_ _)); exact BK437.out⟩, ⟨by (with_reducible repeat (first | refine zq6 ?_ _ | refine zq8 ?_ | refine zq7 ?_ _)); exact BK438.out⟩, ⟨by repeat (first | (with_reducible first | exact HB.out | apply zq2 | apply zq1 | apply zqd | refine zq3 ?_ GE437.out | refine zq3 ?_ GE438.out) | exact HB.out)⟩⟩
    case round =>
     clear H'
     try clear c1
     try clear p2
     try clear c6
     try clear c6b0
     try clear c6b1
     try clear c7
     try clear c7b0
     try clear c7b1
     try clear c8
     try clear c9
     try clear c11
     try clear c14
     try clear c17
     try clear hcz10_0
     try clear hcz10_1
     try clear hcz10_2
     try clear hcz12_0
     try clear hcz12_1
     try clear hcz12_2
     try clear hcz13_0
     try clear hcz13_1
     try clear hcz13_2
     try clear hcz15_0
     try clear hcz15_1
     try clear hcz15_2
     try clear hcz16_0
     try clear hcz16_1
     try clear hcz16_2
     try clear hcz9_0
     try clear hcz9_1
     try clear hcz9_2
     try clear hfz10_0
     try clear hfz10_1
     try clear hfz10_2
     try clear hfz12_0
     try clear hfz12_1
     try clear hfz12_2
     try clear hfz13_0
     try clear hfz13_1
     try clear hfz13_2
     try clear hfz15_0
     try clear hfz15_1
     try clear hfz15_2
     try clear hfz16_0
     try clear hfz16_1
     try clear hfz16_2
     try clear hfz9_0
     try clear hfz9_1
     try clear hfz9_2
     try clear p2
     obtain ⟨x5_2, rfl, HA, HK2, BK437, BK438, HB⟩ := hrel
     cases gk with
     | zero => exact absurd HA.out (by simp [spec_l2Same.l0])
     | succ k2 =>
      have H := HA.out
      clear HA
      simp only [spec_l2Same.l0] at H
      by_cases c18 : x5_2 < (l0_2.length : Int)
      ·rw [if_pos c18] at H
       have c18b0 : decide (x5_2 < (l0_2.length : Int)) = true := decide_eq_true c18
       clear c18
       by_cases c19 : 0 ≤ x5_2
       ·rw [if_pos c19] at H
        have c19b0 : decide (0 ≤ x5_2) = true := decide_eq_true c19
        clear c19
        by_cases c20 : x5_2 < (l1_2.length : Int)
        ·rw [if_pos c20] at H
         have c20b0 : decide (x5_2 < (l1_2.length : Int)) = true := decide_eq_true c20
         clear c20
         by_cases c21 : (!(((rd_T37 l0_2 x5_2).f0) == ((rd_T37 l1_2 x5_2).f0)) || (!(((rd_T37 l0_2 x5_2).f1) == ((rd_T37 l1_2 x5_2).f1)))) = true
         ·rw [if_pos c21] at H
          have c21b0 : (!(((rd_T37 l0_2 x5_2).f0) == ((rd_T37 l1_2 x5_2).f0)) || (!(((rd_T37 l0_2 x5_2).f1) == ((rd_T37 l1_2 x5_2).f1)))) = true := c21
          clear c21
          obtain rfl := Option.some.inj H
          have hnb22 := NB437_438.out
          have hnc22 := NB438_437.out
          have hcz23_0 : wr.cell? ⟨gb437, 0, none⟩ = some (.int .i64 a0_0) := (zq4 BK437.out 0).trans rfl
          have hcz23_1 : wr.cell? ⟨gb437, 1, none⟩ = some (.int .i64 a0_1) := (zq4 BK437.out 1).trans rfl
          have hcz23_2 : wr.cell? ⟨gb437, 2, none⟩ = some (.slice A0_2 l0_2.length c0_2) := (zq4 BK437.out 2).trans rfl
          have hfz23_0 := zq5 BK437.out 0
          have hfz23_1 := zq5 BK437.out 1
          have hfz23_2 := zq5 BK437.out 2
          have p439 : 0 ≤ (x5_2 : Int) := of_decide_eq_true (by first | (with_reducible assumption) | assumption)
          have q439 : x5_2 < (l0_2.length : Int) := of_decide_eq_true (by first | (with_reducible assumption) | assumption)
          obtain ⟨ad439, e439, hx439_0, hx439_1⟩ := at_T37 HR0_2.out x5_2 p439 q439
          cases e439
          replace hx439_0 := (HB.out.cell (World.block_lt_of_cell? w _ hx439_0)).trans hx439_0
          replace hx439_1 := (HB.out.cell (World.block_lt_of_cell? w _ hx439_1)).trans hx439_1
          replace p439 := eq_true p439
          replace q439 := eq_true q439
          have hcz24_0 : wr.cell? ⟨gb438, 0, none⟩ = some (.int .i64 a1_0) := (zq4 BK438.out 0).trans rfl
          have hcz24_1 : wr.cell? ⟨gb438, 1, none⟩ = some (.int .i64 a1_1) := (zq4 BK438.out 1).trans rfl
          have hcz24_2 : wr.cell? ⟨gb438, 2, none⟩ = some (.slice A1_2 l1_2.length c1_2) := (zq4 BK438.out 2).trans rfl
          have hfz24_0 := zq5 BK438.out 0
          have hfz24_1 := zq5 BK438.out 1
          have hfz24_2 := zq5 BK438.out 2
          have p440 : 0 ≤ (x5_2 : Int) := of_decide_eq_true (by first | (with_reducible assumption) | assumption)
          have q440 : x5_2 < (l1_2.length : Int) := of_decide_eq_true (by first | (with_reducible assumption) | assumption)
          obtain ⟨ad440, e440, hx440_0, hx440_1⟩ := at_T37 HR1_2.out x5_2 p440 q440
          cases e440
          replace hx440_0 := (HB.out.cell (World.block_lt_of_cell? w _ hx440_0)).trans hx440_0
          replace hx440_1 := (HB.out.cell (World.block_lt_of_cell? w _ hx440_1)).trans hx440_1
          replace p440 := eq_true p440
          replace q440 := eq_true q440
          go_wp2
          repeat (go_quiet (fail); try go_wp2)
          go_ret
          exact ⟨by first | rfl | (simp [errW_none, errW_some] <;> rfl) | (simp [*, errW_none, errW_some] <;> rfl), by repeat (first | (with_reducible first | exact HB.out | apply zq2 | apply zq1 | apply zqd | refine zq3 ?_ GE437.out | refine zq3 ?_ GE438.out) | exact HB.out)⟩
         ·rw [if_neg c21] at H
          have c21b0 : (!(((rd_T37 l0_2 x5_2).f0) == ((rd_T37 l1_2 x5_2).f0)) || (!(((rd_T37 l0_2 x5_2).f1) == ((rd_T37 l1_2 x5_2).f1)))) = false := by simpa using c21
          clear c21
          have H' := Az.mk H
          clear H
          have hnb25 := NB437_438.out
          have hnc25 := NB438_437.out
          have hcz26_0 : wr.cell? ⟨gb437, 0, none⟩ = some (.int .i64 a0_0) := (zq4 BK437.out 0).trans rfl
          have hcz26_1 : wr.cell? ⟨gb437, 1, none⟩ = some (.int .i64 a0_1) := (zq4 BK437.out 1).trans rfl
          have hcz26_2 : wr.cell? ⟨gb437, 2, none⟩ = some (.slice A0_2 l0_2.length c0_2) := (zq4 BK437.out 2).trans rfl
          have hfz26_0 := zq5 BK437.out 0
          have hfz26_1 := zq5 BK437.out 1
          have hfz26_2 := zq5 BK437.out 2
          have p439 : 0 ≤ (x5_2 : Int) := of_decide_eq_true (by first | (with_reducible assumption) | assumption)
          have q439 : x5_2 < (l0_2.length : Int) := of_decide_eq_true (by first | (with_reducible assumption) | assumption)
          obtain ⟨ad439, e439, hx439_0, hx439_1⟩ := at_T37 HR0_2.out x5_2 p439 q439
          cases e439
          replace hx439_0 := (HB.out.cell (World.block_lt_of_cell? w _ hx439_0)).trans hx439_0
          replace hx439_1 := (HB.out.cell (World.block_lt_of_cell? w _ hx439_1)).trans hx439_1
          replace p439 := eq_true p439
          replace q439 := eq_true q439
          have hcz27_0 : wr.cell? ⟨gb438, 0, none⟩ = some (.int .i64 a1_0) := (zq4 BK438.out 0).trans rfl
          have hcz27_1 : wr.cell? ⟨gb438, 1, none⟩ = some (.int .i64 a1_1) := (zq4 BK438.out 1).trans rfl
          have hcz27_2 : wr.cell? ⟨gb438, 2, none⟩ = some (.slice A1_2 l1_2.length c1_2) := (zq4 BK438.out 2).trans rfl
          have hfz27_0 := zq5 BK438.out 0
          have hfz27_1 := zq5 BK438.out 1
          have hfz27_2 := zq5 BK438.out 2
          have p440 : 0 ≤ (x5_2 : Int) := of_decide_eq_true (by first | (with_reducible assumption) | assumption)
          have q440 : x5_2 < (l1_2.length : Int) := of_decide_eq_true (by first | (with_reducible assumption) | assumption)
          obtain ⟨ad440, e440, hx440_0, hx440_1⟩ := at_T37 HR1_2.out x5_2 p440 q440
          cases e440
          replace hx440_0 := (HB.out.cell (World.block_lt_of_cell? w _ hx440_0)).trans hx440_0
          replace hx440_1 := (HB.out.cell (World.block_lt_of_cell? w _ hx440_1)).trans hx440_1
          replace p440 := eq_true p440
          replace q440 := eq_true q440
          go_wp2
          repeat (go_quiet (fail); try go_wp2)
          go_roundg k2
          case measure => have := HJ2.out; have := HK2.out; omega
          case rel => exact ⟨(wrap64 (x5_2 + 1)), (by first | rfl | (simp; done) | (simp [*]; done)), H', ⟨by have := HJ2.out; have := HK2.out; omega⟩, ⟨by (with_reducible repeat (first | refine zq6 ?_ _ | refine zq8 ?_ | refine zq7 ?_ _)); exact BK437.out⟩, ⟨by (with_reducible repeat (first | refine zq6 ?_ _ | refine zq8 ?_ | refine zq7 ?_ _)); exact BK438.out⟩, ⟨by repeat (first | (with_reducible first | exact HB.out | apply zq2 | apply zq1 | apply zqd | refine zq3 ?_ GE437.out | refine zq3 ?_ GE438.out) | exact HB.out)⟩⟩
        ·rw [if_neg c20] at H
         exact absurd H (by simp)
       ·rw [if_neg c19] at H
        exact absurd H (by simp)
      ·rw [if_neg c18] at H
       have c18b0 : decide (x5_2 < (l0_2.length : Int)) = false := decide_eq_false c18
       clear c18
       obtain rfl := Option.some.inj H
       have hnb28 := NB437_438.out
       have hnc28 := NB438_437.out
       have hcz29_0 : wr.cell? ⟨gb437, 0, none⟩ = some (.int .i64 a0_0) := (zq4 BK437.out 0).trans rfl
       have hcz29_1 : wr.cell? ⟨gb437, 1, none⟩ = some (.int .i64 a0_1) := (zq4 BK437.out 1).trans rfl
       have hcz29_2 : wr.cell? ⟨gb437, 2, none⟩ = some (.slice A0_2 l0_2.length c0_2) := (zq4 BK437.out 2).trans rfl
       have hfz29_0 := zq5 BK437.out 0
       have hfz29_1 := zq5 BK437.out 1
       have hfz29_2 := zq5 BK437.out 2
       go_wp2
       repeat (go_quiet (fail); try go_wp2)
       go_ret
       exact ⟨by first | rfl | (simp [errW_none, errW_some] <;> rfl) | (simp [*, errW_none, errW_some] <;> rfl), by repeat (first | (with_reducible first | exact HB.out | apply zq2 | apply zq1 | apply zqd | refine zq3 ?_ GE437.out | refine zq3 ?_ GE438.out) | exact HB.out)⟩
end Go.Proofs.Ytkoimmeghdbodaa.Print
namespace Go.Proofs.Ytkoimmeghdbodaa.Print
open Go.RowKit Go.Proofs.YtkoimmeghdbodaaW.PrintWords Go.Proofs.YtkoimmeghdbodaaW.PrintLast Go.Proofs.YtkoimmeghdbodaaW.PrintMore
attribute [local go_sem] max2_int min2_int max_two min_two max_three min_three max_four min_four   -- for this text's walks alone
set_option linter.unusedVariables false
set_option linter.unusedSimpArgs false
mutual
def spec_l2Vols.l0 : Nat → Int → Int → Int → List (S65) → Option (Bool)
 | 0, _, _, _, _ => none
 | k + 1, x0, x5, x442000, x442001 => if x5 < (x442001.length : Int) then (if 0 ≤ x5 then ((spec_l2Name.f k ((rd_T65 x442001 x5).f0)).bind fun t443 => (if t443 = true then (spec_l2Vols.j1 k x0 x5 ((((rd_T65 x442001 x5).f1).length : Int) != 3) x442000 x442001) else (spec_l2Vols.j1 k x0 x5 true x442000 x442001))) else (none)) else ((spec_l2All.f k x442000 x442001).bind fun t447 => (spec_l2Vols.l2 k x0 t447 0))
def spec_l2Vols.j1 : Nat → Int → Int → Bool → Int → List (S65) → Option (Bool)
 | 0, _, _, _, _, _ => none
 | k + 1, x0, x5, x34, x442000, x442001 => if x34 = true then (some false) else (spec_l2Vols.l1 k x0 x5 0 x442000 x442001)
def spec_l2Vols.l1 : Nat → Int → Int → Int → Int → List (S65) → Option (Bool)
 | 0, _, _, _, _, _ => none
 | k + 1, x0, x5, x6, x442000, x442001 => if x6 < x5 then (if 0 ≤ x6 then (if x6 < (x442001.length : Int) then (if 0 ≤ x5 then (if x5 < (x442001.length : Int) then (if ((rd_T65 x442001 x6).f0).toList = ((rd_T65 x442001 x5).f0).toList then (some false) else (spec_l2Vols.l1 k x0 x5 (wrap64 (x6 + 1)) x442000 x442001)) else (none)) else (none)) else (none)) else (none)) else (spec_l2Vols.l0 k x0 (wrap64 (x5 + 1)) x442000 x442001)
def spec_l2Vols.l2 : Nat → Int → List (S29) → Int → Option (Bool)
 | 0, _, _, _ => none
 | k + 1, x0, x7, x8 => if x8 < (x7.length : Int) then (if 0 ≤ x8 then ((spec_l2Ptr.f k x0 ((rd_T29 x7 x8).f0) ((rd_T29 x7 x8).f1) ((rd_T29 x7 x8).f2)).bind fun t451 => (if t451 = true then (spec_l2Vols.l3 k x0 x7 x8 0) else (some false))) else (none)) else (some true)
def spec_l2Vols.l3 : Nat → Int → List (S29) → Int → Int → Option (Bool)
 | 0, _, _, _, _ => none
 | k + 1, x0, x7, x8, x9 => if x9 < x8 then (if 0 ≤ x8 then (if x8 < (x7.length : Int) then (if 0 ≤ x9 then (if x9 < (x7.length : Int) then ((spec_l2Meet.f k ((rd_T29 x7 x8).f0) ((rd_T29 x7 x8).f1) ((rd_T29 x7 x8).f2) ((rd_T29 x7 x9).f0) ((rd_T29 x7 x9).f1) ((rd_T29 x7 x9).f2)).bind fun t454 => (if t454 = true then ((spec_l2Same.f k ((rd_T29 x7 x8).f0) ((rd_T29 x7 x8).f1) ((rd_T29 x7 x8).f2) ((rd_T29 x7 x9).f0) ((rd_T29 x7 x9).f1) ((rd_T29 x7 x9).f2)).bind fun t457 => (if t457 = true then (spec_l2Vols.l3 k x0 x7 x8 (wrap64 (x9 + 1))) else (some false))) else (spec_l2Vols.l3 k x0 x7 x8 (wrap64 (x9 + 1))))) else (none)) else (none)) else (none)) else (none)) else (spec_l2Vols.l2 k x0 x7 (wrap64 (x8 + 1)))
end
def spec_l2Vols.f (k : Nat) (a0 : Int) (a1_0 : Int) (l1_1 : List (S65)) : Option (Bool) := spec_l2Vols.l0 k a0 0 a1_0 l1_1
def spec_l2Vols.T9 : Bool × List (List Nat × List Nat) := (true, [([], []), ([0], [0]), ([], []), ([1, 2], [1, 2]), ([3], [3]), ([4], [4]), ([], []), ([6], [6]), ([], []), ([7, 8], [7, 8]), ([9], [9]), ([10], [10]), ([5, 11], [5, 11])])
def spec_l2Vols.B9 : List Nat := [0, 1, 0, 7, 15, 31, 0, 64, 0, 448, 960, 1984, 4095]
theorem spec_l2Vols.tab9 : rtab .any (opsOf Try.f76 9) = spec_l2Vols.T9 := by kernel_rfl
theorem spec_l2Vols.bits9 : waitsOk spec_l2Vols.T9.2 spec_l2Vols.B9 = true := by kernel_rfl
def spec_l2Vols.T20 : Bool × List (List Nat × List Nat) := (true, [([], []), ([], []), ([0, 1], [0, 1]), ([2], [2]), ([], []), ([], []), ([4, 5], [4, 5]), ([6], [6]), ([3, 7], [3, 7]), ([8, 8], [8]), ([9], [9]), ([9], [9]), ([10, 11, 9], [9, 10, 11]), ([12, 9], [9, 12]), ([9], [9]), ([9], [9]), ([14, 15, 9], [9, 14, 15]), ([16, 9], [9, 16]), ([13, 17, 9, 9], [9, 13, 17]), ([18, 9], [9, 18]), ([9, 19], [9, 19])])
def spec_l2Vols.B20 : List Nat := [0, 0, 3, 7, 0, 0, 48, 112, 255, 511, 1023, 1023, 4095, 8191, 1023, 1023, 50175, 115711, 262143, 524287, 1048575]
theorem spec_l2Vols.tab20 : rtab .any (opsOf Try.f76 20) = spec_l2Vols.T20 := by kernel_rfl
theorem spec_l2Vols.bits20 : waitsOk spec_l2Vols.T20.2 spec_l2Vols.B20 = true := by kernel_rfl
set_option maxHeartbeats 8000000 in
set_option maxRecDepth 100000 in
theorem spec_l2Vols.calls (k : Nat) (a0 : Int) (a1_0 : Int) (A1_1 : Option Addr) (c1_1 : Nat) (l1_1 : List (S65)) (r : Bool) (w : World) (hr1_1 : Kd.C k65 w A1_1 l1_1.length l1_1) (hc1_1 : l1_1.length ≤ c1_1) (h : spec_l2Vols.f k a0 a1_0 l1_1 = some r) :
  Calls Try.prog 76 #[.int .i64 a0, .agg #[.int .i64 a1_0, .slice A1_1 l1_1.length c1_1]] w fun e w' => e = .returned (.bool r) ∧ Below w.heap.size w w' := by
 have hu57 := Try.underlying57
 have hu29 := Try.underlying29
 have HR1_1 := Az.mk hr1_1
 have HC1_1 := Az.mk hc1_1
 clear hr1_1 hc1_1
 have HB := Az.mk (Below.refl w.heap.size w)
 have H : (spec_l2Vols.l0 k a0 0 a1_0 l1_1) = some r := h
 clear h
 have H' := Az.mk H
 clear H
 go_enter Try.func76, Try.ntmps76
 go_wp2_with (first | ((with_reducible refine zqg (N := 3) rfl ?_); (try (refine gate_guard (by rfl) ?_; dsimp only)); refine zqb ?hg (N := 3) ?hd (cs := #[.int .i64 a1_0, .slice A1_1 l1_1.length c1_1]) (t := 57) ?hr ?_; (case hd => rfl); (case hg => rfl); (case hr => first | (go_simp; done) | (go_simp; rfl)); intro gb441 hg w3 hbox hb; have n0_ := Az.mk (below_step (by repeat (first | (with_reducible first | exact HB.out | apply zq2 | apply zq1 | apply zqd) | exact HB.out)) hb); have n1_ := Az.mk (hbox); have n2_ := Az.mk ((by rw [hg]; exact (below_size (by repeat (first | (with_reducible first | exact HB.out | apply zq2 | apply zq1 | apply zqd) | exact HB.out))) : w.heap.size ≤ gb441)); have n3_ := Az.mk ((by rw [hg]; exact (below_size (by repeat (first | (with_reducible first | exact HB.out | apply zq2 | apply zq1 | apply zqd) | exact HB.out))) : w.heap.size ≤ gb441)); clear HB; have HB := n0_; have BK441 := n1_; have GW441 := n2_; have GE441 := n3_; clear n0_ n1_ n2_ n3_; clear hb hbox hg))
 go_loopg [5] k (fun kq v5 w' => ∃ (x5_1 : Int), v5 = .int .i64 x5_1 ∧ Az (spec_l2Vols.l0 kq a0 x5_1 a1_0 l1_1 = some r) ∧ Az (kq ≤ k) ∧ Az (w'.heap[gb441]? = some (.cells #[.int .i64 a1_0, (.slice A1_1 l1_1.length c1_1)] 57 (0, 0))) ∧ Az (Below w.heap.size w w'))
 case atStart => exact ⟨(0), (by first | rfl | (simp; done) | (simp [*]; done)), H', ⟨Nat.le_refl _⟩, ⟨by (with_reducible repeat (first | refine zq6 ?_ _ | refine zq8 ?_ | refine zq7 ?_ _)); exact BK441.out⟩, ⟨by repeat (first | (with_reducible first | exact HB.out | apply zq2 | apply zq1 | apply zqd | refine zq3 ?_ GE441.out) | exact HB.out)⟩⟩
 case round =>
  clear H'
  try clear c1
  try clear p2
  obtain ⟨x5_1, rfl, HA, HK1, BK441, HB⟩ := hrel
  cases gk with
  | zero => exact absurd HA.out (by simp [spec_l2Vols.l0])
  | succ k1 =>
   have H := HA.out
   clear HA
   simp only [spec_l2Vols.l0] at H
   by_cases c4 : x5_1 < (l1_1.length : Int)
   ·rw [if_pos c4] at H
    have c4b0 : decide (x5_1 < (l1_1.length : Int)) = true := decide_eq_true c4
    clear c4
    have HC5 := Az.mk H
    clear H
    have hcz6_0 : wr.cell? ⟨gb441, 0, none⟩ = some (.int .i64 a1_0) := (zq4 BK441.out 0).trans rfl
    have hcz6_1 : wr.cell? ⟨gb441, 1, none⟩ = some (.slice A1_1 l1_1.length c1_1) := (zq4 BK441.out 1).trans rfl
    have hfz6_0 := zq5 BK441.out 0
    have hfz6_1 := zq5 BK441.out 1
    go_upto_region 4 with (fail)
    go_cut [34] (fun v34 wc => ∃ (kq : Nat) (x34_4 : Bool), v34 = .bool x34_4 ∧ Az (spec_l2Vols.j1 kq a0 x5_1 x34_4 a1_0 l1_1 = some r) ∧ Az (kq ≤ k1) ∧ Az (wc.heap[gb441]? = some (.cells #[.int .i64 a1_0, (.slice A1_1 l1_1.length c1_1)] 57 (0, 0))) ∧ Az (Below w.heap.size w wc))
    case first =>
     have H := HC5.out
     clear HC5
     by_cases c7 : 0 ≤ x5_1
     ·rw [if_pos c7] at H
      have c7b0 : decide (0 ≤ x5_1) = true := decide_eq_true c7
      clear c7
      (first | rw [c7b0] | (simp only [i64_w, i32_w]; rw [c7b0]) | skip)
      replace H := Option.bind_eq_some_iff.mp H
      obtain ⟨t443, A80, H⟩ := H
      replace H : (if t443 = true then (spec_l2Vols.j1 k1 a0 x5_1 ((((rd_T65 l1_1 x5_1).f1).length : Int) != 3) a1_0 l1_1) else (spec_l2Vols.j1 k1 a0 x5_1 true a1_0 l1_1)) = some r := H
      have A8 := Az.mk A80
      clear A80
      by_cases c9 : t443 = true
      ·subst c9
       have H1 : (spec_l2Vols.j1 k1 a0 x5_1 ((((rd_T65 l1_1 x5_1).f1).length : Int) != 3) a1_0 l1_1) = some r := by rw [if_pos rfl] at H; exact H
       clear H
       have H := H1
       clear H1
       have H' := Az.mk H
       clear H
       have hcz10_0 : wr.cell? ⟨gb441, 0, none⟩ = some (.int .i64 a1_0) := (zq4 BK441.out 0).trans rfl
       have hcz10_1 : wr.cell? ⟨gb441, 1, none⟩ = some (.slice A1_1 l1_1.length c1_1) := (zq4 BK441.out 1).trans rfl
       have hfz10_0 := zq5 BK441.out 0
       have hfz10_1 := zq5 BK441.out 1
       have p442 : 0 ≤ (x5_1 : Int) := of_decide_eq_true (by first | (with_reducible assumption) | assumption)
       have q442 : x5_1 < (l1_1.length : Int) := of_decide_eq_true (by first | (with_reducible assumption) | assumption)
       obtain ⟨ad442, A442_1, c442_1, e442, hx442_0, hx442_1, hl442_1, hi442_1⟩ := at_T65 HR1_1.out x5_1 p442 q442
       cases e442
       replace hx442_0 := (HB.out.cell (World.block_lt_of_cell? w _ hx442_0)).trans hx442_0
       replace hx442_1 := (HB.out.cell (World.block_lt_of_cell? w _ hx442_1)).trans hx442_1
       have HR442_1 := Az.mk hi442_1
       have HC442_1 := Az.mk hl442_1
       clear hi442_1 hl442_1
       replace p442 := eq_true p442
       replace q442 := eq_true q442
       go_wp2_with (first | ((with_reducible refine gate_callee (f := 98) rfl ?_); refine zq9 (some 23) rfl rfl Try.func98 (by kernel_rfl) rfl #[.string ((rd_T65 l1_1 x5_1).f0)] rfl (by (try simp only [List.map_toArray, List.map_cons, List.map_nil]); first | done | rfl | (simp only [List.length_drop, List.length_take]; rfl)) ?_; (with_reducible refine (spec_l2Name.calls k1 ((rd_T65 l1_1 x5_1).f0) true _ A8.out).mono ?_); rintro e w' ⟨rfl, ⟨nd, rfl⟩⟩; refine ⟨_, rfl, ?_⟩; have p444 : 0 ≤ (x5_1 : Int) := of_decide_eq_true (by first | (with_reducible assumption) | assumption); have q444 : x5_1 < (l1_1.length : Int) := of_decide_eq_true (by first | (with_reducible assumption) | assumption); obtain ⟨ad444, A444_1, c444_1, e444, hx444_0, hx444_1, hl444_1, hi444_1⟩ := at_T65 HR1_1.out x5_1 p444 q444; obtain rfl : ad442 = ad444 := (by injection e444); replace hx444_0 := (HB.out.cell (World.block_lt_of_cell? w _ hx444_0)).trans hx444_0; replace hx444_1 := (HB.out.cell (World.block_lt_of_cell? w _ hx444_1)).trans hx444_1; have HR444_1 := Az.mk hi444_1; have HC444_1 := Az.mk hl444_1; clear hi444_1 hl444_1; replace p444 := eq_true p444; replace q444 := eq_true q444; have ea_ := Option.some.inj (hx442_1.symm.trans hx444_1); injection ea_ with ea_ en_ ec_; subst ea_; subst ec_; clear en_))
       go_meet
       case rel => exact ⟨_, (((((rd_T65 l1_1 x5_1).f1).length : Int) != 3)), (by first | rfl | (simp; done) | (simp [*]; done)), H', ⟨by have := HK1.out; first | omega | exact Nat.le_refl _⟩, ⟨by (with_reducible repeat (first | refine zq6 ?_ _ | refine zq8 ?_ | refine zq7 ?_ _)); exact BK441.out⟩, ⟨by repeat (first | (with_reducible first | exact HB.out | apply zq2 | apply zq1 | apply zqd | refine zq3 ?_ GE441.out) | exact HB.out)⟩⟩
      ·replace c9 := Bool.eq_false_iff.mpr c9
       subst c9
       have H1 : (spec_l2Vols.j1 k1 a0 x5_1 true a1_0 l1_1) = some r := by rw [if_neg (show ¬ (false = true) by decide)] at H; exact H
       clear H
       have H := H1
       clear H1
       have H' := Az.mk H
       clear H
       have hcz11_0 : wr.cell? ⟨gb441, 0, none⟩ = some (.int .i64 a1_0) := (zq4 BK441.out 0).trans rfl
       have hcz11_1 : wr.cell? ⟨gb441, 1, none⟩ = some (.slice A1_1 l1_1.length c1_1) := (zq4 BK441.out 1).trans rfl
       have hfz11_0 := zq5 BK441.out 0
       have hfz11_1 := zq5 BK441.out 1
       have p442 : 0 ≤ (x5_1 : Int) := of_decide_eq_true (by first | (with_reducible assumption) | assumption)
       have q442 : x5_1 < (l1_1.length : Int) := of_decide_eq_true (by first | (with_reducible assumption) | assumption)
       obtain ⟨ad442, A442_1, c442_1, e442, hx442_0, hx442_1, hl442_1, hi442_1⟩ := at_T65 HR1_1.out x5_1 p442 q442
       cases e442
       replace hx442_0 := (HB.out.cell (World.block_lt_of_cell? w _ hx442_0)).trans hx442_0
       replace hx442_1 := (HB.out.cell (World.block_lt_of_cell? w _ hx442_1)).trans hx442_1
       have HR442_1 := Az.mk hi442_1
       have HC442_1 := Az.mk hl442_1
       clear hi442_1 hl442_1
       replace p442 := eq_true p442
       replace q442 := eq_true q442
       go_wp2_with (first | ((with_reducible refine gate_callee (f := 98) rfl ?_); refine zq9 (some 23) rfl rfl Try.func98 (by kernel_rfl) rfl #[.string ((rd_T65 l1_1 x5_1).f0)] rfl (by (try simp only [List.map_toArray, List.map_cons, List.map_nil]); first | done | rfl | (simp only [List.length_drop, List.length_take]; rfl)) ?_; (with_reducible refine (spec_l2Name.calls k1 ((rd_T65 l1_1 x5_1).f0) false _ A8.out).mono ?_); rintro e w' ⟨rfl, ⟨nd, rfl⟩⟩; refine ⟨_, rfl, ?_⟩))
       go_meet
       case rel => exact ⟨_, (true), (by first | rfl | (simp; done) | (simp [*]; done)), H', ⟨by have := HK1.out; first | omega | exact Nat.le_refl _⟩, ⟨by (with_reducible repeat (first | refine zq6 ?_ _ | refine zq8 ?_ | refine zq7 ?_ _)); exact BK441.out⟩, ⟨by repeat (first | (with_reducible first | exact HB.out | apply zq2 | apply zq1 | apply zqd | refine zq3 ?_ GE441.out) | exact HB.out)⟩⟩
     ·rw [if_neg c7] at H
      exact absurd H (by simp)
    case rest =>
     clear HC5
     try clear c1
     try clear p2
     try clear c4
     try clear c4b0
     try clear p4
     try clear q4
     try clear hx4
     try clear c7
     try clear c7b0
     try clear c9
     try clear hcz10_0
     try clear hcz10_1
     try clear hcz11_0
     try clear hcz11_1
     try clear hcz6_0
     try clear hcz6_1
     try clear hfz10_0
     try clear hfz10_1
     try clear hfz11_0
     try clear hfz11_1
     try clear hfz6_0
     try clear hfz6_1
     try clear hx442_0
     try clear hx442_1
     try clear hx444_0
     try clear hx444_1
     try clear p2
     try clear p442
     try clear p444
     try clear q442
     try clear q444
     obtain ⟨kq, x34_4, rfl, HA, HJ4, BK441, HB⟩ := hcut
     cases kq with
     | zero => exact absurd HA.out (by simp [spec_l2Vols.j1])
     | succ kj4 =>
      have H := HA.out
      clear HA
      simp only [spec_l2Vols.j1] at H
      by_cases c12 : x34_4 = true
      ·subst c12
       have H1 : (some false) = some r := by rw [if_pos rfl] at H; exact H
       clear H
       have H := H1
       clear H1
       obtain rfl := Option.some.inj H
       go_wp2
       go_ret
       exact ⟨by first | rfl | (simp [errW_none, errW_some] <;> rfl) | (simp [*, errW_none, errW_some] <;> rfl), by repeat (first | (with_reducible first | exact HB.out | apply zq2 | apply zq1 | apply zqd | refine zq3 ?_ GE441.out) | exact HB.out)⟩
      ·replace c12 := Bool.eq_false_iff.mpr c12
       subst c12
       have H1 : (spec_l2Vols.l1 kj4 a0 x5_1 0 a1_0 l1_1) = some r := by rw [if_neg (show ¬ (false = true) by decide)] at H; exact H
       clear H
       have H := H1
       clear H1
       have H' := Az.mk H
       clear H
       go_wp2
       go_loopg [6] kj4 (fun kq v6 w' => ∃ (x6_3 : Int), v6 = .int .i64 x6_3 ∧ Az (spec_l2Vols.l1 kq a0 x5_1 x6_3 a1_0 l1_1 = some r) ∧ Az (kq ≤ kj4) ∧ Az (w'.heap[gb441]? = some (.cells #[.int .i64 a1_0, (.slice A1_1 l1_1.length c1_1)] 57 (0, 0))) ∧ Az (Below w.heap.size w w'))
       case atStart => exact ⟨(0), (by first | rfl | (simp; done) | (simp [*]; done)), H', ⟨Nat.le_refl _⟩, ⟨by (with_reducible repeat (first | refine zq6 ?_ _ | refine zq8 ?_ | refine zq7 ?_ _)); exact BK441.out⟩, ⟨by repeat (first | (with_reducible first | exact HB.out | apply zq2 | apply zq1 | apply zqd | refine zq3 ?_ GE441.out) | exact HB.out)⟩⟩
       case round =>
        clear H'
        try clear c1
        try clear p2
        try clear c4
        try clear c4b0
        try clear p4
        try clear q4
        try clear hx4
        try clear c7
        try clear c7b0
        try clear c9
        try clear c12
        try clear hcz10_0
        try clear hcz10_1
        try clear hcz11_0
        try clear hcz11_1
        try clear hcz6_0
        try clear hcz6_1
        try clear hfz10_0
        try clear hfz10_1
        try clear hfz11_0
        try clear hfz11_1
        try clear hfz6_0
        try clear hfz6_1
        try clear hx442_0
        try clear hx442_1
        try clear hx444_0
        try clear hx444_1
        try clear p2
        try clear p4
        try clear p442
        try clear p444
        try clear q4
        try clear q442
        try clear q444
        obtain ⟨x6_3, rfl, HA, HK3, BK441, HB⟩ := hrel
        cases gk with
        | zero => exact absurd HA.out (by simp [spec_l2Vols.l1])
        | succ k3 =>
         have H := HA.out
         clear HA
         simp only [spec_l2Vols.l1] at H
         by_cases c13 : x6_3 < x5_1
         ·rw [if_pos c13] at H
          have c13b0 : decide (x6_3 < x5_1) = true := decide_eq_true c13
          clear c13
          by_cases c14 : 0 ≤ x6_3
          ·rw [if_pos c14] at H
           have c14b0 : decide (0 ≤ x6_3) = true := decide_eq_true c14
           clear c14
           by_cases c15 : x6_3 < (l1_1.length : Int)
           ·rw [if_pos c15] at H
            have c15b0 : decide (x6_3 < (l1_1.length : Int)) = true := decide_eq_true c15
            clear c15
            by_cases c16 : 0 ≤ x5_1
            ·rw [if_pos c16] at H
             have c16b0 : decide (0 ≤ x5_1) = true := decide_eq_true c16
             clear c16
             by_cases c17 : x5_1 < (l1_1.length : Int)
             ·rw [if_pos c17] at H
              have c17b0 : decide (x5_1 < (l1_1.length : Int)) = true := decide_eq_true c17
              clear c17
              by_cases c18 : ((rd_T65 l1_1 x6_3).f0).toList = ((rd_T65 l1_1 x5_1).f0).toList
              ·rw [if_pos c18] at H
               have c18b0 : (((rd_T65 l1_1 x6_3).f0).toList == ((rd_T65 l1_1 x5_1).f0).toList) = true := beq_iff_eq.mpr c18
               have c18b1 : (((rd_T65 l1_1 x6_3).f0).toList != ((rd_T65 l1_1 x5_1).f0).toList) = false := bne_eq_false_iff_eq.mpr c18
               clear c18
               obtain rfl := Option.some.inj H
               try go_wp2
               have n0_ := Az.mk (zq8 BK441.out)
               have n1_ := Az.mk (zqd HB.out)
               clear BK441
               clear HB
               have BK441 := n0_
               have HB := n1_
               clear n0_ n1_
               have p445 : 0 ≤ (x6_3 : Int) := of_decide_eq_true (by first | (with_reducible assumption) | assumption)
               have q445 : x6_3 < (l1_1.length : Int) := of_decide_eq_true (by first | (with_reducible assumption) | assumption)
               obtain ⟨ad445, A445_1, c445_1, e445, hx445_0, hx445_1, hl445_1, hi445_1⟩ := at_T65 HR1_1.out x6_3 p445 q445
               have hw445_1 := hx445_1
               have hw445_0 := hx445_0
               cases e445
               replace hx445_0 := (HB.out.cell (World.block_lt_of_cell? w _ hx445_0)).trans hx445_0
               replace hx445_1 := (HB.out.cell (World.block_lt_of_cell? w _ hx445_1)).trans hx445_1
               have HR445_1 := Az.mk hi445_1
               have HC445_1 := Az.mk hl445_1
               clear hi445_1 hl445_1
               replace p445 := eq_true p445
               replace q445 := eq_true q445
               have p446 : 0 ≤ (x5_1 : Int) := of_decide_eq_true (by first | (with_reducible assumption) | assumption)
               have q446 : x5_1 < (l1_1.length : Int) := of_decide_eq_true (by first | (with_reducible assumption) | assumption)
               obtain ⟨ad446, A446_1, c446_1, e446, hx446_0, hx446_1, hl446_1, hi446_1⟩ := at_T65 HR1_1.out x5_1 p446 q446
               have hw446_1 := hx446_1
               have hw446_0 := hx446_0
               obtain rfl : ad445 = ad446 := (by injection e446)
               replace hx446_0 := (HB.out.cell (World.block_lt_of_cell? w _ hx446_0)).trans hx446_0
               replace hx446_1 := (HB.out.cell (World.block_lt_of_cell? w _ hx446_1)).trans hx446_1
               have HR446_1 := Az.mk hi446_1
               have HC446_1 := Az.mk hl446_1
               clear hi446_1 hl446_1
               replace p446 := eq_true p446
               replace q446 := eq_true q446
               refine start_ (n := 13) (S := fun w' => w'.cell? ⟨gb441, 0, none⟩ = some (.int .i64 a1_0) ∧ w'.cell? ⟨gb441, 1, none⟩ = some (.slice (some ad445) l1_1.length c1_1) ∧ w'.cell? (ad445.add ((x6_3).toNat * 2)) = some (.string ((rd_T65 l1_1 x6_3).f0)) ∧ w'.cell? ⟨(ad445.add ((x6_3).toNat * 2)).block, (ad445.add ((x6_3).toNat * 2)).off + 1, none⟩ = some (.slice A445_1 ((rd_T65 l1_1 x6_3).f1).length c445_1) ∧ w'.cell? (ad445.add ((x5_1).toNat * 2)) = some (.string ((rd_T65 l1_1 x5_1).f0)) ∧ w'.cell? ⟨(ad445.add ((x5_1).toNat * 2)).block, (ad445.add ((x5_1).toNat * 2)).off + 1, none⟩ = some (.slice A446_1 ((rd_T65 l1_1 x5_1).f1).length c446_1)) (ds := []) #[false, false, false, false, false, false, false, false, false, false, false, false, false] (by kernel_rfl) rfl rfl ⟨(zq4 BK441.out 0).trans rfl, (zq4 BK441.out 1).trans rfl, ((HB.out.cell (World.block_lt_of_cell? w _ hw445_0)).trans hw445_0), ((HB.out.cell (World.block_lt_of_cell? w _ hw445_1)).trans hw445_1), ((HB.out.cell (World.block_lt_of_cell? w _ hw446_0)).trans hw446_0), ((HB.out.cell (World.block_lt_of_cell? w _ hw446_1)).trans hw446_1)⟩ (fun hHeld => ?_); refine with_tabW spec_l2Vols.tab9 spec_l2Vols.bits9 (fun HT_ HW_ => ?_)
               generalize wr.drew = w19 at BK441 HB HR445_1 HR446_1 hx445_0 hx445_1 hx446_0 hx446_1 hHeld ⊢
               refine zqp (i := 0) (N := some 40) (v := ?_) (a' := ?_) #[true, false, false, false, false, false, false, false, false, false, false, false, false] rfl rfl (any_of HT_.out (by kernel_rfl)) (fun _ _ _ h => h) (Or.inl ⟨by rfl, ?_⟩) ?_ ?_
               rotate_left
               ·intro w'
                go_simp
                with_reducible rfl
               rotate_left
               ·simp only [Act.put, List.setIfInBounds_toArray, List.set_cons_zero, List.set_cons_succ, i64_w, i32_w]
                rfl
               refine zqp (i := 2) (N := some 42) (v := ?_) (a' := ?_) #[true, false, true, false, false, false, false, false, false, false, false, false, false] rfl rfl (any_of HT_.out (by kernel_rfl)) (fun _ _ _ h => h) (Or.inl ⟨by rfl, ?_⟩) ?_ ?_
               rotate_left
               ·intro w'
                go_simp
                with_reducible rfl
               rotate_left
               ·simp only [Act.put, List.setIfInBounds_toArray, List.set_cons_zero, List.set_cons_succ, i64_w, i32_w]
                rfl
               refine zqp (i := 6) (N := some 46) (v := ?_) (a' := ?_) #[true, false, true, false, false, false, true, false, false, false, false, false, false] rfl rfl (any_of HT_.out (by kernel_rfl)) (fun _ _ _ h => h) (Or.inl ⟨by rfl, ?_⟩) ?_ ?_
               rotate_left
               ·intro w'
                go_simp
                with_reducible rfl
               rotate_left
               ·simp only [Act.put, List.setIfInBounds_toArray, List.set_cons_zero, List.set_cons_succ, i64_w, i32_w]
                rfl
               refine zqp (i := 8) (N := some 48) (v := ?_) (a' := ?_) #[true, false, true, false, false, false, true, false, true, false, false, false, false] rfl rfl (any_of HT_.out (by kernel_rfl)) (fun _ _ _ h => h) (Or.inl ⟨by rfl, ?_⟩) ?_ ?_
               rotate_left
               ·intro w'
                go_simp
                with_reducible rfl
               rotate_left
               ·simp only [Act.put, List.setIfInBounds_toArray, List.set_cons_zero, List.set_cons_succ, i64_w, i32_w]
                rfl
               refine zqt (i := 1) (N := some 41) (v := ?_) (a' := ?_) #[true, true, true, false, false, false, true, false, true, false, false, false, false] rfl rfl (take_ofW HT_.out HW_.out (by kernel_rfl)) (fun _ _ _ h => h) (Or.inl ⟨by rfl, ?_⟩) hHeld ?_ ?_
               rotate_left
               ·rintro w' ⟨s0, s1, s2, s3, s4, s5⟩
                go_simp
                with_reducible rfl
               rotate_left
               ·simp only [Act.put, List.setIfInBounds_toArray, List.set_cons_zero, List.set_cons_succ, i64_w, i32_w]
                rfl
               refine zqp (i := 3) (N := some 43) (v := ?_) (a' := ?_) #[true, true, true, true, false, false, true, false, true, false, false, false, false] rfl rfl (any_of HT_.out (by kernel_rfl)) (fun _ _ _ h => h) (Or.inl ⟨by rfl, ?_⟩) ?_ ?_
               rotate_left
               ·intro w'
                go_simp
                with_reducible rfl
               rotate_left
               ·simp only [Act.put, List.setIfInBounds_toArray, List.set_cons_zero, List.set_cons_succ, i64_w, i32_w]
                rfl
               refine zqp (i := 4) (N := some 44) (v := ?_) (a' := ?_) #[true, true, true, true, true, false, true, false, true, false, false, false, false] rfl rfl (any_of HT_.out (by kernel_rfl)) (fun _ _ _ h => h) (Or.inl ⟨by rfl, ?_⟩) ?_ ?_
               rotate_left
               ·intro w'
                go_simp
                with_reducible rfl
               rotate_left
               ·simp only [Act.put, List.setIfInBounds_toArray, List.set_cons_zero, List.set_cons_succ, i64_w, i32_w]
                rfl
               refine zqt (i := 5) (N := some 45) (v := ?_) (a' := ?_) #[true, true, true, true, true, true, true, false, true, false, false, false, false] rfl rfl (take_ofW HT_.out HW_.out (by kernel_rfl)) (fun _ _ _ h => h) (Or.inl ⟨by rfl, ?_⟩) hHeld ?_ ?_
               rotate_left
               ·rintro w' ⟨s0, s1, s2, s3, s4, s5⟩
                go_simp
                with_reducible rfl
               rotate_left
               ·simp only [Act.put, List.setIfInBounds_toArray, List.set_cons_zero, List.set_cons_succ, i64_w, i32_w]
                rfl
               refine zqt (i := 7) (N := some 47) (v := ?_) (a' := ?_) #[true, true, true, true, true, true, true, true, true, false, false, false, false] rfl rfl (take_ofW HT_.out HW_.out (by kernel_rfl)) (fun _ _ _ h => h) (Or.inl ⟨by rfl, ?_⟩) hHeld ?_ ?_
               rotate_left
               ·rintro w' ⟨s0, s1, s2, s3, s4, s5⟩
                go_simp
                with_reducible rfl
               rotate_left
               ·simp only [Act.put, List.setIfInBounds_toArray, List.set_cons_zero, List.set_cons_succ, i64_w, i32_w]
                rfl
               refine zqp (i := 9) (N := some 49) (v := ?_) (a' := ?_) #[true, true, true, true, true, true, true, true, true, true, false, false, false] rfl rfl (any_of HT_.out (by kernel_rfl)) (fun _ _ _ h => h) (Or.inl ⟨by rfl, ?_⟩) ?_ ?_
               rotate_left
               ·intro w'
                go_simp
                with_reducible rfl
               rotate_left
               ·simp only [Act.put, List.setIfInBounds_toArray, List.set_cons_zero, List.set_cons_succ, i64_w, i32_w]
                rfl
               refine zqp (i := 10) (N := some 50) (v := ?_) (a' := ?_) #[true, true, true, true, true, true, true, true, true, true, true, false, false] rfl rfl (any_of HT_.out (by kernel_rfl)) (fun _ _ _ h => h) (Or.inl ⟨by rfl, ?_⟩) ?_ ?_
               rotate_left
               ·intro w'
                go_simp
                with_reducible rfl
               rotate_left
               ·simp only [Act.put, List.setIfInBounds_toArray, List.set_cons_zero, List.set_cons_succ, i64_w, i32_w]
                rfl
               refine zqt (i := 11) (N := some 51) (v := ?_) (a' := ?_) #[true, true, true, true, true, true, true, true, true, true, true, true, false] rfl rfl (take_ofW HT_.out HW_.out (by kernel_rfl)) (fun _ _ _ h => h) (Or.inl ⟨by rfl, ?_⟩) hHeld ?_ ?_
               rotate_left
               ·rintro w' ⟨s0, s1, s2, s3, s4, s5⟩
                go_simp
                with_reducible rfl
               rotate_left
               ·simp only [Act.put, List.setIfInBounds_toArray, List.set_cons_zero, List.set_cons_succ, i64_w, i32_w]
                rfl
               refine zqp (i := 12) (N := some 52) (v := ?_) (a' := ?_) #[true, true, true, true, true, true, true, true, true, true, true, true, true] rfl rfl (any_of HT_.out (by kernel_rfl)) (fun _ _ _ h => h) (Or.inl ⟨by rfl, ?_⟩) ?_ ?_
               rotate_left
               ·intro w'
                go_simp
                with_reducible rfl
               rotate_left
               ·simp only [Act.put, List.setIfInBounds_toArray, List.set_cons_zero, List.set_cons_succ, i64_w, i32_w]
                rfl
               refine done_ (done_of HT_.out (by kernel_rfl)) ?_
               try go_wp2
               go_ret
               exact ⟨by first | rfl | (simp [errW_none, errW_some] <;> rfl) | (simp [*, errW_none, errW_some] <;> rfl), by repeat (first | (with_reducible first | exact HB.out | apply zq2 | apply zq1 | apply zqd | refine zq3 ?_ GE441.out) | exact HB.out)⟩
              ·rw [if_neg c18] at H
               have c18b0 : (((rd_T65 l1_1 x6_3).f0).toList == ((rd_T65 l1_1 x5_1).f0).toList) = false := beq_eq_false_iff_ne.mpr c18
               have c18b1 : (((rd_T65 l1_1 x6_3).f0).toList != ((rd_T65 l1_1 x5_1).f0).toList) = true := bne_iff_ne.mpr c18
               have H' := Az.mk H
               clear H
               try go_wp2
               have n0_ := Az.mk (zq8 BK441.out)
               have n1_ := Az.mk (zqd HB.out)
               clear BK441
               clear HB
               have BK441 := n0_
               have HB := n1_
               clear n0_ n1_
               have p445 : 0 ≤ (x6_3 : Int) := of_decide_eq_true (by first | (with_reducible assumption) | assumption)
               have q445 : x6_3 < (l1_1.length : Int) := of_decide_eq_true (by first | (with_reducible assumption) | assumption)
               obtain ⟨ad445, A445_1, c445_1, e445, hx445_0, hx445_1, hl445_1, hi445_1⟩ := at_T65 HR1_1.out x6_3 p445 q445
               have hw445_1 := hx445_1
               have hw445_0 := hx445_0
               cases e445
               replace hx445_0 := (HB.out.cell (World.block_lt_of_cell? w _ hx445_0)).trans hx445_0
               replace hx445_1 := (HB.out.cell (World.block_lt_of_cell? w _ hx445_1)).trans hx445_1
               have HR445_1 := Az.mk hi445_1
               have HC445_1 := Az.mk hl445_1
               clear hi445_1 hl445_1
               replace p445 := eq_true p445
               replace q445 := eq_true q445
               have p446 : 0 ≤ (x5_1 : Int) := of_decide_eq_true (by first | (with_reducible assumption) | assumption)
               have q446 : x5_1 < (l1_1.length : Int) := of_decide_eq_true (by first | (with_reducible assumption) | assumption)
               obtain ⟨ad446, A446_1, c446_1, e446, hx446_0, hx446_1, hl446_1, hi446_1⟩ := at_T65 HR1_1.out x5_1 p446 q446
               have hw446_1 := hx446_1
               have hw446_0 := hx446_0
               obtain rfl : ad445 = ad446 := (by injection e446)
               replace hx446_0 := (HB.out.cell (World.block_lt_of_cell? w _ hx446_0)).trans hx446_0
               replace hx446_1 := (HB.out.cell (World.block_lt_of_cell? w _ hx446_1)).trans hx446_1
               have HR446_1 := Az.mk hi446_1
               have HC446_1 := Az.mk hl446_1
               clear hi446_1 hl446_1
               replace p446 := eq_true p446
               replace q446 := eq_true q446
               refine start_ (n := 13) (S := fun w' => w'.cell? ⟨gb441, 0, none⟩ = some (.int .i64 a1_0) ∧ w'.cell? ⟨gb441, 1, none⟩ = some (.slice (some ad445) l1_1.length c1_1) ∧ w'.cell? (ad445.add ((x6_3).toNat * 2)) = some (.string ((rd_T65 l1_1 x6_3).f0)) ∧ w'.cell? ⟨(ad445.add ((x6_3).toNat * 2)).block, (ad445.add ((x6_3).toNat * 2)).off + 1, none⟩ = some (.slice A445_1 ((rd_T65 l1_1 x6_3).f1).length c445_1) ∧ w'.cell? (ad445.add ((x5_1).toNat * 2)) = some (.string ((rd_T65 l1_1 x5_1).f0)) ∧ w'.cell? ⟨(ad445.add ((x5_1).toNat * 2)).block, (ad445.add ((x5_1).toNat * 2)).off + 1, none⟩ = some (.slice A446_1 ((rd_T65 l1_1 x5_1).f1).length c446_1)) (ds := []) #[false, false, false, false, false, false, false, false, false, false, false, false, false] (by kernel_rfl) rfl rfl ⟨(zq4 BK441.out 0).trans rfl, (zq4 BK441.out 1).trans rfl, ((HB.out.cell (World.block_lt_of_cell? w _ hw445_0)).trans hw445_0), ((HB.out.cell (World.block_lt_of_cell? w _ hw445_1)).trans hw445_1), ((HB.out.cell (World.block_lt_of_cell? w _ hw446_0)).trans hw446_0), ((HB.out.cell (World.block_lt_of_cell? w _ hw446_1)).trans hw446_1)⟩ (fun hHeld => ?_); refine with_tabW spec_l2Vols.tab9 spec_l2Vols.bits9 (fun HT_ HW_ => ?_)
               generalize wr.drew = w20 at BK441 HB HR445_1 HR446_1 hx445_0 hx445_1 hx446_0 hx446_1 hHeld ⊢
               refine zqp (i := 0) (N := some 40) (v := ?_) (a' := ?_) #[true, false, false, false, false, false, false, false, false, false, false, false, false] rfl rfl (any_of HT_.out (by kernel_rfl)) (fun _ _ _ h => h) (Or.inl ⟨by rfl, ?_⟩) ?_ ?_
               rotate_left
               ·intro w'
                go_simp
                with_reducible rfl
               rotate_left
               ·simp only [Act.put, List.setIfInBounds_toArray, List.set_cons_zero, List.set_cons_succ, i64_w, i32_w]
                rfl
               refine zqp (i := 2) (N := some 42) (v := ?_) (a' := ?_) #[true, false, true, false, false, false, false, false, false, false, false, false, false] rfl rfl (any_of HT_.out (by kernel_rfl)) (fun _ _ _ h => h) (Or.inl ⟨by rfl, ?_⟩) ?_ ?_
               rotate_left
               ·intro w'
                go_simp
                with_reducible rfl
               rotate_left
               ·simp only [Act.put, List.setIfInBounds_toArray, List.set_cons_zero, List.set_cons_succ, i64_w, i32_w]
                rfl
               refine zqp (i := 6) (N := some 46) (v := ?_) (a' := ?_) #[true, false, true, false, false, false, true, false, false, false, false, false, false] rfl rfl (any_of HT_.out (by kernel_rfl)) (fun _ _ _ h => h) (Or.inl ⟨by rfl, ?_⟩) ?_ ?_
               rotate_left
               ·intro w'
                go_simp
                with_reducible rfl
               rotate_left
               ·simp only [Act.put, List.setIfInBounds_toArray, List.set_cons_zero, List.set_cons_succ, i64_w, i32_w]
                rfl
               refine zqp (i := 8) (N := some 48) (v := ?_) (a' := ?_) #[true, false, true, false, false, false, true, false, true, false, false, false, false] rfl rfl (any_of HT_.out (by kernel_rfl)) (fun _ _ _ h => h) (Or.inl ⟨by rfl, ?_⟩) ?_ ?_
               rotate_left
               ·intro w'
                go_simp
                with_reducible rfl
               rotate_left
               ·simp only [Act.put, List.setIfInBounds_toArray, List.set_cons_zero, List.set_cons_succ, i64_w, i32_w]
                rfl
               refine zqt (i := 1) (N := some 41) (v := ?_) (a' := ?_) #[true, true, true, false, false, false, true, false, true, false, false, false, false] rfl rfl (take_ofW HT_.out HW_.out (by kernel_rfl)) (fun _ _ _ h => h) (Or.inl ⟨by rfl, ?_⟩) hHeld ?_ ?_
               rotate_left
               ·rintro w' ⟨s0, s1, s2, s3, s4, s5⟩
                go_simp
                with_reducible rfl
               rotate_left
               ·simp only [Act.put, List.setIfInBounds_toArray, List.set_cons_zero, List.set_cons_succ, i64_w, i32_w]
                rfl
               refine zqp (i := 3) (N := some 43) (v := ?_) (a' := ?_) #[true, true, true, true, false, false, true, false, true, false, false, false, false] rfl rfl (any_of HT_.out (by kernel_rfl)) (fun _ _ _ h => h) (Or.inl ⟨by rfl, ?_⟩) ?_ ?_
               rotate_left
               ·intro w'
                go_simp
                with_reducible rfl
               rotate_left
               ·simp only [Act.put, List.setIfInBounds_toArray, List.set_cons_zero, List.set_cons_succ, i64_w, i32_w]
                rfl
               refine zqp (i := 4) (N := some 44) (v := ?_) (a' := ?_) #[true, true, true, true, true, false, true, false, true, false, false, false, false] rfl rfl (any_of HT_.out (by kernel_rfl)) (fun _ _ _ h => h) (Or.inl ⟨by rfl, ?_⟩) ?_ ?_
               rotate_left
               ·intro w'
                go_simp
                with_reducible rfl
               rotate_left
               ·simp only [Act.put, List.setIfInBounds_toArray, List.set_cons_zero, List.set_cons_succ, i64_w, i32_w]
                rfl
               refine zqt (i := 5) (N := some 45) (v := ?_) (a' := ?_) #[true, true, true, true, true, true, true, false, true, false, false, false, false] rfl rfl (take_ofW HT_.out HW_.out (by kernel_rfl)) (fun _ _ _ h => h) (Or.inl ⟨by rfl, ?_⟩) hHeld ?_ ?_
               rotate_left
               ·rintro w' ⟨s0, s1, s2, s3, s4, s5⟩
                go_simp
                with_reducible rfl
               rotate_left
               ·simp only [Act.put, List.setIfInBounds_toArray, List.set_cons_zero, List.set_cons_succ, i64_w, i32_w]
                rfl
               refine zqt (i := 7) (N := some 47) (v := ?_) (a' := ?_) #[true, true, true, true, true, true, true, true, true, false, false, false, false] rfl rfl (take_ofW HT_.out HW_.out (by kernel_rfl)) (fun _ _ _ h => h) (Or.inl ⟨by rfl, ?_⟩) hHeld ?_ ?_
               rotate_left
               ·rintro w' ⟨s0, s1, s2, s3, s4, s5⟩
                go_simp
                with_reducible rfl
               rotate_left
               ·simp only [Act.put, List.setIfInBounds_toArray, List.set_cons_zero, List.set_cons_succ, i64_w, i32_w]
                rfl
               refine zqp (i := 9) (N := some 49) (v := ?_) (a' := ?_) #[true, true, true, true, true, true, true, true, true, true, false, false, false] rfl rfl (any_of HT_.out (by kernel_rfl)) (fun _ _ _ h => h) (Or.inl ⟨by rfl, ?_⟩) ?_ ?_
               rotate_left
               ·intro w'
                go_simp
                with_reducible rfl
               rotate_left
               ·simp only [Act.put, List.setIfInBounds_toArray, List.set_cons_zero, List.set_cons_succ, i64_w, i32_w]
                rfl
               refine zqp (i := 10) (N := some 50) (v := ?_) (a' := ?_) #[true, true, true, true, true, true, true, true, true, true, true, false, false] rfl rfl (any_of HT_.out (by kernel_rfl)) (fun _ _ _ h => h) (Or.inl ⟨by rfl, ?_⟩) ?_ ?_
               rotate_left
               ·intro w'
                go_simp
                with_reducible rfl
               rotate_left
               ·simp only [Act.put, List.setIfInBounds_toArray, List.set_cons_zero, List.set_cons_succ, i64_w, i32_w]
                rfl
               refine zqt (i := 11) (N := some 51) (v := ?_) (a' := ?_) #[true, true, true, true, true, true, true, true, true, true, true, true, false] rfl rfl (take_ofW HT_.out HW_.out (by kernel_rfl)) (fun _ _ _ h => h) (Or.inl ⟨by rfl, ?_⟩) hHeld ?_ ?_
               rotate_left
               ·rintro w' ⟨s0, s1, s2, s3, s4, s5⟩
                go_simp
                with_reducible rfl
               rotate_left
               ·simp only [Act.put, List.setIfInBounds_toArray, List.set_cons_zero, List.set_cons_succ, i64_w, i32_w]
                rfl
               refine zqp (i := 12) (N := some 52) (v := ?_) (a' := ?_) #[true, true, true, true, true, true, true, true, true, true, true, true, true] rfl rfl (any_of HT_.out (by kernel_rfl)) (fun _ _ _ h => h) (Or.inl ⟨by rfl, ?_⟩) ?_ ?_
               rotate_left
               ·intro w'
                go_simp
                with_reducible rfl
               rotate_left
               ·simp only [Act.put, List.setIfInBounds_toArray, List.set_cons_zero, List.set_cons_succ, i64_w, i32_w]
                rfl
               refine done_ (done_of HT_.out (by kernel_rfl)) ?_
               try go_wp2
               go_roundg k3
               case measure => have := HK1.out; have := HJ4.out; have := HK3.out; omega
               case rel => exact ⟨(wrap64 (x6_3 + 1)), (by first | rfl | (simp; done) | (simp [*]; done)), H', ⟨by have := HK1.out; have := HJ4.out; have := HK3.out; omega⟩, ⟨by (with_reducible repeat (first | refine zq6 ?_ _ | refine zq8 ?_ | refine zq7 ?_ _)); exact BK441.out⟩, ⟨by repeat (first | (with_reducible first | exact HB.out | apply zq2 | apply zq1 | apply zqd | refine zq3 ?_ GE441.out) | exact HB.out)⟩⟩
             ·rw [if_neg c17] at H
              exact absurd H (by simp)
            ·rw [if_neg c16] at H
             exact absurd H (by simp)
           ·rw [if_neg c15] at H
            exact absurd H (by simp)
          ·rw [if_neg c14] at H
           exact absurd H (by simp)
         ·rw [if_neg c13] at H
          have c13b0 : decide (x6_3 < x5_1) = false := decide_eq_false c13
          clear c13
          have H' := Az.mk H
          clear H
          go_wp2
          go_roundg k3
          case measure => have := HK1.out; have := HJ4.out; have := HK3.out; omega
          case rel => exact ⟨(wrap64 (x5_1 + 1)), (by first | rfl | (simp; done) | (simp [*]; done)), H', ⟨by have := HK1.out; have := HJ4.out; have := HK3.out; omega⟩, ⟨by (with_reducible repeat (first | refine zq6 ?_ _ | refine zq8 ?_ | refine zq7 ?_ _)); exact BK441.out⟩, ⟨by repeat (first | (with_reducible first | exact HB.out | apply zq2 | apply zq1 | apply zqd | refine zq3 ?_ GE441.out) | exact HB.out)⟩⟩
   ·rw [if_neg c4] at H
    have c4b0 : decide (x5_1 < (l1_1.length : Int)) = false := decide_eq_false c4
    clear c4
    replace H := Option.bind_eq_some_iff.mp H
    obtain ⟨t447, A210, H⟩ := H
    replace H : (spec_l2Vols.l2 k1 a0 t447 0) = some r := H
    have A21 := Az.mk A210
    clear A210
    have H' := Az.mk H
    clear H
    have hcz22_0 : wr.cell? ⟨gb441, 0, none⟩ = some (.int .i64 a1_0) := (zq4 BK441.out 0).trans rfl
    have hcz22_1 : wr.cell? ⟨gb441, 1, none⟩ = some (.slice A1_1 l1_1.length c1_1) := (zq4 BK441.out 1).trans rfl
    have hfz22_0 := zq5 BK441.out 0
    have hfz22_1 := zq5 BK441.out 1
    go_wp2_with (first | ((with_reducible refine gate_callee (f := 86) rfl ?_); refine zq9 (some 54) rfl rfl Try.func86 (by kernel_rfl) rfl #[.agg #[.int .i64 a1_0, .slice A1_1 l1_1.length c1_1]] rfl (by (try simp only [List.map_toArray, List.map_cons, List.map_nil]); first | done | rfl | (simp only [List.length_drop, List.length_take]; rfl)) ?_; (with_reducible refine (spec_l2All.calls k1 a1_0 (fun k_ => k_ < w.heap.size) _ _ l1_1 t447 _ ?side1 A21.out).mono ?_); (case side1 => exact Kd.V_mk HC1_1.out (Kd.F_below (Kd.C_F k65_heap HR1_1.out) (by repeat (first | (with_reducible first | exact HB.out | apply zq2 | apply zq1 | apply zqd | refine zq3 ?_ GE441.out) | exact HB.out)))); rintro e w23 ⟨v448, rfl, ho0, hb⟩; refine ⟨_, rfl, ?_⟩; have n0_ := Az.mk (Kd.N_lower (Kd.N_mono (ok' := fun k_ => k_ ≠ gb441) ho0 (fun k_ hk_ => Or.elim hk_ (fun hs_ => fun e_ => Nat.not_le.2 hs_ (by rw [e_]; exact GW441.out)) (fun hn_ => (Kd.freshB (g := gb441) (o := .cells #[.int .i64 a1_0, .slice A1_1 l1_1.length c1_1] 57 (0, 0)) (by (with_reducible repeat (first | refine zq6 ?_ _ | refine zq8 ?_ | refine zq7 ?_ _)); exact BK441.out) k_ hn_)))) (below_size (by repeat (first | (with_reducible first | exact HB.out | apply zq2 | apply zq1 | apply zqd | refine zq3 ?_ GE441.out) | exact HB.out)))); have n1_ := Az.mk (blk_below (g := gb441) (o := .cells #[.int .i64 a1_0, .slice A1_1 l1_1.length c1_1] 57 (0, 0)) (by (with_reducible repeat (first | refine zq6 ?_ _ | refine zq8 ?_ | refine zq7 ?_ _)); exact BK441.out) hb); have n2_ := Az.mk (below_step (by repeat (first | (with_reducible first | exact HB.out | apply zq2 | apply zq1 | apply zqd | refine zq3 ?_ GE441.out) | exact HB.out)) hb); clear BK441; clear HB; have HO449 := n0_; have BK441 := n1_; have HB := n2_; clear n0_ n1_ n2_; (try clear hb); (try clear hb2); (try clear hk); (try clear hi); (try clear ho0)))
    go_loopg [8] k1 (fun kq v8 w' => ∃ (x8_2 : Int), v8 = .int .i64 x8_2 ∧ Az (spec_l2Vols.l2 kq a0 t447 x8_2 = some r) ∧ Az (kq ≤ k1) ∧ Az (Kd.N k29 29 w' w.heap.size (fun k_ => k_ ≠ gb441) v448 t447) ∧ Az (w'.heap[gb441]? = some (.cells #[.int .i64 a1_0, (.slice A1_1 l1_1.length c1_1)] 57 (0, 0))) ∧ Az (Below w.heap.size w w'))
    case atStart => exact ⟨(0), (by first | rfl | (simp; done) | (simp [*]; done)), H', ⟨Nat.le_refl _⟩, ⟨by (with_reducible repeat (first | apply Kd.N_alloc | apply Kd.N_drewN | apply Kd.N_drew)); exact HO449.out⟩, ⟨by (with_reducible repeat (first | refine zq6 ?_ _ | refine zq8 ?_ | refine zq7 ?_ _)); exact BK441.out⟩, ⟨by repeat (first | (with_reducible first | exact HB.out | apply zq2 | apply zq1 | apply zqd | refine zq3 ?_ GE441.out) | exact HB.out)⟩⟩
    case round =>
     clear H'
     try clear c1
     try clear p2
     try clear c4
     try clear c4b0
     try clear p4
     try clear q4
     try clear hx4
     try clear p6
     try clear c7
     try clear c7b0
     try clear c8
     try clear c9
     try clear c12
     try clear c13
     try clear c13b0
     try clear c14
     try clear c14b0
     try clear c15
     try clear c15b0
     try clear c16
     try clear c16b0
     try clear c17
     try clear c17b0
     try clear c18
     try clear c18b0
     try clear c18b1
     try clear hcz10_0
     try clear hcz10_1
     try clear hcz11_0
     try clear hcz11_1
     try clear hcz22_0
     try clear hcz22_1
     try clear hcz6_0
     try clear hcz6_1
     try clear hfz10_0
     try clear hfz10_1
     try clear hfz11_0
     try clear hfz11_1
     try clear hfz22_0
     try clear hfz22_1
     try clear hfz6_0
     try clear hfz6_1
     try clear hx442_0
     try clear hx442_1
     try clear hx444_0
     try clear hx444_1
     try clear hx445_0
     try clear hx445_1
     try clear hx446_0
     try clear hx446_1
     try clear p2
     try clear p4
     try clear p442
     try clear p444
     try clear p445
     try clear p446
     try clear q4
     try clear q442
     try clear q444
     try clear q445
     try clear q446
     obtain ⟨x8_2, rfl, HA, HK2, HO_7, BK441, HB⟩ := hrel
     cases gk with
     | zero => exact absurd HA.out (by simp [spec_l2Vols.l2])
     | succ k2 =>
      have H := HA.out
      clear HA
      simp only [spec_l2Vols.l2] at H
      by_cases c24 : x8_2 < (t447.length : Int)
      ·rw [if_pos c24] at H
       have c24b0 : decide (x8_2 < (t447.length : Int)) = true := decide_eq_true c24
       clear c24
       by_cases c25 : 0 ≤ x8_2
       ·rw [if_pos c25] at H
        have c25b0 : decide (0 ≤ x8_2) = true := decide_eq_true c25
        clear c25
        replace H := Option.bind_eq_some_iff.mp H
        obtain ⟨t451, A260, H⟩ := H
        replace H : (if t451 = true then (spec_l2Vols.l3 k2 a0 t447 x8_2 0) else (some false)) = some r := H
        have A26 := Az.mk A260
        clear A260
        by_cases c27 : t451 = true
        ·subst c27
         have H1 : (spec_l2Vols.l3 k2 a0 t447 x8_2 0) = some r := by rw [if_pos rfl] at H; exact H
         clear H
         have H := H1
         clear H1
         have H' := Az.mk H
         clear H
         obtain ⟨Ao28, co28, eo28⟩ := Kd.N_slice HO_7.out
         subst eo28
         have p450 : 0 ≤ (x8_2 : Int) := of_decide_eq_true (by first | (with_reducible assumption) | assumption)
         have q450 : x8_2 < (t447.length : Int) := of_decide_eq_true (by first | (with_reducible assumption) | assumption)
         obtain ⟨ad450, A450_2, c450_2, e450, hx450_0, hx450_1, hx450_2, hl450_2, hi450_2⟩ := at_T29 (Kd.N_reads' HO_7.out).2.2 x8_2 p450 q450
         cases e450
         obtain ⟨ce450, hce450, hMe450, hcc450⟩ := Kd.N_get HO_7.out z29 x8_2 p450 (by first | exact q450 | exact of_decide_eq_true (by first | (with_reducible assumption) | assumption) | (have e_ := (Kd.N_reads' HO_7.out).1; omega))
         obtain ⟨ua450_2, uc450_2, rfl, ul450_2, ge450_2⟩ := k29_openF hMe450
         have hv450_2 := hcc450 2 _ rfl
         rw [add_field _ _ 2 (by omega)] at hv450_2
         replace hv450_2 := Option.some.inj (hv450_2.symm.trans hx450_2)
         injection hv450_2 with hva_ hvn_ hvc_
         rw [hva_] at ge450_2
         rw [hvc_] at ul450_2
         have HL450_2 := Az.mk (show Kd.V k37 37 _ w.heap.size _ _ ((rd_T29 t447 x8_2).f2) from Kd.V_mk ul450_2 ge450_2)
         clear hva_ hvn_ hvc_ ge450_2 ul450_2
         clear hcc450 hce450
         have HR450_2 := Az.mk hi450_2
         have HC450_2 := Az.mk hl450_2
         clear hi450_2 hl450_2
         replace p450 := eq_true p450
         replace q450 := eq_true q450
         go_wp2_with (first | ((with_reducible refine gate_callee (f := 54) rfl ?_); refine zq9 (some 66) rfl rfl Try.func54 (by kernel_rfl) rfl #[.int .i64 a0, .agg #[.int .i64 ((rd_T29 t447 x8_2).f0), .int .i64 ((rd_T29 t447 x8_2).f1), .slice A450_2 ((rd_T29 t447 x8_2).f2).length c450_2]] rfl (by (try simp only [List.map_toArray, List.map_cons, List.map_nil]); first | done | rfl | (simp only [List.length_drop, List.length_take]; rfl)) ?_; (with_reducible refine (spec_l2Ptr.calls k2 a0 ((rd_T29 t447 x8_2).f0) ((rd_T29 t447 x8_2).f1) _ _ ((rd_T29 t447 x8_2).f2) true _ ?side1 ?side2 A26.out).mono ?_); (case side1 => repeat (first | exact (by repeat (first | (with_reducible exact HR450_2.out) | (with_reducible refine Kd.C_alloc ?_ _) | (with_reducible refine Kd.C_drewN ?_ _) | (with_reducible refine Kd.C_drew ?_) | exact HR450_2.out)) | (with_reducible refine Kd.C_alloc ?_ _) | (with_reducible refine Kd.C_drewN ?_ _) | (with_reducible refine Kd.C_drew ?_))); (case side2 => exact HC450_2.out); rintro e w29 ⟨rfl, hb⟩; refine ⟨_, rfl, ?_⟩; have n0_ := Az.mk (Kd.N_below (by (with_reducible repeat (first | apply Kd.N_alloc | apply Kd.N_drewN | apply Kd.N_drew)); exact HO_7.out) hb); have n1_ := Az.mk (Kd.V_below (by (with_reducible repeat (first | apply Kd.V_alloc | apply Kd.V_drewN | apply Kd.V_drew)); exact HL450_2.out) hb); have n2_ := Az.mk (blk_below (g := gb441) (o := .cells #[.int .i64 a1_0, .slice A1_1 l1_1.length c1_1] 57 (0, 0)) (by (with_reducible repeat (first | refine zq6 ?_ _ | refine zq8 ?_ | refine zq7 ?_ _)); exact BK441.out) hb); have n3_ := Az.mk (Kd.C_below (by repeat (first | (with_reducible exact HR450_2.out) | (with_reducible refine Kd.C_alloc ?_ _) | (with_reducible refine Kd.C_drewN ?_ _) | (with_reducible refine Kd.C_drew ?_) | exact HR450_2.out)) hb); have n4_ := Az.mk (below_step (by repeat (first | (with_reducible first | exact HB.out | apply zq2 | apply zq1 | apply zqd | refine zq3 ?_ GE441.out) | exact HB.out)) hb); clear HO_7; clear HL450_2; clear BK441; clear HR450_2; clear HB; have HO_7 := n0_; have HL450_2 := n1_; have BK441 := n2_; have HR450_2 := n3_; have HB := n4_; clear n0_ n1_ n2_ n3_ n4_; (try clear hb); (try clear hb2); (try clear hk); (try clear hi)))
         go_loopg [9] k2 (fun kq v9 w' => ∃ (x9_3 : Int), v9 = .int .i64 x9_3 ∧ Az (spec_l2Vols.l3 kq a0 t447 x8_2 x9_3 = some r) ∧ Az (kq ≤ k2) ∧ Az (Kd.N k29 29 w' w.heap.size (fun k_ => k_ ≠ gb441) (.slice (some ad450) t447.length co28) t447) ∧ Az (w'.heap[gb441]? = some (.cells #[.int .i64 a1_0, (.slice A1_1 l1_1.length c1_1)] 57 (0, 0))) ∧ Az (Kd.C k37 w' A450_2 ((rd_T29 t447 x8_2).f2).length ((rd_T29 t447 x8_2).f2)) ∧ Az (Below w.heap.size w w'))
         case atStart => exact ⟨(0), (by first | rfl | (simp; done) | (simp [*]; done)), H', ⟨Nat.le_refl _⟩, ⟨by (with_reducible repeat (first | apply Kd.N_alloc | apply Kd.N_drewN | apply Kd.N_drew)); exact HO_7.out⟩, ⟨by (with_reducible repeat (first | refine zq6 ?_ _ | refine zq8 ?_ | refine zq7 ?_ _)); exact BK441.out⟩, ⟨by repeat (first | (with_reducible exact HR450_2.out) | (with_reducible refine Kd.C_alloc ?_ _) | (with_reducible refine Kd.C_drewN ?_ _) | (with_reducible refine Kd.C_drew ?_) | exact HR450_2.out)⟩, ⟨by repeat (first | (with_reducible first | exact HB.out | apply zq2 | apply zq1 | apply zqd | refine zq3 ?_ GE441.out) | exact HB.out)⟩⟩
         case round =>
          clear H'
          try clear c1
          try clear c2
          try clear p2
          try clear c4
          try clear c4b0
          try clear p4
          try clear q4
          try clear hx4
          try clear c5
          try clear p6
          try clear c7
          try clear c7b0
          try clear c8
          try clear c9
          try clear c12
          try clear c13
          try clear c13b0
          try clear c14
          try clear c14b0
          try clear c15
          try clear c15b0
          try clear c16
          try clear c16b0
          try clear c17
          try clear c17b0
          try clear c18
          try clear c18b0
          try clear c18b1
          try clear c24
          try clear c24b0
          try clear c25
          try clear c25b0
          try clear c27
          try clear hcz10_0
          try clear hcz10_1
          try clear hcz11_0
          try clear hcz11_1
          try clear hcz22_0
          try clear hcz22_1
          try clear hcz6_0
          try clear hcz6_1
          try clear hfz10_0
          try clear hfz10_1
          try clear hfz11_0
          try clear hfz11_1
          try clear hfz22_0
          try clear hfz22_1
          try clear hfz6_0
          try clear hfz6_1
          try clear hx442_0
          try clear hx442_1
          try clear hx444_0
          try clear hx444_1
          try clear hx445_0
          try clear hx445_1
          try clear hx446_0
          try clear hx446_1
          try clear hx450_0
          try clear hx450_1
          try clear hx450_2
          try clear p2
          try clear p4
          try clear p442
          try clear p444
          try clear p445
          try clear p446
          try clear p450
          try clear p6
          try clear q4
          try clear q442
          try clear q444
          try clear q445
          try clear q446
          try clear q450
          obtain ⟨x9_3, rfl, HA, HK3, HO_7, BK441, HR450_2, HB⟩ := hrel
          cases gk with
          | zero => exact absurd HA.out (by simp [spec_l2Vols.l3])
          | succ k3 =>
           have H := HA.out
           clear HA
           simp only [spec_l2Vols.l3] at H
           by_cases c30 : x9_3 < x8_2
           ·rw [if_pos c30] at H
            have c30b0 : decide (x9_3 < x8_2) = true := decide_eq_true c30
            clear c30
            by_cases c31 : 0 ≤ x8_2
            ·rw [if_pos c31] at H
             have c31b0 : decide (0 ≤ x8_2) = true := decide_eq_true c31
             clear c31
             by_cases c32 : x8_2 < (t447.length : Int)
             ·rw [if_pos c32] at H
              have c32b0 : decide (x8_2 < (t447.length : Int)) = true := decide_eq_true c32
              clear c32
              by_cases c33 : 0 ≤ x9_3
              ·rw [if_pos c33] at H
               have c33b0 : decide (0 ≤ x9_3) = true := decide_eq_true c33
               clear c33
               by_cases c34 : x9_3 < (t447.length : Int)
               ·rw [if_pos c34] at H
                have c34b0 : decide (x9_3 < (t447.length : Int)) = true := decide_eq_true c34
                clear c34
                replace H := Option.bind_eq_some_iff.mp H
                obtain ⟨t454, A350, H⟩ := H
                replace H : (if t454 = true then ((spec_l2Same.f k3 ((rd_T29 t447 x8_2).f0) ((rd_T29 t447 x8_2).f1) ((rd_T29 t447 x8_2).f2) ((rd_T29 t447 x9_3).f0) ((rd_T29 t447 x9_3).f1) ((rd_T29 t447 x9_3).f2)).bind fun t457 => (if t457 = true then (spec_l2Vols.l3 k3 a0 t447 x8_2 (wrap64 (x9_3 + 1))) else (some false))) else (spec_l2Vols.l3 k3 a0 t447 x8_2 (wrap64 (x9_3 + 1)))) = some r := H
                have A35 := Az.mk A350
                clear A350
                by_cases c36 : t454 = true
                ·subst c36
                 have H1 : ((spec_l2Same.f k3 ((rd_T29 t447 x8_2).f0) ((rd_T29 t447 x8_2).f1) ((rd_T29 t447 x8_2).f2) ((rd_T29 t447 x9_3).f0) ((rd_T29 t447 x9_3).f1) ((rd_T29 t447 x9_3).f2)).bind fun t457 => (if t457 = true then (spec_l2Vols.l3 k3 a0 t447 x8_2 (wrap64 (x9_3 + 1))) else (some false))) = some r := by rw [if_pos rfl] at H; exact H
                 clear H
                 have H := H1
                 clear H1
                 replace H := Option.bind_eq_some_iff.mp H
                 obtain ⟨t457, A370, H⟩ := H
                 replace H : (if t457 = true then (spec_l2Vols.l3 k3 a0 t447 x8_2 (wrap64 (x9_3 + 1))) else (some false)) = some r := H
                 have A37 := Az.mk A370
                 clear A370
                 by_cases c38 : t457 = true
                 ·subst c38
                  have H1 : (spec_l2Vols.l3 k3 a0 t447 x8_2 (wrap64 (x9_3 + 1))) = some r := by rw [if_pos rfl] at H; exact H
                  clear H
                  have H := H1
                  clear H1
                  have H' := Az.mk H
                  clear H
                  try go_wp2
                  have n0_ := Az.mk (Kd.N_drew HO_7.out)
                  have n1_ := Az.mk (zq8 BK441.out)
                  have n2_ := Az.mk (Kd.C_drew HR450_2.out)
                  have n3_ := Az.mk (zqd HB.out)
                  clear HO_7
                  clear BK441
                  clear HR450_2
                  clear HB
                  have HO_7 := n0_
                  have BK441 := n1_
                  have HR450_2 := n2_
                  have HB := n3_
                  clear n0_ n1_ n2_ n3_
                  have p452 : 0 ≤ (x8_2 : Int) := of_decide_eq_true (by first | (with_reducible assumption) | assumption)
                  have q452 : x8_2 < (t447.length : Int) := of_decide_eq_true (by first | (with_reducible assumption) | assumption)
                  obtain ⟨ad452, A452_2, c452_2, e452, hx452_0, hx452_1, hx452_2, hl452_2, hi452_2⟩ := at_T29 (Kd.N_reads' HO_7.out).2.2 x8_2 p452 q452
                  obtain rfl : ad450 = ad452 := (by injection e452)
                  obtain ⟨ce452, hce452, hMe452, hcc452⟩ := Kd.N_get HO_7.out z29 x8_2 p452 (by first | exact q452 | exact of_decide_eq_true (by first | (with_reducible assumption) | assumption) | (have e_ := (Kd.N_reads' HO_7.out).1; omega))
                  obtain ⟨ua452_2, uc452_2, rfl, ul452_2, ge452_2⟩ := k29_openF hMe452
                  have hv452_2 := hcc452 2 _ rfl
                  rw [add_field _ _ 2 (by omega)] at hv452_2
                  replace hv452_2 := Option.some.inj (hv452_2.symm.trans hx452_2)
                  injection hv452_2 with hva_ hvn_ hvc_
                  rw [hva_] at ge452_2
                  rw [hvc_] at ul452_2
                  have HL452_2 := Az.mk (show Kd.V k37 37 _ w.heap.size _ _ ((rd_T29 t447 x8_2).f2) from Kd.V_mk ul452_2 ge452_2)
                  clear hva_ hvn_ hvc_ ge452_2 ul452_2
                  clear hcc452 hce452
                  have HR452_2 := Az.mk hi452_2
                  have HC452_2 := Az.mk hl452_2
                  clear hi452_2 hl452_2
                  replace p452 := eq_true p452
                  replace q452 := eq_true q452
                  have p453 : 0 ≤ (x9_3 : Int) := of_decide_eq_true (by first | (with_reducible assumption) | assumption)
                  have q453 : x9_3 < (t447.length : Int) := of_decide_eq_true (by first | (with_reducible assumption) | assumption)
                  obtain ⟨ad453, A453_2, c453_2, e453, hx453_0, hx453_1, hx453_2, hl453_2, hi453_2⟩ := at_T29 (Kd.N_reads' HO_7.out).2.2 x9_3 p453 q453
                  obtain rfl : ad450 = ad453 := (by injection e453)
                  obtain ⟨ce453, hce453, hMe453, hcc453⟩ := Kd.N_get HO_7.out z29 x9_3 p453 (by first | exact q453 | exact of_decide_eq_true (by first | (with_reducible assumption) | assumption) | (have e_ := (Kd.N_reads' HO_7.out).1; omega))
                  obtain ⟨ua453_2, uc453_2, rfl, ul453_2, ge453_2⟩ := k29_openF hMe453
                  have hv453_2 := hcc453 2 _ rfl
                  rw [add_field _ _ 2 (by omega)] at hv453_2
                  replace hv453_2 := Option.some.inj (hv453_2.symm.trans hx453_2)
                  injection hv453_2 with hva_ hvn_ hvc_
                  rw [hva_] at ge453_2
                  rw [hvc_] at ul453_2
                  have HL453_2 := Az.mk (show Kd.V k37 37 _ w.heap.size _ _ ((rd_T29 t447 x9_3).f2) from Kd.V_mk ul453_2 ge453_2)
                  clear hva_ hvn_ hvc_ ge453_2 ul453_2
                  clear hcc453 hce453
                  have HR453_2 := Az.mk hi453_2
                  have HC453_2 := Az.mk hl453_2
                  clear hi453_2 hl453_2
                  replace p453 := eq_true p453
                  replace q453 := eq_true q453
                  have p455 : 0 ≤ (x8_2 : Int) := of_decide_eq_true (by first | (with_reducible assumption) | assumption)
                  have q455 : x8_2 < (t447.length : Int) := of_decide_eq_true (by first | (with_reducible assumption) | assumption)
                  obtain ⟨ad455, A455_2, c455_2, e455, hx455_0, hx455_1, hx455_2, hl455_2, hi455_2⟩ := at_T29 (Kd.N_reads' HO_7.out).2.2 x8_2 p455 q455
                  obtain rfl : ad450 = ad455 := (by injection e455)
                  obtain ⟨ce455, hce455, hMe455, hcc455⟩ := Kd.N_get HO_7.out z29 x8_2 p455 (by first | exact q455 | exact of_decide_eq_true (by first | (with_reducible assumption) | assumption) | (have e_ := (Kd.N_reads' HO_7.out).1; omega))
                  obtain ⟨ua455_2, uc455_2, rfl, ul455_2, ge455_2⟩ := k29_openF hMe455
                  have hv455_2 := hcc455 2 _ rfl
                  rw [add_field _ _ 2 (by omega)] at hv455_2
                  replace hv455_2 := Option.some.inj (hv455_2.symm.trans hx455_2)
                  injection hv455_2 with hva_ hvn_ hvc_
                  rw [hva_] at ge455_2
                  rw [hvc_] at ul455_2
                  have HL455_2 := Az.mk (show Kd.V k37 37 _ w.heap.size _ _ ((rd_T29 t447 x8_2).f2) from Kd.V_mk ul455_2 ge455_2)
                  clear hva_ hvn_ hvc_ ge455_2 ul455_2
                  clear hcc455 hce455
                  have HR455_2 := Az.mk hi455_2
                  have HC455_2 := Az.mk hl455_2
                  clear hi455_2 hl455_2
                  replace p455 := eq_true p455
                  replace q455 := eq_true q455
                  have p456 : 0 ≤ (x9_3 : Int) := of_decide_eq_true (by first | (with_reducible assumption) | assumption)
                  have q456 : x9_3 < (t447.length : Int) := of_decide_eq_true (by first | (with_reducible assumption) | assumption)
                  obtain ⟨ad456, A456_2, c456_2, e456, hx456_0, hx456_1, hx456_2, hl456_2, hi456_2⟩ := at_T29 (Kd.N_reads' HO_7.out).2.2 x9_3 p456 q456
                  obtain rfl : ad450 = ad456 := (by injection e456)
                  obtain ⟨ce456, hce456, hMe456, hcc456⟩ := Kd.N_get HO_7.out z29 x9_3 p456 (by first | exact q456 | exact of_decide_eq_true (by first | (with_reducible assumption) | assumption) | (have e_ := (Kd.N_reads' HO_7.out).1; omega))
                  obtain ⟨ua456_2, uc456_2, rfl, ul456_2, ge456_2⟩ := k29_openF hMe456
                  have hv456_2 := hcc456 2 _ rfl
                  rw [add_field _ _ 2 (by omega)] at hv456_2
                  replace hv456_2 := Option.some.inj (hv456_2.symm.trans hx456_2)
                  injection hv456_2 with hva_ hvn_ hvc_
                  rw [hva_] at ge456_2
                  rw [hvc_] at ul456_2
                  have HL456_2 := Az.mk (show Kd.V k37 37 _ w.heap.size _ _ ((rd_T29 t447 x9_3).f2) from Kd.V_mk ul456_2 ge456_2)
                  clear hva_ hvn_ hvc_ ge456_2 ul456_2
                  clear hcc456 hce456
                  have HR456_2 := Az.mk hi456_2
                  have HC456_2 := Az.mk hl456_2
                  clear hi456_2 hl456_2
                  replace p456 := eq_true p456
                  replace q456 := eq_true q456
                  refine start_ (n := 21) (S := fun w' => w'.cell? (ad450.add ((x8_2).toNat * 3)) = some (.int .i64 ((rd_T29 t447 x8_2).f0)) ∧ w'.cell? ⟨(ad450.add ((x8_2).toNat * 3)).block, (ad450.add ((x8_2).toNat * 3)).off + 1, none⟩ = some (.int .i64 ((rd_T29 t447 x8_2).f1)) ∧ w'.cell? ⟨(ad450.add ((x8_2).toNat * 3)).block, (ad450.add ((x8_2).toNat * 3)).off + 2, none⟩ = some (.slice A452_2 ((rd_T29 t447 x8_2).f2).length c452_2) ∧ w'.cell? (ad450.add ((x9_3).toNat * 3)) = some (.int .i64 ((rd_T29 t447 x9_3).f0)) ∧ w'.cell? ⟨(ad450.add ((x9_3).toNat * 3)).block, (ad450.add ((x9_3).toNat * 3)).off + 1, none⟩ = some (.int .i64 ((rd_T29 t447 x9_3).f1)) ∧ w'.cell? ⟨(ad450.add ((x9_3).toNat * 3)).block, (ad450.add ((x9_3).toNat * 3)).off + 2, none⟩ = some (.slice A453_2 ((rd_T29 t447 x9_3).f2).length c453_2) ∧ w'.cell? (ad450.add ((x8_2).toNat * 3)) = some (.int .i64 ((rd_T29 t447 x8_2).f0)) ∧ w'.cell? ⟨(ad450.add ((x8_2).toNat * 3)).block, (ad450.add ((x8_2).toNat * 3)).off + 1, none⟩ = some (.int .i64 ((rd_T29 t447 x8_2).f1)) ∧ w'.cell? ⟨(ad450.add ((x8_2).toNat * 3)).block, (ad450.add ((x8_2).toNat * 3)).off + 2, none⟩ = some (.slice A455_2 ((rd_T29 t447 x8_2).f2).length c455_2) ∧ w'.cell? (ad450.add ((x9_3).toNat * 3)) = some (.int .i64 ((rd_T29 t447 x9_3).f0)) ∧ w'.cell? ⟨(ad450.add ((x9_3).toNat * 3)).block, (ad450.add ((x9_3).toNat * 3)).off + 1, none⟩ = some (.int .i64 ((rd_T29 t447 x9_3).f1)) ∧ w'.cell? ⟨(ad450.add ((x9_3).toNat * 3)).block, (ad450.add ((x9_3).toNat * 3)).off + 2, none⟩ = some (.slice A456_2 ((rd_T29 t447 x9_3).f2).length c456_2)) (ds := []) #[false, false, false, false, false, false, false, false, false, false, false, false, false, false, false, false, false, false, false, false, false] (by kernel_rfl) rfl rfl ⟨hx452_0, hx452_1, hx452_2, hx453_0, hx453_1, hx453_2, hx455_0, hx455_1, hx455_2, hx456_0, hx456_1, hx456_2⟩ (fun hHeld => ?_); refine with_tabW spec_l2Vols.tab20 spec_l2Vols.bits20 (fun HT_ HW_ => ?_)
                  generalize wr.drew = w39 at HO_7 BK441 HR450_2 HB HL452_2 HL453_2 HL455_2 HL456_2 HR452_2 HR453_2 HR455_2 HR456_2 hx452_0 hx452_1 hx452_2 hx453_0 hx453_1 hx453_2 hx455_0 hx455_1 hx455_2 hx456_0 hx456_1 hx456_2 hHeld ⊢
                  refine zqp (i := 0) (N := some 73) (v := ?_) (a' := ?_) #[true, false, false, false, false, false, false, false, false, false, false, false, false, false, false, false, false, false, false, false, false] rfl rfl (any_of HT_.out (by kernel_rfl)) (fun _ _ _ h => h) (Or.inl ⟨by rfl, ?_⟩) ?_ ?_
                  rotate_left
                  ·intro w'
                   go_simp
                   with_reducible rfl
                  rotate_left
                  ·simp only [Act.put, List.setIfInBounds_toArray, List.set_cons_zero, List.set_cons_succ, i64_w, i32_w]
                   rfl
                  refine zqp (i := 1) (N := some 74) (v := ?_) (a' := ?_) #[true, true, false, false, false, false, false, false, false, false, false, false, false, false, false, false, false, false, false, false, false] rfl rfl (any_of HT_.out (by kernel_rfl)) (fun _ _ _ h => h) (Or.inl ⟨by rfl, ?_⟩) ?_ ?_
                  rotate_left
                  ·intro w'
                   go_simp
                   with_reducible rfl
                  rotate_left
                  ·simp only [Act.put, List.setIfInBounds_toArray, List.set_cons_zero, List.set_cons_succ, i64_w, i32_w]
                   rfl
                  refine zqp (i := 2) (N := some 75) (v := ?_) (a' := ?_) #[true, true, true, false, false, false, false, false, false, false, false, false, false, false, false, false, false, false, false, false, false] rfl rfl (any_of HT_.out (by kernel_rfl)) (fun _ _ _ h => h) (Or.inl ⟨by rfl, ?_⟩) ?_ ?_
                  rotate_left
                  ·intro w'
                   go_simp
                   with_reducible rfl
                  rotate_left
                  ·simp only [Act.put, List.setIfInBounds_toArray, List.set_cons_zero, List.set_cons_succ, i64_w, i32_w]
                   rfl
                  refine zqp (i := 4) (N := some 77) (v := ?_) (a' := ?_) #[true, true, true, false, true, false, false, false, false, false, false, false, false, false, false, false, false, false, false, false, false] rfl rfl (any_of HT_.out (by kernel_rfl)) (fun _ _ _ h => h) (Or.inl ⟨by rfl, ?_⟩) ?_ ?_
                  rotate_left
                  ·intro w'
                   go_simp
                   with_reducible rfl
                  rotate_left
                  ·simp only [Act.put, List.setIfInBounds_toArray, List.set_cons_zero, List.set_cons_succ, i64_w, i32_w]
                   rfl
                  refine zqp (i := 5) (N := some 78) (v := ?_) (a' := ?_) #[true, true, true, false, true, true, false, false, false, false, false, false, false, false, false, false, false, false, false, false, false] rfl rfl (any_of HT_.out (by kernel_rfl)) (fun _ _ _ h => h) (Or.inl ⟨by rfl, ?_⟩) ?_ ?_
                  rotate_left
                  ·intro w'
                   go_simp
                   with_reducible rfl
                  rotate_left
                  ·simp only [Act.put, List.setIfInBounds_toArray, List.set_cons_zero, List.set_cons_succ, i64_w, i32_w]
                   rfl
                  refine zqp (i := 6) (N := some 79) (v := ?_) (a' := ?_) #[true, true, true, false, true, true, true, false, false, false, false, false, false, false, false, false, false, false, false, false, false] rfl rfl (any_of HT_.out (by kernel_rfl)) (fun _ _ _ h => h) (Or.inl ⟨by rfl, ?_⟩) ?_ ?_
                  rotate_left
                  ·intro w'
                   go_simp
                   with_reducible rfl
                  rotate_left
                  ·simp only [Act.put, List.setIfInBounds_toArray, List.set_cons_zero, List.set_cons_succ, i64_w, i32_w]
                   rfl
                  refine zqt (i := 3) (N := some 76) (v := ?_) (a' := ?_) #[true, true, true, true, true, true, true, false, false, false, false, false, false, false, false, false, false, false, false, false, false] rfl rfl (take_ofW HT_.out HW_.out (by kernel_rfl)) (fun _ _ _ h => h) (Or.inl ⟨by rfl, ?_⟩) hHeld ?_ ?_
                  rotate_left
                  ·rintro w' ⟨s0, s1, s2, s3, s4, s5, s6, s7, s8, s9, s10, s11⟩
                   go_simp
                   with_reducible rfl
                  rotate_left
                  ·simp only [Act.put, List.setIfInBounds_toArray, List.set_cons_zero, List.set_cons_succ, i64_w, i32_w]
                   rfl
                  refine zqt (i := 7) (N := some 80) (v := ?_) (a' := ?_) #[true, true, true, true, true, true, true, true, false, false, false, false, false, false, false, false, false, false, false, false, false] rfl rfl (take_ofW HT_.out HW_.out (by kernel_rfl)) (fun _ _ _ h => h) (Or.inl ⟨by rfl, ?_⟩) hHeld ?_ ?_
                  rotate_left
                  ·rintro w' ⟨s0, s1, s2, s3, s4, s5, s6, s7, s8, s9, s10, s11⟩
                   go_simp
                   with_reducible rfl
                  rotate_left
                  ·simp only [Act.put, List.setIfInBounds_toArray, List.set_cons_zero, List.set_cons_succ, i64_w, i32_w]
                   rfl
                  refine one_ (i := 8) (N := some 81) #[true, true, true, true, true, true, true, true, true, false, false, false, false, false, false, false, false, false, false, false, false] rfl rfl (one_of HT_.out (by kernel_rfl)) (by decide) (fun K hK => ?_)
                  refine goes_ Try.func87 (by kernel_rfl) rfl #[.agg #[.int .i64 ((rd_T29 t447 x8_2).f0), .int .i64 ((rd_T29 t447 x8_2).f1), .slice A452_2 ((rd_T29 t447 x8_2).f2).length c452_2], .agg #[.int .i64 ((rd_T29 t447 x9_3).f0), .int .i64 ((rd_T29 t447 x9_3).f1), .slice A453_2 ((rd_T29 t447 x9_3).f2).length c453_2]] (by rfl) rfl rfl (by (try simp only [List.map_toArray, List.map_cons, List.map_nil]); first | done | rfl | (simp only [List.length_drop, List.length_take]; rfl)) ?_
                  with_reducible refine (spec_l2Meet.calls k3 ((rd_T29 t447 x8_2).f0) ((rd_T29 t447 x8_2).f1) _ _ ((rd_T29 t447 x8_2).f2) ((rd_T29 t447 x9_3).f0) ((rd_T29 t447 x9_3).f1) _ _ ((rd_T29 t447 x9_3).f2) true _ ?side1 ?side2 ?side3 ?side4 A35.out).mono ?_
                  (case side1 => repeat (first | exact (by repeat (first | (with_reducible exact HR452_2.out) | (with_reducible refine Kd.C_alloc ?_ _) | (with_reducible refine Kd.C_drewN ?_ _) | (with_reducible refine Kd.C_drew ?_) | exact HR452_2.out)) | (with_reducible refine Kd.C_alloc ?_ _) | (with_reducible refine Kd.C_drewN ?_ _) | (with_reducible refine Kd.C_drew ?_)))
                  (case side2 => exact HC452_2.out)
                  (case side3 => repeat (first | exact (by repeat (first | (with_reducible exact HR453_2.out) | (with_reducible refine Kd.C_alloc ?_ _) | (with_reducible refine Kd.C_drewN ?_ _) | (with_reducible refine Kd.C_drew ?_) | exact HR453_2.out)) | (with_reducible refine Kd.C_alloc ?_ _) | (with_reducible refine Kd.C_drewN ?_ _) | (with_reducible refine Kd.C_drew ?_)))
                  (case side4 => exact HC453_2.out)
                  rintro e w40 ⟨rfl, hb⟩
                  have HS0_ := (hb.cell (World.block_lt_of_cell? _ _ (hHeld.1))).trans (hHeld.1)
                  have HS1_ := (hb.cell (World.block_lt_of_cell? _ _ (hHeld.2.1))).trans (hHeld.2.1)
                  have HS2_ := (hb.cell (World.block_lt_of_cell? _ _ (hHeld.2.2.1))).trans (hHeld.2.2.1)
                  have HS3_ := (hb.cell (World.block_lt_of_cell? _ _ (hHeld.2.2.2.1))).trans (hHeld.2.2.2.1)
                  have HS4_ := (hb.cell (World.block_lt_of_cell? _ _ (hHeld.2.2.2.2.1))).trans (hHeld.2.2.2.2.1)
                  have HS5_ := (hb.cell (World.block_lt_of_cell? _ _ (hHeld.2.2.2.2.2.1))).trans (hHeld.2.2.2.2.2.1)
                  have HS6_ := (hb.cell (World.block_lt_of_cell? _ _ (hHeld.2.2.2.2.2.2.1))).trans (hHeld.2.2.2.2.2.2.1)
                  have HS7_ := (hb.cell (World.block_lt_of_cell? _ _ (hHeld.2.2.2.2.2.2.2.1))).trans (hHeld.2.2.2.2.2.2.2.1)
                  have HS8_ := (hb.cell (World.block_lt_of_cell? _ _ (hHeld.2.2.2.2.2.2.2.2.1))).trans (hHeld.2.2.2.2.2.2.2.2.1)
                  have HS9_ := (hb.cell (World.block_lt_of_cell? _ _ (hHeld.2.2.2.2.2.2.2.2.2.1))).trans (hHeld.2.2.2.2.2.2.2.2.2.1)
                  have HS10_ := (hb.cell (World.block_lt_of_cell? _ _ (hHeld.2.2.2.2.2.2.2.2.2.2.1))).trans (hHeld.2.2.2.2.2.2.2.2.2.2.1)
                  have HS11_ := (hb.cell (World.block_lt_of_cell? _ _ (hHeld.2.2.2.2.2.2.2.2.2.2.2))).trans (hHeld.2.2.2.2.2.2.2.2.2.2.2)
                  refine ⟨_, rfl, ?_⟩
                  have m_ := Az.mk (Kd.C_below (by (with_reducible repeat (first | refine Kd.C_alloc ?_ _ | refine Kd.C_drewN ?_ _ | refine Kd.C_drew ?_)); exact HR455_2.out) hb); clear HR455_2; have HR455_2 := m_; clear m_
                  have m_ := Az.mk (Kd.V_below (by (with_reducible repeat (first | apply Kd.V_alloc | apply Kd.V_drewN | apply Kd.V_drew)); exact HL455_2.out) hb); clear HL455_2; have HL455_2 := m_; clear m_
                  have m_ := Az.mk (Kd.C_below (by (with_reducible repeat (first | refine Kd.C_alloc ?_ _ | refine Kd.C_drewN ?_ _ | refine Kd.C_drew ?_)); exact HR456_2.out) hb); clear HR456_2; have HR456_2 := m_; clear m_
                  have m_ := Az.mk (Kd.V_below (by (with_reducible repeat (first | apply Kd.V_alloc | apply Kd.V_drewN | apply Kd.V_drew)); exact HL456_2.out) hb); clear HL456_2; have HL456_2 := m_; clear m_
                  have n0_ := Az.mk (Kd.N_below (by (with_reducible repeat (first | apply Kd.N_alloc | apply Kd.N_drewN | apply Kd.N_drew)); exact HO_7.out) hb)
                  have n1_ := Az.mk (Kd.V_below (by (with_reducible repeat (first | apply Kd.V_alloc | apply Kd.V_drewN | apply Kd.V_drew)); exact HL452_2.out) hb)
                  have n2_ := Az.mk (Kd.V_below (by (with_reducible repeat (first | apply Kd.V_alloc | apply Kd.V_drewN | apply Kd.V_drew)); exact HL453_2.out) hb)
                  have n3_ := Az.mk (blk_below (g := gb441) (o := .cells #[.int .i64 a1_0, .slice A1_1 l1_1.length c1_1] 57 (0, 0)) (by (with_reducible repeat (first | refine zq6 ?_ _ | refine zq8 ?_ | refine zq7 ?_ _)); exact BK441.out) hb)
                  have n4_ := Az.mk (Kd.C_below (by repeat (first | (with_reducible exact HR450_2.out) | (with_reducible refine Kd.C_alloc ?_ _) | (with_reducible refine Kd.C_drewN ?_ _) | (with_reducible refine Kd.C_drew ?_) | exact HR450_2.out)) hb)
                  have n5_ := Az.mk (Kd.C_below (by repeat (first | (with_reducible exact HR452_2.out) | (with_reducible refine Kd.C_alloc ?_ _) | (with_reducible refine Kd.C_drewN ?_ _) | (with_reducible refine Kd.C_drew ?_) | exact HR452_2.out)) hb)
                  have n6_ := Az.mk (Kd.C_below (by repeat (first | (with_reducible exact HR453_2.out) | (with_reducible refine Kd.C_alloc ?_ _) | (with_reducible refine Kd.C_drewN ?_ _) | (with_reducible refine Kd.C_drew ?_) | exact HR453_2.out)) hb)
                  have n7_ := Az.mk (below_step (by repeat (first | (with_reducible first | exact HB.out | apply zq2 | apply zq1 | apply zqd | refine zq3 ?_ GE441.out) | exact HB.out)) hb)
                  clear HO_7
                  clear HL452_2
                  clear HL453_2
                  clear BK441
                  clear HR450_2
                  clear HR452_2
                  clear HR453_2
                  clear HB
                  have HO_7 := n0_
                  have HL452_2 := n1_
                  have HL453_2 := n2_
                  have BK441 := n3_
                  have HR450_2 := n4_
                  have HR452_2 := n5_
                  have HR453_2 := n6_
                  have HB := n7_
                  clear n0_ n1_ n2_ n3_ n4_ n5_ n6_ n7_
                  (try clear hb)
                  (try clear hb2)
                  (try clear hk)
                  (try clear hi)
                  refine hK.out _ _ ⟨HS0_, HS1_, HS2_, HS3_, HS4_, HS5_, HS6_, HS7_, HS8_, HS9_, HS10_, HS11_⟩ (fun hHeld => ?_)
                  clear hK K
                  refine norm_ (a' := ?_) ?_ ?_
                  rotate_left
                  ·show Act.put _ (some 81) _ = _
                   simp only [Act.put, List.setIfInBounds_toArray, List.set_cons_zero, List.set_cons_succ, i64_w, i32_w]
                   rfl
                  refine zqp (i := 9) (N := some 82) (v := ?_) (a' := ?_) #[true, true, true, true, true, true, true, true, true, true, false, false, false, false, false, false, false, false, false, false, false] rfl rfl (any_of HT_.out (by kernel_rfl)) (fun _ _ _ h => h) (Or.inl ⟨by rfl, ?_⟩) ?_ ?_
                  rotate_left
                  ·intro w'
                   go_simp
                   with_reducible rfl
                  rotate_left
                  ·simp only [Act.put, List.setIfInBounds_toArray, List.set_cons_zero, List.set_cons_succ, i64_w, i32_w]
                   rfl
                  refine zqp (i := 10) (N := some 83) (v := ?_) (a' := ?_) #[true, true, true, true, true, true, true, true, true, true, true, false, false, false, false, false, false, false, false, false, false] rfl rfl (any_of HT_.out (by kernel_rfl)) (fun _ _ _ h => h) (Or.inl ⟨by rfl, ?_⟩) ?_ ?_
                  rotate_left
                  ·intro w'
                   go_simp
                   with_reducible rfl
                  rotate_left
                  ·simp only [Act.put, List.setIfInBounds_toArray, List.set_cons_zero, List.set_cons_succ, i64_w, i32_w]
                   rfl
                  refine zqp (i := 11) (N := some 84) (v := ?_) (a' := ?_) #[true, true, true, true, true, true, true, true, true, true, true, true, false, false, false, false, false, false, false, false, false] rfl rfl (any_of HT_.out (by kernel_rfl)) (fun _ _ _ h => h) (Or.inl ⟨by rfl, ?_⟩) ?_ ?_
                  rotate_left
                  ·intro w'
                   go_simp
                   with_reducible rfl
                  rotate_left
                  ·simp only [Act.put, List.setIfInBounds_toArray, List.set_cons_zero, List.set_cons_succ, i64_w, i32_w]
                   rfl
                  refine zqp (i := 12) (N := some 85) (v := ?_) (a' := ?_) #[true, true, true, true, true, true, true, true, true, true, true, true, true, false, false, false, false, false, false, false, false] rfl rfl (any_of HT_.out (by kernel_rfl)) (fun _ _ _ h => h) (Or.inl ⟨by rfl, ?_⟩) ?_ ?_
                  rotate_left
                  ·intro w'
                   go_simp
                   with_reducible rfl
                  rotate_left
                  ·simp only [Act.put, List.setIfInBounds_toArray, List.set_cons_zero, List.set_cons_succ, i64_w, i32_w]
                   rfl
                  refine zqp (i := 14) (N := some 87) (v := ?_) (a' := ?_) #[true, true, true, true, true, true, true, true, true, true, true, true, true, false, true, false, false, false, false, false, false] rfl rfl (any_of HT_.out (by kernel_rfl)) (fun _ _ _ h => h) (Or.inl ⟨by rfl, ?_⟩) ?_ ?_
                  rotate_left
                  ·intro w'
                   go_simp
                   with_reducible rfl
                  rotate_left
                  ·simp only [Act.put, List.setIfInBounds_toArray, List.set_cons_zero, List.set_cons_succ, i64_w, i32_w]
                   rfl
                  refine zqp (i := 15) (N := some 88) (v := ?_) (a' := ?_) #[true, true, true, true, true, true, true, true, true, true, true, true, true, false, true, true, false, false, false, false, false] rfl rfl (any_of HT_.out (by kernel_rfl)) (fun _ _ _ h => h) (Or.inl ⟨by rfl, ?_⟩) ?_ ?_
                  rotate_left
                  ·intro w'
                   go_simp
                   with_reducible rfl
                  rotate_left
                  ·simp only [Act.put, List.setIfInBounds_toArray, List.set_cons_zero, List.set_cons_succ, i64_w, i32_w]
                   rfl
                  refine zqp (i := 16) (N := some 89) (v := ?_) (a' := ?_) #[true, true, true, true, true, true, true, true, true, true, true, true, true, false, true, true, true, false, false, false, false] rfl rfl (any_of HT_.out (by kernel_rfl)) (fun _ _ _ h => h) (Or.inl ⟨by rfl, ?_⟩) ?_ ?_
                  rotate_left
                  ·intro w'
                   go_simp
                   with_reducible rfl
                  rotate_left
                  ·simp only [Act.put, List.setIfInBounds_toArray, List.set_cons_zero, List.set_cons_succ, i64_w, i32_w]
                   rfl
                  refine zqt (i := 13) (N := some 86) (v := ?_) (a' := ?_) #[true, true, true, true, true, true, true, true, true, true, true, true, true, true, true, true, true, false, false, false, false] rfl rfl (take_ofW HT_.out HW_.out (by kernel_rfl)) (fun _ _ _ h => h) (Or.inl ⟨by rfl, ?_⟩) hHeld ?_ ?_
                  rotate_left
                  ·rintro w' ⟨s0, s1, s2, s3, s4, s5, s6, s7, s8, s9, s10, s11⟩
                   go_simp
                   with_reducible rfl
                  rotate_left
                  ·simp only [Act.put, List.setIfInBounds_toArray, List.set_cons_zero, List.set_cons_succ, i64_w, i32_w]
                   rfl
                  refine zqt (i := 17) (N := some 90) (v := ?_) (a' := ?_) #[true, true, true, true, true, true, true, true, true, true, true, true, true, true, true, true, true, true, false, false, false] rfl rfl (take_ofW HT_.out HW_.out (by kernel_rfl)) (fun _ _ _ h => h) (Or.inl ⟨by rfl, ?_⟩) hHeld ?_ ?_
                  rotate_left
                  ·rintro w' ⟨s0, s1, s2, s3, s4, s5, s6, s7, s8, s9, s10, s11⟩
                   go_simp
                   with_reducible rfl
                  rotate_left
                  ·simp only [Act.put, List.setIfInBounds_toArray, List.set_cons_zero, List.set_cons_succ, i64_w, i32_w]
                   rfl
                  refine one_ (i := 18) (N := some 91) #[true, true, true, true, true, true, true, true, true, true, true, true, true, true, true, true, true, true, true, false, false] rfl rfl (one_of HT_.out (by kernel_rfl)) (by decide) (fun K hK => ?_)
                  refine goes_ Try.func99 (by kernel_rfl) rfl #[.agg #[.int .i64 ((rd_T29 t447 x8_2).f0), .int .i64 ((rd_T29 t447 x8_2).f1), .slice A452_2 ((rd_T29 t447 x8_2).f2).length c452_2], .agg #[.int .i64 ((rd_T29 t447 x9_3).f0), .int .i64 ((rd_T29 t447 x9_3).f1), .slice A453_2 ((rd_T29 t447 x9_3).f2).length c453_2]] (by rfl) rfl rfl (by (try simp only [List.map_toArray, List.map_cons, List.map_nil]); first | done | rfl | (simp only [List.length_drop, List.length_take]; rfl)) ?_
                  with_reducible refine (spec_l2Same.calls k3 ((rd_T29 t447 x8_2).f0) ((rd_T29 t447 x8_2).f1) _ _ ((rd_T29 t447 x8_2).f2) ((rd_T29 t447 x9_3).f0) ((rd_T29 t447 x9_3).f1) _ _ ((rd_T29 t447 x9_3).f2) true _ ?side1 ?side2 ?side3 ?side4 A37.out).mono ?_
                  (case side1 => repeat (first | exact (by repeat (first | (with_reducible exact HR452_2.out) | (with_reducible refine Kd.C_alloc ?_ _) | (with_reducible refine Kd.C_drewN ?_ _) | (with_reducible refine Kd.C_drew ?_) | exact HR452_2.out)) | (with_reducible refine Kd.C_alloc ?_ _) | (with_reducible refine Kd.C_drewN ?_ _) | (with_reducible refine Kd.C_drew ?_)))
                  (case side2 => exact HC452_2.out)
                  (case side3 => repeat (first | exact (by repeat (first | (with_reducible exact HR453_2.out) | (with_reducible refine Kd.C_alloc ?_ _) | (with_reducible refine Kd.C_drewN ?_ _) | (with_reducible refine Kd.C_drew ?_) | exact HR453_2.out)) | (with_reducible refine Kd.C_alloc ?_ _) | (with_reducible refine Kd.C_drewN ?_ _) | (with_reducible refine Kd.C_drew ?_)))
                  (case side4 => exact HC453_2.out)
                  rintro e w41 ⟨rfl, hb⟩
                  have HS0_ := (hb.cell (World.block_lt_of_cell? _ _ (hHeld.1))).trans (hHeld.1)
                  have HS1_ := (hb.cell (World.block_lt_of_cell? _ _ (hHeld.2.1))).trans (hHeld.2.1)
                  have HS2_ := (hb.cell (World.block_lt_of_cell? _ _ (hHeld.2.2.1))).trans (hHeld.2.2.1)
                  have HS3_ := (hb.cell (World.block_lt_of_cell? _ _ (hHeld.2.2.2.1))).trans (hHeld.2.2.2.1)
                  have HS4_ := (hb.cell (World.block_lt_of_cell? _ _ (hHeld.2.2.2.2.1))).trans (hHeld.2.2.2.2.1)
                  have HS5_ := (hb.cell (World.block_lt_of_cell? _ _ (hHeld.2.2.2.2.2.1))).trans (hHeld.2.2.2.2.2.1)
                  have HS6_ := (hb.cell (World.block_lt_of_cell? _ _ (hHeld.2.2.2.2.2.2.1))).trans (hHeld.2.2.2.2.2.2.1)
                  have HS7_ := (hb.cell (World.block_lt_of_cell? _ _ (hHeld.2.2.2.2.2.2.2.1))).trans (hHeld.2.2.2.2.2.2.2.1)
                  have HS8_ := (hb.cell (World.block_lt_of_cell? _ _ (hHeld.2.2.2.2.2.2.2.2.1))).trans (hHeld.2.2.2.2.2.2.2.2.1)
                  have HS9_ := (hb.cell (World.block_lt_of_cell? _ _ (hHeld.2.2.2.2.2.2.2.2.2.1))).trans (hHeld.2.2.2.2.2.2.2.2.2.1)
                  have HS10_ := (hb.cell (World.block_lt_of_cell? _ _ (hHeld.2.2.2.2.2.2.2.2.2.2.1))).trans (hHeld.2.2.2.2.2.2.2.2.2.2.1)
                  have HS11_ := (hb.cell (World.block_lt_of_cell? _ _ (hHeld.2.2.2.2.2.2.2.2.2.2.2))).trans (hHeld.2.2.2.2.2.2.2.2.2.2.2)
                  refine ⟨_, rfl, ?_⟩
                  have n0_ := Az.mk (Kd.N_below (by (with_reducible repeat (first | apply Kd.N_alloc | apply Kd.N_drewN | apply Kd.N_drew)); exact HO_7.out) hb)
                  have n1_ := Az.mk (Kd.V_below (by (with_reducible repeat (first | apply Kd.V_alloc | apply Kd.V_drewN | apply Kd.V_drew)); exact HL452_2.out) hb)
                  have n2_ := Az.mk (Kd.V_below (by (with_reducible repeat (first | apply Kd.V_alloc | apply Kd.V_drewN | apply Kd.V_drew)); exact HL453_2.out) hb)
                  have n3_ := Az.mk (Kd.V_below (by (with_reducible repeat (first | apply Kd.V_alloc | apply Kd.V_drewN | apply Kd.V_drew)); exact HL455_2.out) hb)
                  have n4_ := Az.mk (Kd.V_below (by (with_reducible repeat (first | apply Kd.V_alloc | apply Kd.V_drewN | apply Kd.V_drew)); exact HL456_2.out) hb)
                  have n5_ := Az.mk (blk_below (g := gb441) (o := .cells #[.int .i64 a1_0, .slice A1_1 l1_1.length c1_1] 57 (0, 0)) (by (with_reducible repeat (first | refine zq6 ?_ _ | refine zq8 ?_ | refine zq7 ?_ _)); exact BK441.out) hb)
                  have n6_ := Az.mk (Kd.C_below (by repeat (first | (with_reducible exact HR450_2.out) | (with_reducible refine Kd.C_alloc ?_ _) | (with_reducible refine Kd.C_drewN ?_ _) | (with_reducible refine Kd.C_drew ?_) | exact HR450_2.out)) hb)
                  have n7_ := Az.mk (Kd.C_below (by repeat (first | (with_reducible exact HR452_2.out) | (with_reducible refine Kd.C_alloc ?_ _) | (with_reducible refine Kd.C_drewN ?_ _) | (with_reducible refine Kd.C_drew ?_) | exact HR452_2.out)) hb)
                  have n8_ := Az.mk (Kd.C_below (by repeat (first | (with_reducible exact HR453_2.out) | (with_reducible refine Kd.C_alloc ?_ _) | (with_reducible refine Kd.C_drewN ?_ _) | (with_reducible refine Kd.C_drew ?_) | exact HR453_2.out)) hb)
                  have n9_ := Az.mk (Kd.C_below (by repeat (first | (with_reducible exact HR455_2.out) | (with_reducible refine Kd.C_alloc ?_ _) | (with_reducible refine Kd.C_drewN ?_ _) | (with_reducible refine Kd.C_drew ?_) | exact HR455_2.out)) hb)
                  have n10_ := Az.mk (Kd.C_below (by repeat (first | (with_reducible exact HR456_2.out) | (with_reducible refine Kd.C_alloc ?_ _) | (with_reducible refine Kd.C_drewN ?_ _) | (with_reducible refine Kd.C_drew ?_) | exact HR456_2.out)) hb)
                  have n11_ := Az.mk (below_step (by repeat (first | (with_reducible first | exact HB.out | apply zq2 | apply zq1 | apply zqd | refine zq3 ?_ GE441.out) | exact HB.out)) hb)
                  clear HO_7
                  clear HL452_2
                  clear HL453_2
                  clear HL455_2
                  clear HL456_2
                  clear BK441
                  clear HR450_2
                  clear HR452_2
                  clear HR453_2
                  clear HR455_2
                  clear HR456_2
                  clear HB
                  have HO_7 := n0_
                  have HL452_2 := n1_
                  have HL453_2 := n2_
                  have HL455_2 := n3_
                  have HL456_2 := n4_
                  have BK441 := n5_
                  have HR450_2 := n6_
                  have HR452_2 := n7_
                  have HR453_2 := n8_
                  have HR455_2 := n9_
                  have HR456_2 := n10_
                  have HB := n11_
                  clear n0_ n1_ n2_ n3_ n4_ n5_ n6_ n7_ n8_ n9_ n10_ n11_
                  (try clear hb)
                  (try clear hb2)
                  (try clear hk)
                  (try clear hi)
                  refine hK.out _ _ ⟨HS0_, HS1_, HS2_, HS3_, HS4_, HS5_, HS6_, HS7_, HS8_, HS9_, HS10_, HS11_⟩ (fun hHeld => ?_)
                  clear hK K
                  refine norm_ (a' := ?_) ?_ ?_
                  rotate_left
                  ·show Act.put _ (some 91) _ = _
                   simp only [Act.put, List.setIfInBounds_toArray, List.set_cons_zero, List.set_cons_succ, i64_w, i32_w]
                   rfl
                  refine zqp (i := 19) (N := some 92) (v := ?_) (a' := ?_) #[true, true, true, true, true, true, true, true, true, true, true, true, true, true, true, true, true, true, true, true, false] rfl rfl (any_of HT_.out (by kernel_rfl)) (fun _ _ _ h => h) (Or.inl ⟨by rfl, ?_⟩) ?_ ?_
                  rotate_left
                  ·intro w'
                   go_simp
                   with_reducible rfl
                  rotate_left
                  ·simp only [Act.put, List.setIfInBounds_toArray, List.set_cons_zero, List.set_cons_succ, i64_w, i32_w]
                   rfl
                  refine zqp (i := 20) (N := some 93) (v := ?_) (a' := ?_) #[true, true, true, true, true, true, true, true, true, true, true, true, true, true, true, true, true, true, true, true, true] rfl rfl (any_of HT_.out (by kernel_rfl)) (fun _ _ _ h => h) (Or.inl ⟨by rfl, ?_⟩) ?_ ?_
                  rotate_left
                  ·intro w'
                   go_simp
                   with_reducible rfl
                  rotate_left
                  ·simp only [Act.put, List.setIfInBounds_toArray, List.set_cons_zero, List.set_cons_succ, i64_w, i32_w]
                   rfl
                  refine done_ (done_of HT_.out (by kernel_rfl)) ?_
                  try go_wp2
                  go_roundg k3
                  case measure => have := HK1.out; have := HK2.out; have := HK3.out; omega
                  case rel => exact ⟨(wrap64 (x9_3 + 1)), (by first | rfl | (simp; done) | (simp [*]; done)), H', ⟨by have := HK1.out; have := HK2.out; have := HK3.out; omega⟩, ⟨by (with_reducible repeat (first | apply Kd.N_alloc | apply Kd.N_drewN | apply Kd.N_drew)); exact HO_7.out⟩, ⟨by (with_reducible repeat (first | refine zq6 ?_ _ | refine zq8 ?_ | refine zq7 ?_ _)); exact BK441.out⟩, ⟨by repeat (first | (with_reducible exact HR450_2.out) | (with_reducible refine Kd.C_alloc ?_ _) | (with_reducible refine Kd.C_drewN ?_ _) | (with_reducible refine Kd.C_drew ?_) | exact HR450_2.out)⟩, ⟨by repeat (first | (with_reducible first | exact HB.out | apply zq2 | apply zq1 | apply zqd | refine zq3 ?_ GE441.out) | exact HB.out)⟩⟩
                 ·replace c38 := Bool.eq_false_iff.mpr c38
                  subst c38
                  have H1 : (some false) = some r := by rw [if_neg (show ¬ (false = true) by decide)] at H; exact H
                  clear H
                  have H := H1
                  clear H1
                  obtain rfl := Option.some.inj H
                  try go_wp2
                  have n0_ := Az.mk (Kd.N_drew HO_7.out)
                  have n1_ := Az.mk (zq8 BK441.out)
                  have n2_ := Az.mk (Kd.C_drew HR450_2.out)
                  have n3_ := Az.mk (zqd HB.out)
                  clear HO_7
                  clear BK441
                  clear HR450_2
                  clear HB
                  have HO_7 := n0_
                  have BK441 := n1_
                  have HR450_2 := n2_
                  have HB := n3_
                  clear n0_ n1_ n2_ n3_
                  have p452 : 0 ≤ (x8_2 : Int) := of_decide_eq_true (by first | (with_reducible assumption) | assumption)
                  have q452 : x8_2 < (t447.length : Int) := of_decide_eq_true (by first | (with_reducible assumption) | assumption)
                  obtain ⟨ad452, A452_2, c452_2, e452, hx452_0, hx452_1, hx452_2, hl452_2, hi452_2⟩ := at_T29 (Kd.N_reads' HO_7.out).2.2 x8_2 p452 q452
                  obtain rfl : ad450 = ad452 := (by injection e452)
                  obtain ⟨ce452, hce452, hMe452, hcc452⟩ := Kd.N_get HO_7.out z29 x8_2 p452 (by first | exact q452 | exact of_decide_eq_true (by first | (with_reducible assumption) | assumption) | (have e_ := (Kd.N_reads' HO_7.out).1; omega))
                  obtain ⟨ua452_2, uc452_2, rfl, ul452_2, ge452_2⟩ := k29_openF hMe452
                  have hv452_2 := hcc452 2 _ rfl
                  rw [add_field _ _ 2 (by omega)] at hv452_2
                  replace hv452_2 := Option.some.inj (hv452_2.symm.trans hx452_2)
                  injection hv452_2 with hva_ hvn_ hvc_
                  rw [hva_] at ge452_2
                  rw [hvc_] at ul452_2
                  have HL452_2 := Az.mk (show Kd.V k37 37 _ w.heap.size _ _ ((rd_T29 t447 x8_2).f2) from Kd.V_mk ul452_2 ge452_2)
                  clear hva_ hvn_ hvc_ ge452_2 ul452_2
                  clear hcc452 hce452
                  have HR452_2 := Az.mk hi452_2
                  have HC452_2 := Az.mk hl452_2
                  clear hi452_2 hl452_2
                  replace p452 := eq_true p452
                  replace q452 := eq_true q452
                  have p453 : 0 ≤ (x9_3 : Int) := of_decide_eq_true (by first | (with_reducible assumption) | assumption)
                  have q453 : x9_3 < (t447.length : Int) := of_decide_eq_true (by first | (with_reducible assumption) | assumption)
                  obtain ⟨ad453, A453_2, c453_2, e453, hx453_0, hx453_1, hx453_2, hl453_2, hi453_2⟩ := at_T29 (Kd.N_reads' HO_7.out).2.2 x9_3 p453 q453
                  obtain rfl : ad450 = ad453 := (by injection e453)
                  obtain ⟨ce453, hce453, hMe453, hcc453⟩ := Kd.N_get HO_7.out z29 x9_3 p453 (by first | exact q453 | exact of_decide_eq_true (by first | (with_reducible assumption) | assumption) | (have e_ := (Kd.N_reads' HO_7.out).1; omega))
                  obtain ⟨ua453_2, uc453_2, rfl, ul453_2, ge453_2⟩ := k29_openF hMe453
                  have hv453_2 := hcc453 2 _ rfl
                  rw [add_field _ _ 2 (by omega)] at hv453_2
                  replace hv453_2 := Option.some.inj (hv453_2.symm.trans hx453_2)
                  injection hv453_2 with hva_ hvn_ hvc_
                  rw [hva_] at ge453_2
                  rw [hvc_] at ul453_2
                  have HL453_2 := Az.mk (show Kd.V k37 37 _ w.heap.size _ _ ((rd_T29 t447 x9_3).f2) from Kd.V_mk ul453_2 ge453_2)
                  clear hva_ hvn_ hvc_ ge453_2 ul453_2
                  clear hcc453 hce453
                  have HR453_2 := Az.mk hi453_2
                  have HC453_2 := Az.mk hl453_2
                  clear hi453_2 hl453_2
                  replace p453 := eq_true p453
                  replace q453 := eq_true q453
                  have p455 : 0 ≤ (x8_2 : Int) := of_decide_eq_true (by first | (with_reducible assumption) | assumption)
                  have q455 : x8_2 < (t447.length : Int) := of_decide_eq_true (by first | (with_reducible assumption) | assumption)
                  obtain ⟨ad455, A455_2, c455_2, e455, hx455_0, hx455_1, hx455_2, hl455_2, hi455_2⟩ := at_T29 (Kd.N_reads' HO_7.out).2.2 x8_2 p455 q455
                  obtain rfl : ad450 = ad455 := (by injection e455)
                  obtain ⟨ce455, hce455, hMe455, hcc455⟩ := Kd.N_get HO_7.out z29 x8_2 p455 (by first | exact q455 | exact of_decide_eq_true (by first | (with_reducible assumption) | assumption) | (have e_ := (Kd.N_reads' HO_7.out).1; omega))
                  obtain ⟨ua455_2, uc455_2, rfl, ul455_2, ge455_2⟩ := k29_openF hMe455
                  have hv455_2 := hcc455 2 _ rfl
                  rw [add_field _ _ 2 (by omega)] at hv455_2
                  replace hv455_2 := Option.some.inj (hv455_2.symm.trans hx455_2)
                  injection hv455_2 with hva_ hvn_ hvc_
                  rw [hva_] at ge455_2
                  rw [hvc_] at ul455_2
                  have HL455_2 := Az.mk (show Kd.V k37 37 _ w.heap.size _ _ ((rd_T29 t447 x8_2).f2) from Kd.V_mk ul455_2 ge455_2)
                  clear hva_ hvn_ hvc_ ge455_2 ul455_2
                  clear hcc455 hce455
                  have HR455_2 := Az.mk hi455_2
                  have HC455_2 := Az.mk hl455_2
                  clear hi455_2 hl455_2
                  replace p455 := eq_true p455
                  replace q455 := eq_true q455
                  have p456 : 0 ≤ (x9_3 : Int) := of_decide_eq_true (by first | (with_reducible assumption) | assumption)
                  have q456 : x9_3 < (t447.length : Int) := of_decide_eq_true (by first | (with_reducible assumption) | assumption)
                  obtain ⟨ad456, A456_2, c456_2, e456, hx456_0, hx456_1, hx456_2, hl456_2, hi456_2⟩ := at_T29 (Kd.N_reads' HO_7.out).2.2 x9_3 p456 q456
                  obtain rfl : ad450 = ad456 := (by injection e456)
                  obtain ⟨ce456, hce456, hMe456, hcc456⟩ := Kd.N_get HO_7.out z29 x9_3 p456 (by first | exact q456 | exact of_decide_eq_true (by first | (with_reducible assumption) | assumption) | (have e_ := (Kd.N_reads' HO_7.out).1; omega))
                  obtain ⟨ua456_2, uc456_2, rfl, ul456_2, ge456_2⟩ := k29_openF hMe456
                  have hv456_2 := hcc456 2 _ rfl
                  rw [add_field _ _ 2 (by omega)] at hv456_2
                  replace hv456_2 := Option.some.inj (hv456_2.symm.trans hx456_2)
                  injection hv456_2 with hva_ hvn_ hvc_
                  rw [hva_] at ge456_2
                  rw [hvc_] at ul456_2
                  have HL456_2 := Az.mk (show Kd.V k37 37 _ w.heap.size _ _ ((rd_T29 t447 x9_3).f2) from Kd.V_mk ul456_2 ge456_2)
                  clear hva_ hvn_ hvc_ ge456_2 ul456_2
                  clear hcc456 hce456
                  have HR456_2 := Az.mk hi456_2
                  have HC456_2 := Az.mk hl456_2
                  clear hi456_2 hl456_2
                  replace p456 := eq_true p456
                  replace q456 := eq_true q456
                  refine start_ (n := 21) (S := fun w' => w'.cell? (ad450.add ((x8_2).toNat * 3)) = some (.int .i64 ((rd_T29 t447 x8_2).f0)) ∧ w'.cell? ⟨(ad450.add ((x8_2).toNat * 3)).block, (ad450.add ((x8_2).toNat * 3)).off + 1, none⟩ = some (.int .i64 ((rd_T29 t447 x8_2).f1)) ∧ w'.cell? ⟨(ad450.add ((x8_2).toNat * 3)).block, (ad450.add ((x8_2).toNat * 3)).off + 2, none⟩ = some (.slice A452_2 ((rd_T29 t447 x8_2).f2).length c452_2) ∧ w'.cell? (ad450.add ((x9_3).toNat * 3)) = some (.int .i64 ((rd_T29 t447 x9_3).f0)) ∧ w'.cell? ⟨(ad450.add ((x9_3).toNat * 3)).block, (ad450.add ((x9_3).toNat * 3)).off + 1, none⟩ = some (.int .i64 ((rd_T29 t447 x9_3).f1)) ∧ w'.cell? ⟨(ad450.add ((x9_3).toNat * 3)).block, (ad450.add ((x9_3).toNat * 3)).off + 2, none⟩ = some (.slice A453_2 ((rd_T29 t447 x9_3).f2).length c453_2) ∧ w'.cell? (ad450.add ((x8_2).toNat * 3)) = some (.int .i64 ((rd_T29 t447 x8_2).f0)) ∧ w'.cell? ⟨(ad450.add ((x8_2).toNat * 3)).block, (ad450.add ((x8_2).toNat * 3)).off + 1, none⟩ = some (.int .i64 ((rd_T29 t447 x8_2).f1)) ∧ w'.cell? ⟨(ad450.add ((x8_2).toNat * 3)).block, (ad450.add ((x8_2).toNat * 3)).off + 2, none⟩ = some (.slice A455_2 ((rd_T29 t447 x8_2).f2).length c455_2) ∧ w'.cell? (ad450.add ((x9_3).toNat * 3)) = some (.int .i64 ((rd_T29 t447 x9_3).f0)) ∧ w'.cell? ⟨(ad450.add ((x9_3).toNat * 3)).block, (ad450.add ((x9_3).toNat * 3)).off + 1, none⟩ = some (.int .i64 ((rd_T29 t447 x9_3).f1)) ∧ w'.cell? ⟨(ad450.add ((x9_3).toNat * 3)).block, (ad450.add ((x9_3).toNat * 3)).off + 2, none⟩ = some (.slice A456_2 ((rd_T29 t447 x9_3).f2).length c456_2)) (ds := []) #[false, false, false, false, false, false, false, false, false, false, false, false, false, false, false, false, false, false, false, false, false] (by kernel_rfl) rfl rfl ⟨hx452_0, hx452_1, hx452_2, hx453_0, hx453_1, hx453_2, hx455_0, hx455_1, hx455_2, hx456_0, hx456_1, hx456_2⟩ (fun hHeld => ?_); refine with_tabW spec_l2Vols.tab20 spec_l2Vols.bits20 (fun HT_ HW_ => ?_)
                  generalize wr.drew = w42 at HO_7 BK441 HR450_2 HB HL452_2 HL453_2 HL455_2 HL456_2 HR452_2 HR453_2 HR455_2 HR456_2 hx452_0 hx452_1 hx452_2 hx453_0 hx453_1 hx453_2 hx455_0 hx455_1 hx455_2 hx456_0 hx456_1 hx456_2 hHeld ⊢
                  refine zqp (i := 0) (N := some 73) (v := ?_) (a' := ?_) #[true, false, false, false, false, false, false, false, false, false, false, false, false, false, false, false, false, false, false, false, false] rfl rfl (any_of HT_.out (by kernel_rfl)) (fun _ _ _ h => h) (Or.inl ⟨by rfl, ?_⟩) ?_ ?_
                  rotate_left
                  ·intro w'
                   go_simp
                   with_reducible rfl
                  rotate_left
                  ·simp only [Act.put, List.setIfInBounds_toArray, List.set_cons_zero, List.set_cons_succ, i64_w, i32_w]
                   rfl
                  refine zqp (i := 1) (N := some 74) (v := ?_) (a' := ?_) #[true, true, false, false, false, false, false, false, false, false, false, false, false, false, false, false, false, false, false, false, false] rfl rfl (any_of HT_.out (by kernel_rfl)) (fun _ _ _ h => h) (Or.inl ⟨by rfl, ?_⟩) ?_ ?_
                  rotate_left
                  ·intro w'
                   go_simp
                   with_reducible rfl
                  rotate_left
                  ·simp only [Act.put, List.setIfInBounds_toArray, List.set_cons_zero, List.set_cons_succ, i64_w, i32_w]
                   rfl
                  refine zqp (i := 2) (N := some 75) (v := ?_) (a' := ?_) #[true, true, true, false, false, false, false, false, false, false, false, false, false, false, false, false, false, false, false, false, false] rfl rfl (any_of HT_.out (by kernel_rfl)) (fun _ _ _ h => h) (Or.inl ⟨by rfl, ?_⟩) ?_ ?_
                  rotate_left
                  ·intro w'
                   go_simp
                   with_reducible rfl
                  rotate_left
                  ·simp only [Act.put, List.setIfInBounds_toArray, List.set_cons_zero, List.set_cons_succ, i64_w, i32_w]
                   rfl
                  refine zqp (i := 4) (N := some 77) (v := ?_) (a' := ?_) #[true, true, true, false, true, false, false, false, false, false, false, false, false, false, false, false, false, false, false, false, false] rfl rfl (any_of HT_.out (by kernel_rfl)) (fun _ _ _ h => h) (Or.inl ⟨by rfl, ?_⟩) ?_ ?_
                  rotate_left
                  ·intro w'
                   go_simp
                   with_reducible rfl
                  rotate_left
                  ·simp only [Act.put, List.setIfInBounds_toArray, List.set_cons_zero, List.set_cons_succ, i64_w, i32_w]
                   rfl
                  refine zqp (i := 5) (N := some 78) (v := ?_) (a' := ?_) #[true, true, true, false, true, true, false, false, false, false, false, false, false, false, false, false, false, false, false, false, false] rfl rfl (any_of HT_.out (by kernel_rfl)) (fun _ _ _ h => h) (Or.inl ⟨by rfl, ?_⟩) ?_ ?_
                  rotate_left
                  ·intro w'
                   go_simp
                   with_reducible rfl
                  rotate_left
                  ·simp only [Act.put, List.setIfInBounds_toArray, List.set_cons_zero, List.set_cons_succ, i64_w, i32_w]
                   rfl
                  refine zqp (i := 6) (N := some 79) (v := ?_) (a' := ?_) #[true, true, true, false, true, true, true, false, false, false, false, false, false, false, false, false, false, false, false, false, false] rfl rfl (any_of HT_.out (by kernel_rfl)) (fun _ _ _ h => h) (Or.inl ⟨by rfl, ?_⟩) ?_ ?_
                  rotate_left
                  ·intro w'
                   go_simp
                   with_reducible rfl
                  rotate_left
                  ·simp only [Act.put, List.setIfInBounds_toArray, List.set_cons_zero, List.set_cons_succ, i64_w, i32_w]
                   rfl
                  refine zqt (i := 3) (N := some 76) (v := ?_) (a' := ?_) #[true, true, true, true, true, true, true, false, false, false, false, false, false, false, false, false, false, false, false, false, false] rfl rfl (take_ofW HT_.out HW_.out (by kernel_rfl)) (fun _ _ _ h => h) (Or.inl ⟨by rfl, ?_⟩) hHeld ?_ ?_
                  rotate_left
                  ·rintro w' ⟨s0, s1, s2, s3, s4, s5, s6, s7, s8, s9, s10, s11⟩
                   go_simp
                   with_reducible rfl
                  rotate_left
                  ·simp only [Act.put, List.setIfInBounds_toArray, List.set_cons_zero, List.set_cons_succ, i64_w, i32_w]
                   rfl
                  refine zqt (i := 7) (N := some 80) (v := ?_) (a' := ?_) #[true, true, true, true, true, true, true, true, false, false, false, false, false, false, false, false, false, false, false, false, false] rfl rfl (take_ofW HT_.out HW_.out (by kernel_rfl)) (fun _ _ _ h => h) (Or.inl ⟨by rfl, ?_⟩) hHeld ?_ ?_
                  rotate_left
                  ·rintro w' ⟨s0, s1, s2, s3, s4, s5, s6, s7, s8, s9, s10, s11⟩
                   go_simp
                   with_reducible rfl
                  rotate_left
                  ·simp only [Act.put, List.setIfInBounds_toArray, List.set_cons_zero, List.set_cons_succ, i64_w, i32_w]
                   rfl
                  refine one_ (i := 8) (N := some 81) #[true, true, true, true, true, true, true, true, true, false, false, false, false, false, false, false, false, false, false, false, false] rfl rfl (one_of HT_.out (by kernel_rfl)) (by decide) (fun K hK => ?_)
                  refine goes_ Try.func87 (by kernel_rfl) rfl #[.agg #[.int .i64 ((rd_T29 t447 x8_2).f0), .int .i64 ((rd_T29 t447 x8_2).f1), .slice A452_2 ((rd_T29 t447 x8_2).f2).length c452_2], .agg #[.int .i64 ((rd_T29 t447 x9_3).f0), .int .i64 ((rd_T29 t447 x9_3).f1), .slice A453_2 ((rd_T29 t447 x9_3).f2).length c453_2]] (by rfl) rfl rfl (by (try simp only [List.map_toArray, List.map_cons, List.map_nil]); first | done | rfl | (simp only [List.length_drop, List.length_take]; rfl)) ?_
                  with_reducible refine (spec_l2Meet.calls k3 ((rd_T29 t447 x8_2).f0) ((rd_T29 t447 x8_2).f1) _ _ ((rd_T29 t447 x8_2).f2) ((rd_T29 t447 x9_3).f0) ((rd_T29 t447 x9_3).f1) _ _ ((rd_T29 t447 x9_3).f2) true _ ?side1 ?side2 ?side3 ?side4 A35.out).mono ?_
                  (case side1 => repeat (first | exact (by repeat (first | (with_reducible exact HR452_2.out) | (with_reducible refine Kd.C_alloc ?_ _) | (with_reducible refine Kd.C_drewN ?_ _) | (with_reducible refine Kd.C_drew ?_) | exact HR452_2.out)) | (with_reducible refine Kd.C_alloc ?_ _) | (with_reducible refine Kd.C_drewN ?_ _) | (with_reducible refine Kd.C_drew ?_)))
                  (case side2 => exact HC452_2.out)
                  (case side3 => repeat (first | exact (by repeat (first | (with_reducible exact HR453_2.out) | (with_reducible refine Kd.C_alloc ?_ _) | (with_reducible refine Kd.C_drewN ?_ _) | (with_reducible refine Kd.C_drew ?_) | exact HR453_2.out)) | (with_reducible refine Kd.C_alloc ?_ _) | (with_reducible refine Kd.C_drewN ?_ _) | (with_reducible refine Kd.C_drew ?_)))
                  (case side4 => exact HC453_2.out)
                  rintro e w43 ⟨rfl, hb⟩
                  have HS0_ := (hb.cell (World.block_lt_of_cell? _ _ (hHeld.1))).trans (hHeld.1)
                  have HS1_ := (hb.cell (World.block_lt_of_cell? _ _ (hHeld.2.1))).trans (hHeld.2.1)
                  have HS2_ := (hb.cell (World.block_lt_of_cell? _ _ (hHeld.2.2.1))).trans (hHeld.2.2.1)
                  have HS3_ := (hb.cell (World.block_lt_of_cell? _ _ (hHeld.2.2.2.1))).trans (hHeld.2.2.2.1)
                  have HS4_ := (hb.cell (World.block_lt_of_cell? _ _ (hHeld.2.2.2.2.1))).trans (hHeld.2.2.2.2.1)
                  have HS5_ := (hb.cell (World.block_lt_of_cell? _ _ (hHeld.2.2.2.2.2.1))).trans (hHeld.2.2.2.2.2.1)
                  have HS6_ := (hb.cell (World.block_lt_of_cell? _ _ (hHeld.2.2.2.2.2.2.1))).trans (hHeld.2.2.2.2.2.2.1)
                  have HS7_ := (hb.cell (World.block_lt_of_cell? _ _ (hHeld.2.2.2.2.2.2.2.1))).trans (hHeld.2.2.2.2.2.2.2.1)
                  have HS8_ := (hb.cell (World.block_lt_of_cell? _ _ (hHeld.2.2.2.2.2.2.2.2.1))).trans (hHeld.2.2.2.2.2.2.2.2.1)
                  have HS9_ := (hb.cell (World.block_lt_of_cell? _ _ (hHeld.2.2.2.2.2.2.2.2.2.1))).trans (hHeld.2.2.2.2.2.2.2.2.2.1)
                  have HS10_ := (hb.cell (World.block_lt_of_cell? _ _ (hHeld.2.2.2.2.2.2.2.2.2.2.1))).trans (hHeld.2.2.2.2.2.2.2.2.2.2.1)
                  have HS11_ := (hb.cell (World.block_lt_of_cell? _ _ (hHeld.2.2.2.2.2.2.2.2.2.2.2))).trans (hHeld.2.2.2.2.2.2.2.2.2.2.2)
                  refine ⟨_, rfl, ?_⟩
                  have m_ := Az.mk (Kd.C_below (by (with_reducible repeat (first | refine Kd.C_alloc ?_ _ | refine Kd.C_drewN ?_ _ | refine Kd.C_drew ?_)); exact HR455_2.out) hb); clear HR455_2; have HR455_2 := m_; clear m_
                  have m_ := Az.mk (Kd.V_below (by (with_reducible repeat (first | apply Kd.V_alloc | apply Kd.V_drewN | apply Kd.V_drew)); exact HL455_2.out) hb); clear HL455_2; have HL455_2 := m_; clear m_
                  have m_ := Az.mk (Kd.C_below (by (with_reducible repeat (first | refine Kd.C_alloc ?_ _ | refine Kd.C_drewN ?_ _ | refine Kd.C_drew ?_)); exact HR456_2.out) hb); clear HR456_2; have HR456_2 := m_; clear m_
                  have m_ := Az.mk (Kd.V_below (by (with_reducible repeat (first | apply Kd.V_alloc | apply Kd.V_drewN | apply Kd.V_drew)); exact HL456_2.out) hb); clear HL456_2; have HL456_2 := m_; clear m_
                  have n0_ := Az.mk (Kd.N_below (by (with_reducible repeat (first | apply Kd.N_alloc | apply Kd.N_drewN | apply Kd.N_drew)); exact HO_7.out) hb)
                  have n1_ := Az.mk (Kd.V_below (by (with_reducible repeat (first | apply Kd.V_alloc | apply Kd.V_drewN | apply Kd.V_drew)); exact HL452_2.out) hb)
                  have n2_ := Az.mk (Kd.V_below (by (with_reducible repeat (first | apply Kd.V_alloc | apply Kd.V_drewN | apply Kd.V_drew)); exact HL453_2.out) hb)
                  have n3_ := Az.mk (blk_below (g := gb441) (o := .cells #[.int .i64 a1_0, .slice A1_1 l1_1.length c1_1] 57 (0, 0)) (by (with_reducible repeat (first | refine zq6 ?_ _ | refine zq8 ?_ | refine zq7 ?_ _)); exact BK441.out) hb)
                  have n4_ := Az.mk (Kd.C_below (by repeat (first | (with_reducible exact HR450_2.out) | (with_reducible refine Kd.C_alloc ?_ _) | (with_reducible refine Kd.C_drewN ?_ _) | (with_reducible refine Kd.C_drew ?_) | exact HR450_2.out)) hb)
                  have n5_ := Az.mk (Kd.C_below (by repeat (first | (with_reducible exact HR452_2.out) | (with_reducible refine Kd.C_alloc ?_ _) | (with_reducible refine Kd.C_drewN ?_ _) | (with_reducible refine Kd.C_drew ?_) | exact HR452_2.out)) hb)
                  have n6_ := Az.mk (Kd.C_below (by repeat (first | (with_reducible exact HR453_2.out) | (with_reducible refine Kd.C_alloc ?_ _) | (with_reducible refine Kd.C_drewN ?_ _) | (with_reducible refine Kd.C_drew ?_) | exact HR453_2.out)) hb)
                  have n7_ := Az.mk (below_step (by repeat (first | (with_reducible first | exact HB.out | apply zq2 | apply zq1 | apply zqd | refine zq3 ?_ GE441.out) | exact HB.out)) hb)
                  clear HO_7
                  clear HL452_2
                  clear HL453_2
                  clear BK441
                  clear HR450_2
                  clear HR452_2
                  clear HR453_2
                  clear HB
                  have HO_7 := n0_
                  have HL452_2 := n1_
                  have HL453_2 := n2_
                  have BK441 := n3_
                  have HR450_2 := n4_
                  have HR452_2 := n5_
                  have HR453_2 := n6_
                  have HB := n7_
                  clear n0_ n1_ n2_ n3_ n4_ n5_ n6_ n7_
                  (try clear hb)
                  (try clear hb2)
                  (try clear hk)
                  (try clear hi)
                  refine hK.out _ _ ⟨HS0_, HS1_, HS2_, HS3_, HS4_, HS5_, HS6_, HS7_, HS8_, HS9_, HS10_, HS11_⟩ (fun hHeld => ?_)
                  clear hK K
                  refine norm_ (a' := ?_) ?_ ?_
                  rotate_left
                  ·show Act.put _ (some 81) _ = _
                   simp only [Act.put, List.setIfInBounds_toArray, List.set_cons_zero, List.set_cons_succ, i64_w, i32_w]
                   rfl
                  refine zqp (i := 9) (N := some 82) (v := ?_) (a' := ?_) #[true, true, true, true, true, true, true, true, true, true, false, false, false, false, false, false, false, false, false, false, false] rfl rfl (any_of HT_.out (by kernel_rfl)) (fun _ _ _ h => h) (Or.inl ⟨by rfl, ?_⟩) ?_ ?_
                  rotate_left
                  ·intro w'
                   go_simp
                   with_reducible rfl
                  rotate_left
                  ·simp only [Act.put, List.setIfInBounds_toArray, List.set_cons_zero, List.set_cons_succ, i64_w, i32_w]
                   rfl
                  refine zqp (i := 10) (N := some 83) (v := ?_) (a' := ?_) #[true, true, true, true, true, true, true, true, true, true, true, false, false, false, false, false, false, false, false, false, false] rfl rfl (any_of HT_.out (by kernel_rfl)) (fun _ _ _ h => h) (Or.inl ⟨by rfl, ?_⟩) ?_ ?_
                  rotate_left
                  ·intro w'
                   go_simp
                   with_reducible rfl
                  rotate_left
                  ·simp only [Act.put, List.setIfInBounds_toArray, List.set_cons_zero, List.set_cons_succ, i64_w, i32_w]
                   rfl
                  refine zqp (i := 11) (N := some 84) (v := ?_) (a' := ?_) #[true, true, true, true, true, true, true, true, true, true, true, true, false, false, false, false, false, false, false, false, false] rfl rfl (any_of HT_.out (by kernel_rfl)) (fun _ _ _ h => h) (Or.inl ⟨by rfl, ?_⟩) ?_ ?_
                  rotate_left
                  ·intro w'
                   go_simp
                   with_reducible rfl
                  rotate_left
                  ·simp only [Act.put, List.setIfInBounds_toArray, List.set_cons_zero, List.set_cons_succ, i64_w, i32_w]
                   rfl
                  refine zqp (i := 12) (N := some 85) (v := ?_) (a' := ?_) #[true, true, true, true, true, true, true, true, true, true, true, true, true, false, false, false, false, false, false, false, false] rfl rfl (any_of HT_.out (by kernel_rfl)) (fun _ _ _ h => h) (Or.inl ⟨by rfl, ?_⟩) ?_ ?_
                  rotate_left
                  ·intro w'
                   go_simp
                   with_reducible rfl
                  rotate_left
                  ·simp only [Act.put, List.setIfInBounds_toArray, List.set_cons_zero, List.set_cons_succ, i64_w, i32_w]
                   rfl
                  refine zqp (i := 14) (N := some 87) (v := ?_) (a' := ?_) #[true, true, true, true, true, true, true, true, true, true, true, true, true, false, true, false, false, false, false, false, false] rfl rfl (any_of HT_.out (by kernel_rfl)) (fun _ _ _ h => h) (Or.inl ⟨by rfl, ?_⟩) ?_ ?_
                  rotate_left
                  ·intro w'
                   go_simp
                   with_reducible rfl
                  rotate_left
                  ·simp only [Act.put, List.setIfInBounds_toArray, List.set_cons_zero, List.set_cons_succ, i64_w, i32_w]
                   rfl
                  refine zqp (i := 15) (N := some 88) (v := ?_) (a' := ?_) #[true, true, true, true, true, true, true, true, true, true, true, true, true, false, true, true, false, false, false, false, false] rfl rfl (any_of HT_.out (by kernel_rfl)) (fun _ _ _ h => h) (Or.inl ⟨by rfl, ?_⟩) ?_ ?_
                  rotate_left
                  ·intro w'
                   go_simp
                   with_reducible rfl
                  rotate_left
                  ·simp only [Act.put, List.setIfInBounds_toArray, List.set_cons_zero, List.set_cons_succ, i64_w, i32_w]
                   rfl
                  refine zqp (i := 16) (N := some 89) (v := ?_) (a' := ?_) #[true, true, true, true, true, true, true, true, true, true, true, true, true, false, true, true, true, false, false, false, false] rfl rfl (any_of HT_.out (by kernel_rfl)) (fun _ _ _ h => h) (Or.inl ⟨by rfl, ?_⟩) ?_ ?_
                  rotate_left
                  ·intro w'
                   go_simp
                   with_reducible rfl
                  rotate_left
                  ·simp only [Act.put, List.setIfInBounds_toArray, List.set_cons_zero, List.set_cons_succ, i64_w, i32_w]
                   rfl
                  refine zqt (i := 13) (N := some 86) (v := ?_) (a' := ?_) #[true, true, true, true, true, true, true, true, true, true, true, true, true, true, true, true, true, false, false, false, false] rfl rfl (take_ofW HT_.out HW_.out (by kernel_rfl)) (fun _ _ _ h => h) (Or.inl ⟨by rfl, ?_⟩) hHeld ?_ ?_
                  rotate_left
                  ·rintro w' ⟨s0, s1, s2, s3, s4, s5, s6, s7, s8, s9, s10, s11⟩
                   go_simp
                   with_reducible rfl
                  rotate_left
                  ·simp only [Act.put, List.setIfInBounds_toArray, List.set_cons_zero, List.set_cons_succ, i64_w, i32_w]
                   rfl
                  refine zqt (i := 17) (N := some 90) (v := ?_) (a' := ?_) #[true, true, true, true, true, true, true, true, true, true, true, true, true, true, true, true, true, true, false, false, false] rfl rfl (take_ofW HT_.out HW_.out (by kernel_rfl)) (fun _ _ _ h => h) (Or.inl ⟨by rfl, ?_⟩) hHeld ?_ ?_
                  rotate_left
                  ·rintro w' ⟨s0, s1, s2, s3, s4, s5, s6, s7, s8, s9, s10, s11⟩
                   go_simp
                   with_reducible rfl
                  rotate_left
                  ·simp only [Act.put, List.setIfInBounds_toArray, List.set_cons_zero, List.set_cons_succ, i64_w, i32_w]
                   rfl
                  refine one_ (i := 18) (N := some 91) #[true, true, true, true, true, true, true, true, true, true, true, true, true, true, true, true, true, true, true, false, false] rfl rfl (one_of HT_.out (by kernel_rfl)) (by decide) (fun K hK => ?_)
                  refine goes_ Try.func99 (by kernel_rfl) rfl #[.agg #[.int .i64 ((rd_T29 t447 x8_2).f0), .int .i64 ((rd_T29 t447 x8_2).f1), .slice A452_2 ((rd_T29 t447 x8_2).f2).length c452_2], .agg #[.int .i64 ((rd_T29 t447 x9_3).f0), .int .i64 ((rd_T29 t447 x9_3).f1), .slice A453_2 ((rd_T29 t447 x9_3).f2).length c453_2]] (by rfl) rfl rfl (by (try simp only [List.map_toArray, List.map_cons, List.map_nil]); first | done | rfl | (simp only [List.length_drop, List.length_take]; rfl)) ?_
                  with_reducible refine (spec_l2Same.calls k3 ((rd_T29 t447 x8_2).f0) ((rd_T29 t447 x8_2).f1) _ _ ((rd_T29 t447 x8_2).f2) ((rd_T29 t447 x9_3).f0) ((rd_T29 t447 x9_3).f1) _ _ ((rd_T29 t447 x9_3).f2) false _ ?side1 ?side2 ?side3 ?side4 A37.out).mono ?_
                  (case side1 => repeat (first | exact (by repeat (first | (with_reducible exact HR452_2.out) | (with_reducible refine Kd.C_alloc ?_ _) | (with_reducible refine Kd.C_drewN ?_ _) | (with_reducible refine Kd.C_drew ?_) | exact HR452_2.out)) | (with_reducible refine Kd.C_alloc ?_ _) | (with_reducible refine Kd.C_drewN ?_ _) | (with_reducible refine Kd.C_drew ?_)))
                  (case side2 => exact HC452_2.out)
                  (case side3 => repeat (first | exact (by repeat (first | (with_reducible exact HR453_2.out) | (with_reducible refine Kd.C_alloc ?_ _) | (with_reducible refine Kd.C_drewN ?_ _) | (with_reducible refine Kd.C_drew ?_) | exact HR453_2.out)) | (with_reducible refine Kd.C_alloc ?_ _) | (with_reducible refine Kd.C_drewN ?_ _) | (with_reducible refine Kd.C_drew ?_)))
                  (case side4 => exact HC453_2.out)
                  rintro e w44 ⟨rfl, hb⟩
                  have HS0_ := (hb.cell (World.block_lt_of_cell? _ _ (hHeld.1))).trans (hHeld.1)
                  have HS1_ := (hb.cell (World.block_lt_of_cell? _ _ (hHeld.2.1))).trans (hHeld.2.1)
                  have HS2_ := (hb.cell (World.block_lt_of_cell? _ _ (hHeld.2.2.1))).trans (hHeld.2.2.1)
                  have HS3_ := (hb.cell (World.block_lt_of_cell? _ _ (hHeld.2.2.2.1))).trans (hHeld.2.2.2.1)
                  have HS4_ := (hb.cell (World.block_lt_of_cell? _ _ (hHeld.2.2.2.2.1))).trans (hHeld.2.2.2.2.1)
                  have HS5_ := (hb.cell (World.block_lt_of_cell? _ _ (hHeld.2.2.2.2.2.1))).trans (hHeld.2.2.2.2.2.1)
                  have HS6_ := (hb.cell (World.block_lt_of_cell? _ _ (hHeld.2.2.2.2.2.2.1))).trans (hHeld.2.2.2.2.2.2.1)
                  have HS7_ := (hb.cell (World.block_lt_of_cell? _ _ (hHeld.2.2.2.2.2.2.2.1))).trans (hHeld.2.2.2.2.2.2.2.1)
                  have HS8_ := (hb.cell (World.block_lt_of_cell? _ _ (hHeld.2.2.2.2.2.2.2.2.1))).trans (hHeld.2.2.2.2.2.2.2.2.1)
                  have HS9_ := (hb.cell (World.block_lt_of_cell? _ _ (hHeld.2.2.2.2.2.2.2.2.2.1))).trans (hHeld.2.2.2.2.2.2.2.2.2.1)
                  have HS10_ := (hb.cell (World.block_lt_of_cell? _ _ (hHeld.2.2.2.2.2.2.2.2.2.2.1))).trans (hHeld.2.2.2.2.2.2.2.2.2.2.1)
                  have HS11_ := (hb.cell (World.block_lt_of_cell? _ _ (hHeld.2.2.2.2.2.2.2.2.2.2.2))).trans (hHeld.2.2.2.2.2.2.2.2.2.2.2)
                  refine ⟨_, rfl, ?_⟩
                  have n0_ := Az.mk (Kd.N_below (by (with_reducible repeat (first | apply Kd.N_alloc | apply Kd.N_drewN | apply Kd.N_drew)); exact HO_7.out) hb)
                  have n1_ := Az.mk (Kd.V_below (by (with_reducible repeat (first | apply Kd.V_alloc | apply Kd.V_drewN | apply Kd.V_drew)); exact HL452_2.out) hb)
                  have n2_ := Az.mk (Kd.V_below (by (with_reducible repeat (first | apply Kd.V_alloc | apply Kd.V_drewN | apply Kd.V_drew)); exact HL453_2.out) hb)
                  have n3_ := Az.mk (Kd.V_below (by (with_reducible repeat (first | apply Kd.V_alloc | apply Kd.V_drewN | apply Kd.V_drew)); exact HL455_2.out) hb)
                  have n4_ := Az.mk (Kd.V_below (by (with_reducible repeat (first | apply Kd.V_alloc | apply Kd.V_drewN | apply Kd.V_drew)); exact HL456_2.out) hb)
                  have n5_ := Az.mk (blk_below (g := gb441) (o := .cells #[.int .i64 a1_0, .slice A1_1 l1_1.length c1_1] 57 (0, 0)) (by (with_reducible repeat (first | refine zq6 ?_ _ | refine zq8 ?_ | refine zq7 ?_ _)); exact BK441.out) hb)
                  have n6_ := Az.mk (Kd.C_below (by repeat (first | (with_reducible exact HR450_2.out) | (with_reducible refine Kd.C_alloc ?_ _) | (with_reducible refine Kd.C_drewN ?_ _) | (with_reducible refine Kd.C_drew ?_) | exact HR450_2.out)) hb)
                  have n7_ := Az.mk (Kd.C_below (by repeat (first | (with_reducible exact HR452_2.out) | (with_reducible refine Kd.C_alloc ?_ _) | (with_reducible refine Kd.C_drewN ?_ _) | (with_reducible refine Kd.C_drew ?_) | exact HR452_2.out)) hb)
                  have n8_ := Az.mk (Kd.C_below (by repeat (first | (with_reducible exact HR453_2.out) | (with_reducible refine Kd.C_alloc ?_ _) | (with_reducible refine Kd.C_drewN ?_ _) | (with_reducible refine Kd.C_drew ?_) | exact HR453_2.out)) hb)
                  have n9_ := Az.mk (Kd.C_below (by repeat (first | (with_reducible exact HR455_2.out) | (with_reducible refine Kd.C_alloc ?_ _) | (with_reducible refine Kd.C_drewN ?_ _) | (with_reducible refine Kd.C_drew ?_) | exact HR455_2.out)) hb)
                  have n10_ := Az.mk (Kd.C_below (by repeat (first | (with_reducible exact HR456_2.out) | (with_reducible refine Kd.C_alloc ?_ _) | (with_reducible refine Kd.C_drewN ?_ _) | (with_reducible refine Kd.C_drew ?_) | exact HR456_2.out)) hb)
                  have n11_ := Az.mk (below_step (by repeat (first | (with_reducible first | exact HB.out | apply zq2 | apply zq1 | apply zqd | refine zq3 ?_ GE441.out) | exact HB.out)) hb)
                  clear HO_7
                  clear HL452_2
                  clear HL453_2
                  clear HL455_2
                  clear HL456_2
                  clear BK441
                  clear HR450_2
                  clear HR452_2
                  clear HR453_2
                  clear HR455_2
                  clear HR456_2
                  clear HB
                  have HO_7 := n0_
                  have HL452_2 := n1_
                  have HL453_2 := n2_
                  have HL455_2 := n3_
                  have HL456_2 := n4_
                  have BK441 := n5_
                  have HR450_2 := n6_
                  have HR452_2 := n7_
                  have HR453_2 := n8_
                  have HR455_2 := n9_
                  have HR456_2 := n10_
                  have HB := n11_
                  clear n0_ n1_ n2_ n3_ n4_ n5_ n6_ n7_ n8_ n9_ n10_ n11_
                  (try clear hb)
                  (try clear hb2)
                  (try clear hk)
                  (try clear hi)
                  refine hK.out _ _ ⟨HS0_, HS1_, HS2_, HS3_, HS4_, HS5_, HS6_, HS7_, HS8_, HS9_, HS10_, HS11_⟩ (fun hHeld => ?_)
                  clear hK K
                  refine norm_ (a' := ?_) ?_ ?_
                  rotate_left
                  ·show Act.put _ (some 91) _ = _
                   simp only [Act.put, List.setIfInBounds_toArray, List.set_cons_zero, List.set_cons_succ, i64_w, i32_w]
                   rfl
                  refine zqp (i := 19) (N := some 92) (v := ?_) (a' := ?_) #[true, true, true, true, true, true, true, true, true, true, true, true, true, true, true, true, true, true, true, true, false] rfl rfl (any_of HT_.out (by kernel_rfl)) (fun _ _ _ h => h) (Or.inl ⟨by rfl, ?_⟩) ?_ ?_
                  rotate_left
                  ·intro w'
                   go_simp
                   with_reducible rfl
                  rotate_left
                  ·simp only [Act.put, List.setIfInBounds_toArray, List.set_cons_zero, List.set_cons_succ, i64_w, i32_w]
                   rfl
                  refine zqp (i := 20) (N := some 93) (v := ?_) (a' := ?_) #[true, true, true, true, true, true, true, true, true, true, true, true, true, true, true, true, true, true, true, true, true] rfl rfl (any_of HT_.out (by kernel_rfl)) (fun _ _ _ h => h) (Or.inl ⟨by rfl, ?_⟩) ?_ ?_
                  rotate_left
                  ·intro w'
                   go_simp
                   with_reducible rfl
                  rotate_left
                  ·simp only [Act.put, List.setIfInBounds_toArray, List.set_cons_zero, List.set_cons_succ, i64_w, i32_w]
                   rfl
                  refine done_ (done_of HT_.out (by kernel_rfl)) ?_
                  try go_wp2
                  go_ret
                  exact ⟨by first | rfl | (simp [errW_none, errW_some] <;> rfl) | (simp [*, errW_none, errW_some] <;> rfl), by repeat (first | (with_reducible first | exact HB.out | apply zq2 | apply zq1 | apply zqd | refine zq3 ?_ GE441.out) | exact HB.out)⟩
                ·replace c36 := Bool.eq_false_iff.mpr c36
                 subst c36
                 have H1 : (spec_l2Vols.l3 k3 a0 t447 x8_2 (wrap64 (x9_3 + 1))) = some r := by rw [if_neg (show ¬ (false = true) by decide)] at H; exact H
                 clear H
                 have H := H1
                 clear H1
                 have H' := Az.mk H
                 clear H
                 try go_wp2
                 have n0_ := Az.mk (Kd.N_drew HO_7.out)
                 have n1_ := Az.mk (zq8 BK441.out)
                 have n2_ := Az.mk (Kd.C_drew HR450_2.out)
                 have n3_ := Az.mk (zqd HB.out)
                 clear HO_7
                 clear BK441
                 clear HR450_2
                 clear HB
                 have HO_7 := n0_
                 have BK441 := n1_
                 have HR450_2 := n2_
                 have HB := n3_
                 clear n0_ n1_ n2_ n3_
                 have p452 : 0 ≤ (x8_2 : Int) := of_decide_eq_true (by first | (with_reducible assumption) | assumption)
                 have q452 : x8_2 < (t447.length : Int) := of_decide_eq_true (by first | (with_reducible assumption) | assumption)
                 obtain ⟨ad452, A452_2, c452_2, e452, hx452_0, hx452_1, hx452_2, hl452_2, hi452_2⟩ := at_T29 (Kd.N_reads' HO_7.out).2.2 x8_2 p452 q452
                 obtain rfl : ad450 = ad452 := (by injection e452)
                 obtain ⟨ce452, hce452, hMe452, hcc452⟩ := Kd.N_get HO_7.out z29 x8_2 p452 (by first | exact q452 | exact of_decide_eq_true (by first | (with_reducible assumption) | assumption) | (have e_ := (Kd.N_reads' HO_7.out).1; omega))
                 obtain ⟨ua452_2, uc452_2, rfl, ul452_2, ge452_2⟩ := k29_openF hMe452
                 have hv452_2 := hcc452 2 _ rfl
                 rw [add_field _ _ 2 (by omega)] at hv452_2
                 replace hv452_2 := Option.some.inj (hv452_2.symm.trans hx452_2)
                 injection hv452_2 with hva_ hvn_ hvc_
                 rw [hva_] at ge452_2
                 rw [hvc_] at ul452_2
                 have HL452_2 := Az.mk (show Kd.V k37 37 _ w.heap.size _ _ ((rd_T29 t447 x8_2).f2) from Kd.V_mk ul452_2 ge452_2)
                 clear hva_ hvn_ hvc_ ge452_2 ul452_2
                 clear hcc452 hce452
                 have HR452_2 := Az.mk hi452_2
                 have HC452_2 := Az.mk hl452_2
                 clear hi452_2 hl452_2
                 replace p452 := eq_true p452
                 replace q452 := eq_true q452
                 have p453 : 0 ≤ (x9_3 : Int) := of_decide_eq_true (by first | (with_reducible assumption) | assumption)
                 have q453 : x9_3 < (t447.length : Int) := of_decide_eq_true (by first | (with_reducible assumption) | assumption)
                 obtain ⟨ad453, A453_2, c453_2, e453, hx453_0, hx453_1, hx453_2, hl453_2, hi453_2⟩ := at_T29 (Kd.N_reads' HO_7.out).2.2 x9_3 p453 q453
                 obtain rfl : ad450 = ad453 := (by injection e453)
                 obtain ⟨ce453, hce453, hMe453, hcc453⟩ := Kd.N_get HO_7.out z29 x9_3 p453 (by first | exact q453 | exact of_decide_eq_true (by first | (with_reducible assumption) | assumption) | (have e_ := (Kd.N_reads' HO_7.out).1; omega))
                 obtain ⟨ua453_2, uc453_2, rfl, ul453_2, ge453_2⟩ := k29_openF hMe453
                 have hv453_2 := hcc453 2 _ rfl
                 rw [add_field _ _ 2 (by omega)] at hv453_2
                 replace hv453_2 := Option.some.inj (hv453_2.symm.trans hx453_2)
                 injection hv453_2 with hva_ hvn_ hvc_
                 rw [hva_] at ge453_2
                 rw [hvc_] at ul453_2
                 have HL453_2 := Az.mk (show Kd.V k37 37 _ w.heap.size _ _ ((rd_T29 t447 x9_3).f2) from Kd.V_mk ul453_2 ge453_2)
                 clear hva_ hvn_ hvc_ ge453_2 ul453_2
                 clear hcc453 hce453
                 have HR453_2 := Az.mk hi453_2
                 have HC453_2 := Az.mk hl453_2
                 clear hi453_2 hl453_2
                 replace p453 := eq_true p453
                 replace q453 := eq_true q453
                 refine start_ (n := 21) (S := fun w' => w'.cell? (ad450.add ((x8_2).toNat * 3)) = some (.int .i64 ((rd_T29 t447 x8_2).f0)) ∧ w'.cell? ⟨(ad450.add ((x8_2).toNat * 3)).block, (ad450.add ((x8_2).toNat * 3)).off + 1, none⟩ = some (.int .i64 ((rd_T29 t447 x8_2).f1)) ∧ w'.cell? ⟨(ad450.add ((x8_2).toNat * 3)).block, (ad450.add ((x8_2).toNat * 3)).off + 2, none⟩ = some (.slice A452_2 ((rd_T29 t447 x8_2).f2).length c452_2) ∧ w'.cell? (ad450.add ((x9_3).toNat * 3)) = some (.int .i64 ((rd_T29 t447 x9_3).f0)) ∧ w'.cell? ⟨(ad450.add ((x9_3).toNat * 3)).block, (ad450.add ((x9_3).toNat * 3)).off + 1, none⟩ = some (.int .i64 ((rd_T29 t447 x9_3).f1)) ∧ w'.cell? ⟨(ad450.add ((x9_3).toNat * 3)).block, (ad450.add ((x9_3).toNat * 3)).off + 2, none⟩ = some (.slice A453_2 ((rd_T29 t447 x9_3).f2).length c453_2)) (ds := []) #[false, false, false, false, false, false, false, false, false, false, false, false, false, false, false, false, false, false, false, false, false] (by kernel_rfl) rfl rfl ⟨hx452_0, hx452_1, hx452_2, hx453_0, hx453_1, hx453_2⟩ (fun hHeld => ?_); refine with_tabW spec_l2Vols.tab20 spec_l2Vols.bits20 (fun HT_ HW_ => ?_)
                 generalize wr.drew = w45 at HO_7 BK441 HR450_2 HB HL452_2 HL453_2 HR452_2 HR453_2 hx452_0 hx452_1 hx452_2 hx453_0 hx453_1 hx453_2 hHeld ⊢
                 refine zqp (i := 0) (N := some 73) (v := ?_) (a' := ?_) #[true, false, false, false, false, false, false, false, false, false, false, false, false, false, false, false, false, false, false, false, false] rfl rfl (any_of HT_.out (by kernel_rfl)) (fun _ _ _ h => h) (Or.inl ⟨by rfl, ?_⟩) ?_ ?_
                 rotate_left
                 ·intro w'
                  go_simp
                  with_reducible rfl
                 rotate_left
                 ·simp only [Act.put, List.setIfInBounds_toArray, List.set_cons_zero, List.set_cons_succ, i64_w, i32_w]
                  rfl
                 refine zqp (i := 1) (N := some 74) (v := ?_) (a' := ?_) #[true, true, false, false, false, false, false, false, false, false, false, false, false, false, false, false, false, false, false, false, false] rfl rfl (any_of HT_.out (by kernel_rfl)) (fun _ _ _ h => h) (Or.inl ⟨by rfl, ?_⟩) ?_ ?_
                 rotate_left
                 ·intro w'
                  go_simp
                  with_reducible rfl
                 rotate_left
                 ·simp only [Act.put, List.setIfInBounds_toArray, List.set_cons_zero, List.set_cons_succ, i64_w, i32_w]
                  rfl
                 refine zqp (i := 2) (N := some 75) (v := ?_) (a' := ?_) #[true, true, true, false, false, false, false, false, false, false, false, false, false, false, false, false, false, false, false, false, false] rfl rfl (any_of HT_.out (by kernel_rfl)) (fun _ _ _ h => h) (Or.inl ⟨by rfl, ?_⟩) ?_ ?_
                 rotate_left
                 ·intro w'
                  go_simp
                  with_reducible rfl
                 rotate_left
                 ·simp only [Act.put, List.setIfInBounds_toArray, List.set_cons_zero, List.set_cons_succ, i64_w, i32_w]
                  rfl
                 refine zqp (i := 4) (N := some 77) (v := ?_) (a' := ?_) #[true, true, true, false, true, false, false, false, false, false, false, false, false, false, false, false, false, false, false, false, false] rfl rfl (any_of HT_.out (by kernel_rfl)) (fun _ _ _ h => h) (Or.inl ⟨by rfl, ?_⟩) ?_ ?_
                 rotate_left
                 ·intro w'
                  go_simp
                  with_reducible rfl
                 rotate_left
                 ·simp only [Act.put, List.setIfInBounds_toArray, List.set_cons_zero, List.set_cons_succ, i64_w, i32_w]
                  rfl
                 refine zqp (i := 5) (N := some 78) (v := ?_) (a' := ?_) #[true, true, true, false, true, true, false, false, false, false, false, false, false, false, false, false, false, false, false, false, false] rfl rfl (any_of HT_.out (by kernel_rfl)) (fun _ _ _ h => h) (Or.inl ⟨by rfl, ?_⟩) ?_ ?_
                 rotate_left
                 ·intro w'
                  go_simp
                  with_reducible rfl
                 rotate_left
                 ·simp only [Act.put, List.setIfInBounds_toArray, List.set_cons_zero, List.set_cons_succ, i64_w, i32_w]
                  rfl
                 refine zqp (i := 6) (N := some 79) (v := ?_) (a' := ?_) #[true, true, true, false, true, true, true, false, false, false, false, false, false, false, false, false, false, false, false, false, false] rfl rfl (any_of HT_.out (by kernel_rfl)) (fun _ _ _ h => h) (Or.inl ⟨by rfl, ?_⟩) ?_ ?_
                 rotate_left
                 ·intro w'
                  go_simp
                  with_reducible rfl
                 rotate_left
                 ·simp only [Act.put, List.setIfInBounds_toArray, List.set_cons_zero, List.set_cons_succ, i64_w, i32_w]
                  rfl
                 refine zqt (i := 3) (N := some 76) (v := ?_) (a' := ?_) #[true, true, true, true, true, true, true, false, false, false, false, false, false, false, false, false, false, false, false, false, false] rfl rfl (take_ofW HT_.out HW_.out (by kernel_rfl)) (fun _ _ _ h => h) (Or.inl ⟨by rfl, ?_⟩) hHeld ?_ ?_
                 rotate_left
                 ·rintro w' ⟨s0, s1, s2, s3, s4, s5⟩
                  go_simp
                  with_reducible rfl
                 rotate_left
                 ·simp only [Act.put, List.setIfInBounds_toArray, List.set_cons_zero, List.set_cons_succ, i64_w, i32_w]
                  rfl
                 refine zqt (i := 7) (N := some 80) (v := ?_) (a' := ?_) #[true, true, true, true, true, true, true, true, false, false, false, false, false, false, false, false, false, false, false, false, false] rfl rfl (take_ofW HT_.out HW_.out (by kernel_rfl)) (fun _ _ _ h => h) (Or.inl ⟨by rfl, ?_⟩) hHeld ?_ ?_
                 rotate_left
                 ·rintro w' ⟨s0, s1, s2, s3, s4, s5⟩
                  go_simp
                  with_reducible rfl
                 rotate_left
                 ·simp only [Act.put, List.setIfInBounds_toArray, List.set_cons_zero, List.set_cons_succ, i64_w, i32_w]
                  rfl
                 refine one_ (i := 8) (N := some 81) #[true, true, true, true, true, true, true, true, true, false, false, false, false, false, false, false, false, false, false, false, false] rfl rfl (one_of HT_.out (by kernel_rfl)) (by decide) (fun K hK => ?_)
                 refine goes_ Try.func87 (by kernel_rfl) rfl #[.agg #[.int .i64 ((rd_T29 t447 x8_2).f0), .int .i64 ((rd_T29 t447 x8_2).f1), .slice A452_2 ((rd_T29 t447 x8_2).f2).length c452_2], .agg #[.int .i64 ((rd_T29 t447 x9_3).f0), .int .i64 ((rd_T29 t447 x9_3).f1), .slice A453_2 ((rd_T29 t447 x9_3).f2).length c453_2]] (by rfl) rfl rfl (by (try simp only [List.map_toArray, List.map_cons, List.map_nil]); first | done | rfl | (simp only [List.length_drop, List.length_take]; rfl)) ?_
                 with_reducible refine (spec_l2Meet.calls k3 ((rd_T29 t447 x8_2).f0) ((rd_T29 t447 x8_2).f1) _ _ ((rd_T29 t447 x8_2).f2) ((rd_T29 t447 x9_3).f0) ((rd_T29 t447 x9_3).f1) _ _ ((rd_T29 t447 x9_3).f2) false _ ?side1 ?side2 ?side3 ?side4 A35.out).mono ?_
                 (case side1 => repeat (first | exact (by repeat (first | (with_reducible exact HR452_2.out) | (with_reducible refine Kd.C_alloc ?_ _) | (with_reducible refine Kd.C_drewN ?_ _) | (with_reducible refine Kd.C_drew ?_) | exact HR452_2.out)) | (with_reducible refine Kd.C_alloc ?_ _) | (with_reducible refine Kd.C_drewN ?_ _) | (with_reducible refine Kd.C_drew ?_)))
                 (case side2 => exact HC452_2.out)
                 (case side3 => repeat (first | exact (by repeat (first | (with_reducible exact HR453_2.out) | (with_reducible refine Kd.C_alloc ?_ _) | (with_reducible refine Kd.C_drewN ?_ _) | (with_reducible refine Kd.C_drew ?_) | exact HR453_2.out)) | (with_reducible refine Kd.C_alloc ?_ _) | (with_reducible refine Kd.C_drewN ?_ _) | (with_reducible refine Kd.C_drew ?_)))
                 (case side4 => exact HC453_2.out)
                 rintro e w46 ⟨rfl, hb⟩
                 have HS0_ := (hb.cell (World.block_lt_of_cell? _ _ (hHeld.1))).trans (hHeld.1)
                 have HS1_ := (hb.cell (World.block_lt_of_cell? _ _ (hHeld.2.1))).trans (hHeld.2.1)
                 have HS2_ := (hb.cell (World.block_lt_of_cell? _ _ (hHeld.2.2.1))).trans (hHeld.2.2.1)
                 have HS3_ := (hb.cell (World.block_lt_of_cell? _ _ (hHeld.2.2.2.1))).trans (hHeld.2.2.2.1)
                 have HS4_ := (hb.cell (World.block_lt_of_cell? _ _ (hHeld.2.2.2.2.1))).trans (hHeld.2.2.2.2.1)
                 have HS5_ := (hb.cell (World.block_lt_of_cell? _ _ (hHeld.2.2.2.2.2))).trans (hHeld.2.2.2.2.2)
                 refine ⟨_, rfl, ?_⟩
                 have n0_ := Az.mk (Kd.N_below (by (with_reducible repeat (first | apply Kd.N_alloc | apply Kd.N_drewN | apply Kd.N_drew)); exact HO_7.out) hb)
                 have n1_ := Az.mk (Kd.V_below (by (with_reducible repeat (first | apply Kd.V_alloc | apply Kd.V_drewN | apply Kd.V_drew)); exact HL452_2.out) hb)
                 have n2_ := Az.mk (Kd.V_below (by (with_reducible repeat (first | apply Kd.V_alloc | apply Kd.V_drewN | apply Kd.V_drew)); exact HL453_2.out) hb)
                 have n3_ := Az.mk (blk_below (g := gb441) (o := .cells #[.int .i64 a1_0, .slice A1_1 l1_1.length c1_1] 57 (0, 0)) (by (with_reducible repeat (first | refine zq6 ?_ _ | refine zq8 ?_ | refine zq7 ?_ _)); exact BK441.out) hb)
                 have n4_ := Az.mk (Kd.C_below (by repeat (first | (with_reducible exact HR450_2.out) | (with_reducible refine Kd.C_alloc ?_ _) | (with_reducible refine Kd.C_drewN ?_ _) | (with_reducible refine Kd.C_drew ?_) | exact HR450_2.out)) hb)
                 have n5_ := Az.mk (Kd.C_below (by repeat (first | (with_reducible exact HR452_2.out) | (with_reducible refine Kd.C_alloc ?_ _) | (with_reducible refine Kd.C_drewN ?_ _) | (with_reducible refine Kd.C_drew ?_) | exact HR452_2.out)) hb)
                 have n6_ := Az.mk (Kd.C_below (by repeat (first | (with_reducible exact HR453_2.out) | (with_reducible refine Kd.C_alloc ?_ _) | (with_reducible refine Kd.C_drewN ?_ _) | (with_reducible refine Kd.C_drew ?_) | exact HR453_2.out)) hb)
                 have n7_ := Az.mk (below_step (by repeat (first | (with_reducible first | exact HB.out | apply zq2 | apply zq1 | apply zqd | refine zq3 ?_ GE441.out) | exact HB.out)) hb)
                 clear HO_7
                 clear HL452_2
                 clear HL453_2
                 clear BK441
                 clear HR450_2
                 clear HR452_2
                 clear HR453_2
                 clear HB
                 have HO_7 := n0_
                 have HL452_2 := n1_
                 have HL453_2 := n2_
                 have BK441 := n3_
                 have HR450_2 := n4_
                 have HR452_2 := n5_
                 have HR453_2 := n6_
                 have HB := n7_
                 clear n0_ n1_ n2_ n3_ n4_ n5_ n6_ n7_
                 (try clear hb)
                 (try clear hb2)
                 (try clear hk)
                 (try clear hi)
                 refine hK.out _ _ ⟨HS0_, HS1_, HS2_, HS3_, HS4_, HS5_⟩ (fun hHeld => ?_)
                 clear hK K
                 refine norm_ (a' := ?_) ?_ ?_
                 rotate_left
                 ·show Act.put _ (some 81) _ = _
                  simp only [Act.put, List.setIfInBounds_toArray, List.set_cons_zero, List.set_cons_succ, i64_w, i32_w]
                  rfl
                 refine zqp (i := 9) (N := some 82) (v := ?_) (a' := ?_) #[true, true, true, true, true, true, true, true, true, true, false, false, false, false, false, false, false, false, false, false, false] rfl rfl (any_of HT_.out (by kernel_rfl)) (fun _ _ _ h => h) (Or.inl ⟨by rfl, ?_⟩) ?_ ?_
                 rotate_left
                 ·intro w'
                  go_simp
                  with_reducible rfl
                 rotate_left
                 ·simp only [Act.put, List.setIfInBounds_toArray, List.set_cons_zero, List.set_cons_succ, i64_w, i32_w]
                  rfl
                 refine zqp (i := 10) (N := some 83) (v := undef) (a' := ?_) #[true, true, true, true, true, true, true, true, true, true, true, false, false, false, false, false, false, false, false, false, false] rfl rfl (any_of HT_.out (by kernel_rfl)) (fun _ _ _ h => h) (Or.inr ⟨by rfl, rfl⟩) ?_ ?_
                 rotate_left
                 ·simp only [Act.put, List.setIfInBounds_toArray, List.set_cons_zero, List.set_cons_succ, i64_w, i32_w]
                  rfl
                 refine zqp (i := 11) (N := some 84) (v := undef) (a' := ?_) #[true, true, true, true, true, true, true, true, true, true, true, true, false, false, false, false, false, false, false, false, false] rfl rfl (any_of HT_.out (by kernel_rfl)) (fun _ _ _ h => h) (Or.inr ⟨by rfl, rfl⟩) ?_ ?_
                 rotate_left
                 ·simp only [Act.put, List.setIfInBounds_toArray, List.set_cons_zero, List.set_cons_succ, i64_w, i32_w]
                  rfl
                 refine zqp (i := 12) (N := some 85) (v := undef) (a' := ?_) #[true, true, true, true, true, true, true, true, true, true, true, true, true, false, false, false, false, false, false, false, false] rfl rfl (any_of HT_.out (by kernel_rfl)) (fun _ _ _ h => h) (Or.inr ⟨by rfl, rfl⟩) ?_ ?_
                 rotate_left
                 ·simp only [Act.put, List.setIfInBounds_toArray, List.set_cons_zero, List.set_cons_succ, i64_w, i32_w]
                  rfl
                 refine zqp (i := 13) (N := some 86) (v := undef) (a' := ?_) #[true, true, true, true, true, true, true, true, true, true, true, true, true, true, false, false, false, false, false, false, false] rfl rfl (any_of HT_.out (by kernel_rfl)) (fun _ _ _ h => h) (Or.inr ⟨by rfl, rfl⟩) ?_ ?_
                 rotate_left
                 ·simp only [Act.put, List.setIfInBounds_toArray, List.set_cons_zero, List.set_cons_succ, i64_w, i32_w]
                  rfl
                 refine zqp (i := 14) (N := some 87) (v := undef) (a' := ?_) #[true, true, true, true, true, true, true, true, true, true, true, true, true, true, true, false, false, false, false, false, false] rfl rfl (any_of HT_.out (by kernel_rfl)) (fun _ _ _ h => h) (Or.inr ⟨by rfl, rfl⟩) ?_ ?_
                 rotate_left
                 ·simp only [Act.put, List.setIfInBounds_toArray, List.set_cons_zero, List.set_cons_succ, i64_w, i32_w]
                  rfl
                 refine zqp (i := 15) (N := some 88) (v := undef) (a' := ?_) #[true, true, true, true, true, true, true, true, true, true, true, true, true, true, true, true, false, false, false, false, false] rfl rfl (any_of HT_.out (by kernel_rfl)) (fun _ _ _ h => h) (Or.inr ⟨by rfl, rfl⟩) ?_ ?_
                 rotate_left
                 ·simp only [Act.put, List.setIfInBounds_toArray, List.set_cons_zero, List.set_cons_succ, i64_w, i32_w]
                  rfl
                 refine zqp (i := 16) (N := some 89) (v := undef) (a' := ?_) #[true, true, true, true, true, true, true, true, true, true, true, true, true, true, true, true, true, false, false, false, false] rfl rfl (any_of HT_.out (by kernel_rfl)) (fun _ _ _ h => h) (Or.inr ⟨by rfl, rfl⟩) ?_ ?_
                 rotate_left
                 ·simp only [Act.put, List.setIfInBounds_toArray, List.set_cons_zero, List.set_cons_succ, i64_w, i32_w]
                  rfl
                 refine zqp (i := 17) (N := some 90) (v := undef) (a' := ?_) #[true, true, true, true, true, true, true, true, true, true, true, true, true, true, true, true, true, true, false, false, false] rfl rfl (any_of HT_.out (by kernel_rfl)) (fun _ _ _ h => h) (Or.inr ⟨by rfl, rfl⟩) ?_ ?_
                 rotate_left
                 ·simp only [Act.put, List.setIfInBounds_toArray, List.set_cons_zero, List.set_cons_succ, i64_w, i32_w]
                  rfl
                 refine zqp (i := 18) (N := some 91) (v := undef) (a' := ?_) #[true, true, true, true, true, true, true, true, true, true, true, true, true, true, true, true, true, true, true, false, false] rfl rfl (any_of HT_.out (by kernel_rfl)) (fun _ _ _ h => h) (Or.inr ⟨by rfl, rfl⟩) ?_ ?_
                 rotate_left
                 ·simp only [Act.put, List.setIfInBounds_toArray, List.set_cons_zero, List.set_cons_succ, i64_w, i32_w]
                  rfl
                 refine zqp (i := 19) (N := some 92) (v := undef) (a' := ?_) #[true, true, true, true, true, true, true, true, true, true, true, true, true, true, true, true, true, true, true, true, false] rfl rfl (any_of HT_.out (by kernel_rfl)) (fun _ _ _ h => h) (Or.inr ⟨by rfl, rfl⟩) ?_ ?_
                 rotate_left
                 ·simp only [Act.put, List.setIfInBounds_toArray, List.set_cons_zero, List.set_cons_succ, i64_w, i32_w]
                  rfl
                 refine zqp (i := 20) (N := some 93) (v := ?_) (a' := ?_) #[true, true, true, true, true, true, true, true, true, true, true, true, true, true, true, true, true, true, true, true, true] rfl rfl (any_of HT_.out (by kernel_rfl)) (fun _ _ _ h => h) (Or.inl ⟨by rfl, ?_⟩) ?_ ?_
                 rotate_left
                 ·intro w'
                  go_simp
                  with_reducible rfl
                 rotate_left
                 ·simp only [Act.put, List.setIfInBounds_toArray, List.set_cons_zero, List.set_cons_succ, i64_w, i32_w]
                  rfl
                 refine done_ (done_of HT_.out (by kernel_rfl)) ?_
                 try go_wp2
                 go_roundg k3
                 case measure => have := HK1.out; have := HK2.out; have := HK3.out; omega
                 case rel => exact ⟨(wrap64 (x9_3 + 1)), (by first | rfl | (simp; done) | (simp [*]; done)), H', ⟨by have := HK1.out; have := HK2.out; have := HK3.out; omega⟩, ⟨by (with_reducible repeat (first | apply Kd.N_alloc | apply Kd.N_drewN | apply Kd.N_drew)); exact HO_7.out⟩, ⟨by (with_reducible repeat (first | refine zq6 ?_ _ | refine zq8 ?_ | refine zq7 ?_ _)); exact BK441.out⟩, ⟨by repeat (first | (with_reducible exact HR450_2.out) | (with_reducible refine Kd.C_alloc ?_ _) | (with_reducible refine Kd.C_drewN ?_ _) | (with_reducible refine Kd.C_drew ?_) | exact HR450_2.out)⟩, ⟨by repeat (first | (with_reducible first | exact HB.out | apply zq2 | apply zq1 | apply zqd | refine zq3 ?_ GE441.out) | exact HB.out)⟩⟩
               ·rw [if_neg c34] at H
                exact absurd H (by simp)
              ·rw [if_neg c33] at H
               exact absurd H (by simp)
             ·rw [if_neg c32] at H
              exact absurd H (by simp)
            ·rw [if_neg c31] at H
             exact absurd H (by simp)
           ·rw [if_neg c30] at H
            have c30b0 : decide (x9_3 < x8_2) = false := decide_eq_false c30
            clear c30
            have H' := Az.mk H
            clear H
            go_wp2
            go_roundg k3
            case measure => have := HK1.out; have := HK2.out; have := HK3.out; omega
            case rel => exact ⟨(wrap64 (x8_2 + 1)), (by first | rfl | (simp; done) | (simp [*]; done)), H', ⟨by have := HK1.out; have := HK2.out; have := HK3.out; omega⟩, ⟨by (with_reducible repeat (first | apply Kd.N_alloc | apply Kd.N_drewN | apply Kd.N_drew)); exact HO_7.out⟩, ⟨by (with_reducible repeat (first | refine zq6 ?_ _ | refine zq8 ?_ | refine zq7 ?_ _)); exact BK441.out⟩, ⟨by repeat (first | (with_reducible first | exact HB.out | apply zq2 | apply zq1 | apply zqd | refine zq3 ?_ GE441.out) | exact HB.out)⟩⟩
        ·replace c27 := Bool.eq_false_iff.mpr c27
         subst c27
         have H1 : (some false) = some r := by rw [if_neg (show ¬ (false = true) by decide)] at H; exact H
         clear H
         have H := H1
         clear H1
         obtain rfl := Option.some.inj H
         obtain ⟨Ao47, co47, eo47⟩ := Kd.N_slice HO_7.out
         subst eo47
         have p450 : 0 ≤ (x8_2 : Int) := of_decide_eq_true (by first | (with_reducible assumption) | assumption)
         have q450 : x8_2 < (t447.length : Int) := of_decide_eq_true (by first | (with_reducible assumption) | assumption)
         obtain ⟨ad450, A450_2, c450_2, e450, hx450_0, hx450_1, hx450_2, hl450_2, hi450_2⟩ := at_T29 (Kd.N_reads' HO_7.out).2.2 x8_2 p450 q450
         cases e450
         obtain ⟨ce450, hce450, hMe450, hcc450⟩ := Kd.N_get HO_7.out z29 x8_2 p450 (by first | exact q450 | exact of_decide_eq_true (by first | (with_reducible assumption) | assumption) | (have e_ := (Kd.N_reads' HO_7.out).1; omega))
         obtain ⟨ua450_2, uc450_2, rfl, ul450_2, ge450_2⟩ := k29_openF hMe450
         have hv450_2 := hcc450 2 _ rfl
         rw [add_field _ _ 2 (by omega)] at hv450_2
         replace hv450_2 := Option.some.inj (hv450_2.symm.trans hx450_2)
         injection hv450_2 with hva_ hvn_ hvc_
         rw [hva_] at ge450_2
         rw [hvc_] at ul450_2
         have HL450_2 := Az.mk (show Kd.V k37 37 _ w.heap.size _ _ ((rd_T29 t447 x8_2).f2) from Kd.V_mk ul450_2 ge450_2)
         clear hva_ hvn_ hvc_ ge450_2 ul450_2
         clear hcc450 hce450
         have HR450_2 := Az.mk hi450_2
         have HC450_2 := Az.mk hl450_2
         clear hi450_2 hl450_2
         replace p450 := eq_true p450
         replace q450 := eq_true q450
         go_wp2_with (first | ((with_reducible refine gate_callee (f := 54) rfl ?_); refine zq9 (some 66) rfl rfl Try.func54 (by kernel_rfl) rfl #[.int .i64 a0, .agg #[.int .i64 ((rd_T29 t447 x8_2).f0), .int .i64 ((rd_T29 t447 x8_2).f1), .slice A450_2 ((rd_T29 t447 x8_2).f2).length c450_2]] rfl (by (try simp only [List.map_toArray, List.map_cons, List.map_nil]); first | done | rfl | (simp only [List.length_drop, List.length_take]; rfl)) ?_; (with_reducible refine (spec_l2Ptr.calls k2 a0 ((rd_T29 t447 x8_2).f0) ((rd_T29 t447 x8_2).f1) _ _ ((rd_T29 t447 x8_2).f2) false _ ?side1 ?side2 A26.out).mono ?_); (case side1 => repeat (first | exact (by repeat (first | (with_reducible exact HR450_2.out) | (with_reducible refine Kd.C_alloc ?_ _) | (with_reducible refine Kd.C_drewN ?_ _) | (with_reducible refine Kd.C_drew ?_) | exact HR450_2.out)) | (with_reducible refine Kd.C_alloc ?_ _) | (with_reducible refine Kd.C_drewN ?_ _) | (with_reducible refine Kd.C_drew ?_))); (case side2 => exact HC450_2.out); rintro e w48 ⟨rfl, hb⟩; refine ⟨_, rfl, ?_⟩; have n0_ := Az.mk (Kd.N_below (by (with_reducible repeat (first | apply Kd.N_alloc | apply Kd.N_drewN | apply Kd.N_drew)); exact HO_7.out) hb); have n1_ := Az.mk (Kd.V_below (by (with_reducible repeat (first | apply Kd.V_alloc | apply Kd.V_drewN | apply Kd.V_drew)); exact HL450_2.out) hb); have n2_ := Az.mk (blk_below (g := gb441) (o := .cells #[.int .i64 a1_0, .slice A1_1 l1_1.length c1_1] 57 (0, 0)) (by (with_reducible repeat (first | refine zq6 ?_ _ | refine zq8 ?_ | refine zq7 ?_ _)); exact BK441.out) hb); have n3_ := Az.mk (Kd.C_below (by repeat (first | (with_reducible exact HR450_2.out) | (with_reducible refine Kd.C_alloc ?_ _) | (with_reducible refine Kd.C_drewN ?_ _) | (with_reducible refine Kd.C_drew ?_) | exact HR450_2.out)) hb); have n4_ := Az.mk (below_step (by repeat (first | (with_reducible first | exact HB.out | apply zq2 | apply zq1 | apply zqd | refine zq3 ?_ GE441.out) | exact HB.out)) hb); clear HO_7; clear HL450_2; clear BK441; clear HR450_2; clear HB; have HO_7 := n0_; have HL450_2 := n1_; have BK441 := n2_; have HR450_2 := n3_; have HB := n4_; clear n0_ n1_ n2_ n3_ n4_; (try clear hb); (try clear hb2); (try clear hk); (try clear hi)))
         go_ret
         exact ⟨by first | rfl | (simp [errW_none, errW_some] <;> rfl) | (simp [*, errW_none, errW_some] <;> rfl), by repeat (first | (with_reducible first | exact HB.out | apply zq2 | apply zq1 | apply zqd | refine zq3 ?_ GE441.out) | exact HB.out)⟩
       ·rw [if_neg c25] at H
        exact absurd H (by simp)
      ·rw [if_neg c24] at H
       have c24b0 : decide (x8_2 < (t447.length : Int)) = false := decide_eq_false c24
       clear c24
       obtain rfl := Option.some.inj H
       obtain ⟨Ao49, co49, eo49⟩ := Kd.N_slice HO_7.out
       subst eo49
       go_wp2
       go_ret
       exact ⟨by first | rfl | (simp [errW_none, errW_some] <;> rfl) | (simp [*, errW_none, errW_some] <;> rfl), by repeat (first | (with_reducible first | exact HB.out | apply zq2 | apply zq1 | apply zqd | refine zq3 ?_ GE441.out) | exact HB.out)⟩
end Go.Proofs.Ytkoimmeghdbodaa.Print
