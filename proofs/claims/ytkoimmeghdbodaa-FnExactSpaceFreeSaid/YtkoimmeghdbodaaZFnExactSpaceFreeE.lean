/- Proved, with what follows on it: the row of the law FnExactSpaceFree. Conditions: the row's alone. Texts of this session and words that the kit's print laid for this seat, merged and cut by shrink.py, a program of this session. -/
import Derived.Test.YtkoimmeghdbodaaZFnExactSpaceFreeD
namespace Go.Proofs.Ytkoimmeghdbodaa.Print
open Go.RowKit Go.Proofs.YtkoimmeghdbodaaW.PrintWords Go.Proofs.YtkoimmeghdbodaaW.PrintLast Go.Proofs.YtkoimmeghdbodaaW.PrintMore Go.Proofs.Ytkoimmeghdbodaa.Pure
set_option linter.unusedVariables false
set_option linter.unusedSimpArgs false
structure Mk (lo hi : Nat) (w w' : World) : Prop where
  os : w'.os = w.os
  tape : w'.tape = w.tape
  output : w'.output = w.output
  size : w.heap.size ≤ w'.heap.size
  far : ∀ b, b < w.heap.size → (b < lo ∨ hi ≤ b) → w'.heap[b]? = w.heap[b]?
  typ : ∀ (b : Nat) (cs : Array Value) (t : Nat), w.heap[b]? = some (Obj.cells cs t (0, 0)) → ∃ cs' : Array Value, w'.heap[b]? = some (Obj.cells cs' t (0, 0)) ∧ cs'.size = cs.size ∧ (t = 29 → ∀ i, cs'[i * 3 + 2]? = cs[i * 3 + 2]?) ∧ (t = 65 → ∀ i, cs'[i * 2 + 1]? = cs[i * 2 + 1]?)
theorem Mk.refl (lo hi : Nat) (w : World) : Mk lo hi w w := ⟨rfl, rfl, rfl, Nat.le_refl _, fun _ _ _ => rfl, fun b cs t h => ⟨cs, h, rfl, fun _ _ => rfl, fun _ _ => rfl⟩⟩
theorem Mk.trans {lo hi : Nat} {u v w : World} (h : Mk lo hi u v) (k : Mk lo hi v w) : Mk lo hi u w :=
  ⟨k.os.trans h.os, k.tape.trans h.tape, k.output.trans h.output, Nat.le_trans h.size k.size, fun b hb hf => (k.far b (Nat.lt_of_lt_of_le hb h.size) hf).trans (h.far b hb hf), fun b cs t hc => by
    obtain ⟨c1, h1, h2, h3, h4⟩ := h.typ b cs t hc
    obtain ⟨c2, k1, k2, k3, k4⟩ := k.typ b c1 t h1
    exact ⟨c2, k1, k2.trans h2, fun e i => (k3 e i).trans (h3 e i), fun e i => (k4 e i).trans (h4 e i)⟩⟩
theorem Mk.of_below {lo hi : Nat} {w w' : World} (h : Below w.heap.size w w') : Mk lo hi w w' :=
  ⟨h.os, h.tape, h.output, h.size, fun b hb _ => h.block b hb, fun b cs t hc => ⟨cs, (h.block b (blk_lt hc)).trans hc, rfl, fun _ _ => rfl, fun _ _ => rfl⟩⟩
theorem Mk.set {lo hi : Nat} {w : World} {g : Nat} {cs : Array Value} {t : Nat} (hg : lo ≤ g ∧ g < hi) (hb : w.heap[g]? = some (.cells cs t (0, 0))) (j : Nat) (hj : t = 37 ∨ (t = 29 ∧ j % 3 ≠ 2) ∨ (t = 65 ∧ j % 2 = 0)) (v : Value) : Mk lo hi w (w.setCell ⟨g, j, none⟩ v) :=
  ⟨rfl, rfl, rfl, by simp [World.setCell], fun b _ hf => Below.heap_setCell w _ v b (by show b ≠ g; omega), fun b cs0 t0 hc => by
    by_cases e : b = g
    · subst e
      rw [hb] at hc
      simp only [Option.some.injEq, Obj.cells.injEq] at hc
      obtain ⟨rfl, rfl, _⟩ := hc
      refine ⟨_, blk_set hb j v, by simp, fun e i => ?_, fun e i => ?_⟩
      · rw [Array.getElem?_setIfInBounds_ne (by omega)]
      · rw [Array.getElem?_setIfInBounds_ne (by omega)]
    · exact ⟨cs0, (Below.heap_setCell w _ v b e).trans hc, rfl, fun _ _ => rfl, fun _ _ => rfl⟩⟩
def ShPl (w : World) (lo hi : Nat) (v : Value) (n : Nat) : Prop :=
  (∃ c, v = .slice none 0 c ∧ n = 0) ∨ ∃ (g c : Nat) (cs : Array Value), v = .slice (some ⟨g, 0, none⟩) n c ∧ (lo ≤ g ∧ g < hi) ∧ w.heap[g]? = some (Obj.cells cs 37 (0, 0)) ∧ n * 2 ≤ cs.size
def ShPt (w : World) (lo hi : Nat) (v : Value) (n : Nat) : Prop :=
  (∃ c, v = .slice none 0 c ∧ n = 0) ∨ ∃ (g c : Nat) (cs : Array Value), v = .slice (some ⟨g, 0, none⟩) n c ∧ (lo ≤ g ∧ g < hi) ∧ w.heap[g]? = some (Obj.cells cs 29 (0, 0)) ∧ n * 3 ≤ cs.size ∧ ∀ i, i < n → ∃ (u : Value) (m : Nat), cs[i * 3 + 2]? = some u ∧ ShPl w lo hi u m ∧ m ≤ 1048576
def ShVo (w : World) (lo hi : Nat) (v : Value) (n : Nat) : Prop :=
  (∃ c, v = .slice none 0 c ∧ n = 0) ∨ ∃ (g c : Nat) (cs : Array Value), v = .slice (some ⟨g, 0, none⟩) n c ∧ (lo ≤ g ∧ g < hi) ∧ w.heap[g]? = some (Obj.cells cs 65 (0, 0)) ∧ n * 2 ≤ cs.size ∧ ∀ i, i < n → ∃ (u : Value) (m : Nat), cs[i * 2 + 1]? = some u ∧ ShPt w lo hi u m ∧ m ≤ 1048576
section
variable {lo hi : Nat} {w w' : World} {v : Value} {n : Nat}
theorem ShPl.keep (h : ShPl w lo hi v n) (k : Mk lo hi w w') : ShPl w' lo hi v n := by
  rcases h with h | ⟨g, c, cs, h1, h2, h3, h4⟩
  · exact Or.inl h
  · obtain ⟨cs', k1, k2, _, _⟩ := k.typ g cs 37 h3
    exact Or.inr ⟨g, c, cs', h1, h2, k1, by rw [k2]; exact h4⟩
theorem ShPt.keep (h : ShPt w lo hi v n) (k : Mk lo hi w w') : ShPt w' lo hi v n := by
  rcases h with h | ⟨g, c, cs, h1, h2, h3, h4, h5⟩
  · exact Or.inl h
  · obtain ⟨cs', k1, k2, k3, _⟩ := k.typ g cs 29 h3
    refine Or.inr ⟨g, c, cs', h1, h2, k1, by rw [k2]; exact h4, fun i hi => ?_⟩
    obtain ⟨u, m, e1, e2, e3⟩ := h5 i hi
    exact ⟨u, m, (k3 rfl i).trans e1, e2.keep k, e3⟩
theorem ShVo.keep (h : ShVo w lo hi v n) (k : Mk lo hi w w') : ShVo w' lo hi v n := by
  rcases h with h | ⟨g, c, cs, h1, h2, h3, h4, h5⟩
  · exact Or.inl h
  · obtain ⟨cs', k1, k2, _, k3⟩ := k.typ g cs 65 h3
    refine Or.inr ⟨g, c, cs', h1, h2, k1, by rw [k2]; exact h4, fun i hi => ?_⟩
    obtain ⟨u, m, e1, e2, e3⟩ := h5 i hi
    exact ⟨u, m, (k3 rfl i).trans e1, e2.keep k, e3⟩
theorem ShPl.cell (h : ShPl w lo hi v n) {i j : Nat} (hi' : i < n) (hj : j < 2) : ∃ (g c : Nat) (cs : Array Value) (u : Value), v = .slice (some ⟨g, 0, none⟩) n c ∧ (lo ≤ g ∧ g < hi) ∧ w.heap[g]? = some (Obj.cells cs 37 (0, 0)) ∧ w.cell? ⟨g, i * 2 + j, none⟩ = some u := by
  rcases h with ⟨_, _, h⟩ | ⟨g, c, cs, h1, h2, h3, h4⟩
  · omega
  · exact ⟨g, c, cs, _, h1, h2, h3, by simp only [World.cell?, h3]; exact Array.getElem?_eq_getElem (by omega)⟩
theorem nofreeze {g : Nat} {cs : Array Value} {t : Nat} (h : w.heap[g]? = some (.cells cs t (0, 0))) (j : Nat) : w.frozen? ⟨g, j, none⟩ = false := by
  simp [World.frozen?, h]
end
set_option maxHeartbeats 4000000 in
set_option maxRecDepth 100000 in
theorem markPl_call (lo hi : Nat) (v : Value) (n : Nat) (k0 : Int) (w : World) (h : ShPl w lo hi v n) (hn : n ≤ 1048576) (hk : 0 ≤ k0 ∧ k0 ≤ 8000000000000000000) :
    Calls Try.prog 32 #[v, .int .i64 k0] w fun e w' => e = .returned (.int .i64 (k0 + 2 * n)) ∧ Mk lo hi w w' := by
  have HS := Az.mk h
  have HN := Az.mk hn
  have HK := Az.mk hk
  have HE0 : Az (∃ A c, v = .slice A n c) := ⟨by
    rcases h with ⟨c, rfl, rfl⟩ | ⟨g, c, cs, rfl, _⟩
    · exact ⟨_, _, rfl⟩
    · exact ⟨_, _, rfl⟩⟩
  clear h hn hk
  obtain ⟨A, cc, rfl⟩ := HE0.out
  clear HE0
  have HM0 := Az.mk (Mk.refl lo hi w)
  go_enter Try.func32, Try.ntmps32
  go_wp2
  go_loopg [1, 5] n (fun kq v1 v5 wr => ∃ (i : Nat) (kk : Int), v5 = .int .i64 (i : Int) ∧ v1 = .int .i64 kk ∧ Az (kk = k0 + 2 * i) ∧ Az (i + kq = n) ∧ Az (Mk lo hi w wr))
  case atStart => exact ⟨0, k0, rfl, rfl, ⟨by omega⟩, ⟨Nat.zero_add _⟩, HM0⟩
  case round =>
    obtain ⟨i, kk, rfl, rfl, HV, HI, HM⟩ := hrel
    by_cases e1 : i < n
    · have e1b : decide ((i : Int) < (n : Int)) = true := decide_eq_true (by omega)
      have p1 := eq_true (show (0 : Int) ≤ (i : Int) by omega)
      have q1 := eq_true (show (i : Int) < (n : Int) by omega)
      have HW1 : Az (wrap64 ((i : Int) + 1) = ((i + 1 : Nat) : Int)) := ⟨by rw [Pure.wrap_ok (by have := HN.out; omega)]; omega⟩
      have HW2 : Az (wrap64 (kk + 1) = kk + 1) := ⟨Pure.wrap_ok (by have := HV.out; have := HK.out; have := HN.out; omega)⟩
      have HW3 : Az (wrap64 (kk + 1 + 1) = kk + 2) := ⟨by rw [Pure.wrap_ok (by have := HV.out; have := HK.out; have := HN.out; omega)]; omega⟩
      have hs := HS.out.keep HM.out
      obtain ⟨g, c, cs, u0, eA, hg, hb, hc0⟩ := hs.cell e1 (j := 0) (by omega)
      obtain ⟨g', c', cs', u1, eA', _, _, hc1⟩ := hs.cell e1 (j := 1) (by omega)
      injection eA with eA _ eC
      subst eA
      subst eC
      have eg : g = g' := by
        injection eA' with h1 h2 h3
        injection h1 with h1
        injection h1
      subst eg
      have hf0 := nofreeze hb (i * 2)
      have hm1 := Mk.set hg hb (i * 2) (Or.inl rfl) (.int .i64 kk)
      have hb2 := blk_set hb (i * 2) (.int .i64 kk)
      have hf1 := nofreeze hb2 (i * 2 + 1)
      have hc1b : (wr.setCell ⟨g, i * 2, none⟩ (.int .i64 kk)).cell? ⟨g, i * 2 + 1, none⟩ = some u1 := by
        rw [← hc1]
        simp only [World.cell?, hb2, hb]
        rw [Array.getElem?_setIfInBounds_ne (by omega)]
      have hm2 := Mk.set hg hb2 (i * 2 + 1) (Or.inl rfl) (.int .i64 (wrap64 (kk + 1)))
      have HM2 := Az.mk ((HM.out.trans hm1).trans hm2)
      rw [Nat.add_zero] at hc0
      clear hm1 hm2 hb2 hb hs hg eA' hc1
      go_wp2
      go_roundg (n - (i + 1))
      case measure => have := HI.out; omega
      case rel => exact ⟨i + 1, _, by rw [← HW1.out], rfl, ⟨by rw [HW2.out, HW3.out]; have := HV.out; omega⟩, ⟨by have := HI.out; omega⟩, HM2⟩
    · have e1b : decide ((i : Int) < (n : Int)) = false := decide_eq_false (by omega)
      have hi : i = n := by have := HI.out; omega
      subst hi
      go_wp2
      go_ret
      exact ⟨by rw [← HV.out]; rfl, HM.out⟩
theorem ShPt.cell {lo hi : Nat} {w : World} {v : Value} {n : Nat} (h : ShPt w lo hi v n) {i : Nat} (hi' : i < n) : ∃ (g c : Nat) (cs : Array Value) (u0 u1 u : Value) (m : Nat), v = .slice (some ⟨g, 0, none⟩) n c ∧ (lo ≤ g ∧ g < hi) ∧ w.heap[g]? = some (Obj.cells cs 29 (0, 0)) ∧ cs[i * 3]? = some u0 ∧ cs[i * 3 + 1]? = some u1 ∧ cs[i * 3 + 2]? = some u ∧ ShPl w lo hi u m ∧ m ≤ 1048576 := by
  rcases h with ⟨_, _, h⟩ | ⟨g, c, cs, h1, h2, h3, h4, h5⟩
  · omega
  · obtain ⟨u, m, e1, e2, e3⟩ := h5 i hi'
    exact ⟨g, c, cs, _, _, u, m, h1, h2, h3, Array.getElem?_eq_getElem (by omega), Array.getElem?_eq_getElem (by omega), e1, e2, e3⟩
set_option maxHeartbeats 4000000 in
set_option maxRecDepth 100000 in
theorem markPt_call (lo hi : Nat) (v : Value) (n : Nat) (k0 : Int) (w : World) (h : ShPt w lo hi v n) (hn : n ≤ 1048576) (hk : 0 ≤ k0 ∧ k0 ≤ 7000000000000000000) :
    Calls Try.prog 113 #[v, .int .i64 k0] w fun e w' => ∃ k' : Int, e = .returned (.int .i64 k') ∧ k0 ≤ k' ∧ k' ≤ k0 + 2097154 * n ∧ Mk lo hi w w' := by
  have hu29 := Try.underlying29
  have HS := Az.mk h
  have HN := Az.mk hn
  have HK := Az.mk hk
  have HE0 : Az (∃ A c, v = .slice A n c) := ⟨by
    rcases h with ⟨c, rfl, rfl⟩ | ⟨g, c, cs, rfl, _⟩
    · exact ⟨_, _, rfl⟩
    · exact ⟨_, _, rfl⟩⟩
  clear h hn hk
  obtain ⟨A, cc, rfl⟩ := HE0.out
  clear HE0
  have HM0 := Az.mk (Mk.refl lo hi w)
  go_enter Try.func113, Try.ntmps113
  go_wp2
  go_loopg [1, 5] n (fun kq v1 v5 wr => ∃ (i : Nat) (kk : Int), v5 = .int .i64 (i : Int) ∧ v1 = .int .i64 kk ∧ Az (k0 ≤ kk ∧ kk ≤ k0 + 2097154 * i) ∧ Az (i + kq = n) ∧ Az (Mk lo hi w wr))
  case atStart => exact ⟨0, k0, rfl, rfl, ⟨by omega⟩, ⟨Nat.zero_add _⟩, HM0⟩
  case round =>
    obtain ⟨i, kk, rfl, rfl, HV, HI, HM⟩ := hrel
    by_cases e1 : i < n
    · have e1b : decide ((i : Int) < (n : Int)) = true := decide_eq_true (by omega)
      have p1 := eq_true (show (0 : Int) ≤ (i : Int) by omega)
      have q1 := eq_true (show (i : Int) < (n : Int) by omega)
      have HW1 : Az (wrap64 ((i : Int) + 1) = ((i + 1 : Nat) : Int)) := ⟨by rw [Pure.wrap_ok (by have := HN.out; omega)]; omega⟩
      have HW2 : Az (wrap64 (kk + 1) = kk + 1) := ⟨Pure.wrap_ok (by have := HV.out; have := HK.out; have := HN.out; omega)⟩
      have HW3 : Az (wrap64 (kk + 1 + 1) = kk + 2) := ⟨by rw [Pure.wrap_ok (by have := HV.out; have := HK.out; have := HN.out; omega)]; omega⟩
      have HKB : Az (0 ≤ kk + 2 ∧ kk + 2 ≤ 8000000000000000000) := ⟨by have := HV.out; have := HK.out; have := HN.out; omega⟩
      have hs := HS.out.keep HM.out
      obtain ⟨g, c, cs, u0, u1, u, m, eA, hg, hb, hd0, hd1, hd2, hsp, hmm⟩ := hs.cell e1
      injection eA with eA _ eC
      subst eA
      subst eC
      have hc0 : wr.cell? ⟨g, i * 3, none⟩ = some u0 := (zq4 hb _).trans hd0
      have hf0 := nofreeze hb (i * 3)
      have hm1 := Mk.set hg hb (i * 3) (Or.inr (Or.inl ⟨rfl, by omega⟩)) (.int .i64 kk)
      have hb2 := blk_set hb (i * 3) (.int .i64 kk)
      have hf1 := nofreeze hb2 (i * 3 + 1)
      have hc1 : (wr.setCell ⟨g, i * 3, none⟩ (.int .i64 kk)).cell? ⟨g, i * 3 + 1, none⟩ = some u1 := by
        rw [zq4 hb2, Array.getElem?_setIfInBounds_ne (by omega)]
        exact hd1
      have hm2 := Mk.set hg hb2 (i * 3 + 1) (Or.inr (Or.inl ⟨rfl, by omega⟩)) (.int .i64 (wrap64 (kk + 1)))
      have hb3 := blk_set hb2 (i * 3 + 1) (.int .i64 (wrap64 (kk + 1)))
      have hc2 : ((wr.setCell ⟨g, i * 3, none⟩ (.int .i64 kk)).setCell ⟨g, i * 3 + 1, none⟩ (.int .i64 (wrap64 (kk + 1)))).cell? ⟨g, i * 3 + 2, none⟩ = some u := by
        rw [zq4 hb3, Array.getElem?_setIfInBounds_ne (by omega), Array.getElem?_setIfInBounds_ne (by omega)]
        exact hd2
      have HM2 := Az.mk ((HM.out.trans hm1).trans hm2)
      have HSP := Az.mk (hsp.keep (hm1.trans hm2))
      have HMM := Az.mk hmm
      clear hm1 hm2 hb3 hb2 hb hs hg hd0 hd1 hd2 hsp hmm
      go_wp2_with (first | (go_at_call 32; refine (markPl_call lo hi u m (wrap64 (wrap64 (kk + 1) + 1)) _ HSP.out HMM.out (by rw [HW2.out, HW3.out]; exact HKB.out)).mono ?_; rintro e w9 ⟨rfl, hm9⟩; have M9 := Az.mk hm9; clear hm9) | go_in)
      go_roundg (n - (i + 1))
      case measure => have := HI.out; omega
      case rel => exact ⟨i + 1, _, by rw [← HW1.out], rfl, ⟨by rw [HW2.out, HW3.out]; have := HV.out; have := HMM.out; omega⟩, ⟨by have := HI.out; omega⟩, ⟨HM2.out.trans M9.out⟩⟩
    · have e1b : decide ((i : Int) < (n : Int)) = false := decide_eq_false (by omega)
      have hi : i = n := by have := HI.out; omega
      subst hi
      go_wp2
      go_ret
      exact ⟨kk, rfl, HV.out.1, HV.out.2, HM.out⟩
theorem markText_l0 (n : Nat) : ∀ (x : Nat) (s : ByteArray), x < n → x + s.size ≤ 9223372036854775806 → ∃ r, Ev (fun k => laws_markText.l0 k (x : Int) s) r := by
  induction n with
  | zero => intro x s h; omega
  | succ n ih =>
    intro x s hx hs
    by_cases h0 : x = 0
    · refine ⟨(⟨#[109]⟩ : ByteArray) ++ s, Pure.Ev.next ?_⟩
      simp only [laws_markText.l0]
      exact Pure.Ev.neg (by omega) (Pure.Ev.pos (by omega) (Pure.Ev.ret rfl))
    · have e : wrap64 (Int.tdiv (x : Int) 10) = ((x / 10 : Nat) : Int) := by
        rw [Int.tdiv_eq_ediv_of_nonneg (by omega), Pure.wrap_ok (by omega)]
        omega
      have hz := Pure.strOfNums_size [(wrap64 (48 + (Int.tmod (x : Int) 10))) % 256]
      have hz2 : (strOfNums [(wrap64 (48 + (Int.tmod (x : Int) 10))) % 256] ++ s).size = 1 + s.size := by rw [ByteArray.size_append, hz]; rfl
      obtain ⟨r, hr⟩ := ih (x / 10) (strOfNums [(wrap64 (48 + (Int.tmod (x : Int) 10))) % 256] ++ s) (by omega) (by rw [hz2]; omega)
      refine ⟨r, Pure.Ev.next ?_⟩
      simp only [laws_markText.l0, e]
      exact Pure.Ev.pos (by omega) (Pure.Ev.take rfl (Pure.Ev.pos (by rw [hz]; simp; omega) hr))
theorem markText_some (x : Int) (hx : x ≤ 9223372036854775806) : ∃ r, ∀ w : World, Calls Try.prog 112 #[.int .i64 x] w fun e w' => e = .returned (.string r) ∧ Below w.heap.size w w' := by
  by_cases h : x ≤ 0
  · exact ⟨_, fun w => laws_markText.calls 0 x _ w (by unfold laws_markText.f; rw [if_pos h])⟩
  · obtain ⟨m, rfl⟩ := Int.eq_ofNat_of_zero_le (show 0 ≤ x by omega)
    obtain ⟨r, hr⟩ := markText_l0 (m + 1) m (⟨#[]⟩ : ByteArray) (by omega) (by show m + 0 ≤ _; omega)
    obtain ⟨k, hk⟩ := Ev.rounds hr
    exact ⟨r, fun w => laws_markText.calls k m r w (by unfold laws_markText.f; rw [if_neg h]; exact hk)⟩
theorem ShVo.cell {lo hi : Nat} {w : World} {v : Value} {n : Nat} (h : ShVo w lo hi v n) {i : Nat} (hi' : i < n) : ∃ (g c : Nat) (cs : Array Value) (u0 u : Value) (m : Nat), v = .slice (some ⟨g, 0, none⟩) n c ∧ (lo ≤ g ∧ g < hi) ∧ w.heap[g]? = some (Obj.cells cs 65 (0, 0)) ∧ cs[i * 2]? = some u0 ∧ cs[i * 2 + 1]? = some u ∧ ShPt w lo hi u m ∧ m ≤ 1048576 := by
  rcases h with ⟨_, _, h⟩ | ⟨g, c, cs, h1, h2, h3, h4, h5⟩
  · omega
  · obtain ⟨u, m, e1, e2, e3⟩ := h5 i hi'
    exact ⟨g, c, cs, _, u, m, h1, h2, h3, Array.getElem?_eq_getElem (by omega), e1, e2, e3⟩
set_option maxHeartbeats 4000000 in
set_option maxRecDepth 100000 in
theorem markVo_call (lo hi : Nat) (v : Value) (n : Nat) (k0 : Int) (w : World) (h : ShVo w lo hi v n) (hn : n ≤ 1048576) (hk : 0 ≤ k0 ∧ k0 ≤ 4000000000000000000) :
    Calls Try.prog 88 #[v, .int .i64 k0] w fun e w' => ∃ k' : Int, e = .returned (.int .i64 k') ∧ k0 ≤ k' ∧ k' ≤ k0 + 2199025352705 * n ∧ Mk lo hi w w' := by
  have hu65 := Try.underlying65
  have HS := Az.mk h
  have HN := Az.mk hn
  have HK := Az.mk hk
  have HE0 : Az (∃ A c, v = .slice A n c) := ⟨by
    rcases h with ⟨c, rfl, rfl⟩ | ⟨g, c, cs, rfl, _⟩
    · exact ⟨_, _, rfl⟩
    · exact ⟨_, _, rfl⟩⟩
  clear h hn hk
  obtain ⟨A, cc, rfl⟩ := HE0.out
  clear HE0
  have HM0 := Az.mk (Mk.refl lo hi w)
  go_enter Try.func88, Try.ntmps88
  go_wp2
  go_loopg [1, 5] n (fun kq v1 v5 wr => ∃ (i : Nat) (kk : Int), v5 = .int .i64 (i : Int) ∧ v1 = .int .i64 kk ∧ Az (k0 ≤ kk ∧ kk ≤ k0 + 2199025352705 * i) ∧ Az (i + kq = n) ∧ Az (Mk lo hi w wr))
  case atStart => exact ⟨0, k0, rfl, rfl, ⟨by omega⟩, ⟨Nat.zero_add _⟩, HM0⟩
  case round =>
    obtain ⟨i, kk, rfl, rfl, HV, HI, HM⟩ := hrel
    by_cases e1 : i < n
    · have e1b : decide ((i : Int) < (n : Int)) = true := decide_eq_true (by omega)
      have p1 := eq_true (show (0 : Int) ≤ (i : Int) by omega)
      have q1 := eq_true (show (i : Int) < (n : Int) by omega)
      have HW1 : Az (wrap64 ((i : Int) + 1) = ((i + 1 : Nat) : Int)) := ⟨by rw [Pure.wrap_ok (by have := HN.out; omega)]; omega⟩
      have HW2 : Az (wrap64 (kk + 1) = kk + 1) := ⟨Pure.wrap_ok (by have := HV.out; have := HK.out; have := HN.out; omega)⟩
      have HKB : Az (0 ≤ kk + 1 ∧ kk + 1 ≤ 7000000000000000000) := ⟨by have := HV.out; have := HK.out; have := HN.out; omega⟩
      obtain ⟨tx, htx⟩ := markText_some kk (by have := HV.out; have := HK.out; have := HN.out; omega)
      have HTX := Az.mk htx
      have hs := HS.out.keep HM.out
      obtain ⟨g, c, cs, u0, u, m, eA, hg, hb, hd0, hd1, hsp, hmm⟩ := hs.cell e1
      injection eA with eA _ eC
      subst eA
      subst eC
      have HB := Az.mk hb
      have HG := Az.mk hg
      have HD0 := Az.mk hd0
      have HD1 := Az.mk hd1
      have HSP := Az.mk hsp
      have HMM := Az.mk hmm
      clear htx hs hb hg hd0 hd1 hsp hmm
      go_wp2_with (first | (go_at_call 112; refine (HTX.out _).mono ?_; rintro e w15 ⟨rfl, hb15⟩; have hb := blk_below HB.out hb15; have hc0 := (zq4 hb (i * 2)).trans HD0.out; have hf0 := nofreeze hb (i * 2); have hm1 := Mk.of_below (lo := lo) (hi := hi) hb15; have hm2 := Mk.set HG.out hb (i * 2) (Or.inr (Or.inr ⟨rfl, by omega⟩)) (.string tx); have hb2 := blk_set hb (i * 2) (.string tx); have hc1 : (w15.setCell ⟨g, i * 2, none⟩ (.string tx)).cell? ⟨g, i * 2 + 1, none⟩ = some u := (by rw [zq4 hb2, Array.getElem?_setIfInBounds_ne (by omega)]; exact HD1.out); have HM2 := Az.mk ((HM.out.trans hm1).trans hm2); have HSP2 := Az.mk (HSP.out.keep (hm1.trans hm2)); clear hm1 hm2 hb2 hb hb15) | (go_at_call 113; refine (markPt_call lo hi u m (wrap64 (kk + 1)) _ HSP2.out HMM.out (by rw [HW2.out]; exact HKB.out)).mono ?_; rintro e w26 ⟨k9, rfl, hk9, hk8, hm9⟩; have M9 := Az.mk hm9; have K9 := Az.mk (And.intro hk9 hk8); clear hm9 hk9 hk8) | go_in)
      go_roundg (n - (i + 1))
      case measure => have := HI.out; omega
      case rel => exact ⟨i + 1, _, by rw [← HW1.out], rfl, ⟨by have h := K9.out; rw [HW2.out] at h; have := HV.out; have := HMM.out; omega⟩, ⟨by have := HI.out; omega⟩, ⟨HM2.out.trans M9.out⟩⟩
    · have e1b : decide ((i : Int) < (n : Int)) = false := decide_eq_false (by omega)
      have hi : i = n := by have := HI.out; omega
      subst hi
      go_wp2
      go_ret
      exact ⟨kk, rfl, HV.out.1, HV.out.2, HM.out⟩
set_option maxHeartbeats 4000000 in
set_option maxRecDepth 100000 in
theorem markRoot_call (lo hi : Nat) (tx : Int) (v : Value) (n : Nat) (k0 : Int) (w : World) (h : ShVo w lo hi v n) (hn : n ≤ 1048576) (hk : 0 ≤ k0 ∧ k0 ≤ 4000000000000000000) :
    Calls Try.prog 45 #[.agg #[.int .i64 tx, v], .int .i64 k0] w fun e w' => ∃ k' : Int, e = .returned (.int .i64 k') ∧ k0 ≤ k' ∧ k' ≤ k0 + 2199025352705 * n ∧ Mk lo hi w w' := by
  have hu57 := Try.underlying57
  have HE0 : Az (∃ A c, v = .slice A n c) := ⟨by
    rcases h with ⟨c, rfl, rfl⟩ | ⟨g, c, cs, rfl, _⟩
    · exact ⟨_, _, rfl⟩
    · exact ⟨_, _, rfl⟩⟩
  obtain ⟨A, cc, rfl⟩ := HE0.out
  clear HE0
  have hb : Below w.heap.size w (w.alloc (Obj.cells #[.int .i64 tx, .slice A n cc] 57)) := (Below.refl w.heap.size w).alloc (Nat.le_refl _) _
  have hc0 := ((Blk.made w #[.int .i64 tx, .slice A n cc] 57).cell 0).trans rfl
  have hc1 := ((Blk.made w #[.int .i64 tx, .slice A n cc] 57).cell 1).trans rfl
  have hm := Mk.of_below (lo := lo) (hi := hi) hb
  have HC := Az.mk (markVo_call lo hi (.slice A n cc) n k0 _ (h.keep hm) hn hk)
  have HM := Az.mk hm
  clear h hn hk hb hm
  go_enter Try.func45, Try.ntmps45
  go_wp2_with (first | (go_at_call 88; refine HC.out.mono ?_; rintro e w9 ⟨k9, rfl, hk9, hk8, hm9⟩; have M9 := Az.mk hm9; have K9 := Az.mk (And.intro hk9 hk8); clear hm9 hk9 hk8) | go_in)
  go_ret
  exact ⟨k9, rfl, K9.out.1, K9.out.2, HM.out.trans M9.out⟩
end Go.Proofs.Ytkoimmeghdbodaa.Print
namespace Go.Proofs.Ytkoimmeghdbodaa.Take
open Go.RowKit Go.Proofs.YtkoimmeghdbodaaW.PrintWords
structure Opens {α : Type} (P : Program) (t : TypeId) (d : Kd α) (Wf : α → Prop) : Prop where
  sz : P.cellsOf t = d.sz
  opens : ∀ (H : Type) (enc : TypeId × Value → H) (w : World) (base : Nat) (spare : Nat → Bool) (held : Bool) (fuel : Nat) (cs : List Value) (x : DataW H × List MemPlace), DataW.trod enc P w base spare held fuel t cs = some x → ∃ y : α, d.K w y cs ∧ Wf y
theorem list_of {α : Type} {p : Nat → α → Prop} (n : Nat) (h : ∀ i, i < n → ∃ y, p i y) : ∃ l : List α, l.length = n ∧ ∀ i y, l[i]? = some y → p i y := by
  induction n with
  | zero => exact ⟨[], rfl, fun i y hy => by simp at hy⟩
  | succ n ih =>
    obtain ⟨l, hl, hp⟩ := ih (fun i hi => h i (by omega))
    obtain ⟨z, hz⟩ := h n (by omega)
    refine ⟨l ++ [z], by simp [hl], fun i y hy => ?_⟩
    by_cases hi : i < l.length
    · rw [List.getElem?_append_left hi] at hy
      exact hp i y hy
    · have hin : i = n := by
        have h1 := (List.getElem?_eq_some_iff.1 hy).1
        simp at h1
        omega
      subst hin
      rw [List.getElem?_append_right (by omega)] at hy
      have : z = y := by simpa [hl] using hy
      rw [← this]
      exact hz
theorem addr_add (a : Addr) (i j : Nat) : (a.add i).add j = a.add (i + j) := by
  unfold Addr.add
  by_cases hi : i = 0 <;> by_cases hj : j = 0 <;> simp [hi, hj, Nat.add_assoc]
section
variable {P : Program} {t e : TypeId}
theorem Opens.int {k : IntKind} (ht : P.underlying t = some (.int k)) (hs : P.cellsOf t = 1) : Opens P t (Kd.int k) (fun x => (Lit.int k x).wf = true) := ⟨hs, by
  intro H enc w base spare held fuel cs x h
  obtain ⟨n, rfl, _, hw⟩ := DataW.trod_int ht h
  exact ⟨n, rfl, hw⟩⟩
theorem Opens.bool (ht : P.underlying t = some .bool) (hs : P.cellsOf t = 1) : Opens P t Kd.bool (fun _ => True) := ⟨hs, by
  intro H enc w base spare held fuel cs x h
  obtain ⟨b, rfl, _⟩ := DataW.trod_bool ht h
  exact ⟨b, rfl, trivial⟩⟩
theorem Opens.string (ht : P.underlying t = some .string) (hs : P.cellsOf t = 1) : Opens P t Kd.string (fun s => s.size ≤ maxLen) := ⟨hs, by
  intro H enc w base spare held fuel cs x h
  obtain ⟨s, rfl, _, hw⟩ := DataW.trod_string ht h
  exact ⟨s, rfl, hw⟩⟩
theorem Opens.slice {α : Type} {d : Kd α} {Wf : α → Prop} (ht : P.underlying t = some (.slice e)) (hs : P.cellsOf t = 1) (he : Opens P e d Wf) :
    Opens P t (Kd.slice e d) (fun l => l.length ≤ maxLen ∧ ∀ x ∈ l, Wf x) := ⟨hs, by
  intro H enc w base spare held fuel cs x h
  rcases DataW.trod_slice ht h with ⟨rfl, _⟩ | ⟨a, len, cap, elems, rest, n, _, rfl, _, _, hl, hm, hlen, hel, _⟩
  · exact ⟨[], ⟨none, 0, rfl, Nat.le_refl _, Kd.C_nil d w⟩, Nat.zero_le _, fun x hx => by simp at hx⟩
  · obtain ⟨l, hll, hp⟩ := list_of (p := fun i y => Wf y ∧ ∃ c, c.length = d.sz ∧ d.K w y c ∧ ∀ j u, c[j]? = some u → w.cell? (a.add (i * d.sz + j)) = some u) len (fun i hi => by
      have h1 := hel i hi
      rw [List.getElem?_eq_getElem (by omega)] at h1
      obtain ⟨cs', h2, h3⟩ := Option.bind_eq_some_iff.1 h1
      obtain ⟨_, h4, h5⟩ := World.cells?_some h2
      obtain ⟨y, hy, hw⟩ := he.opens H enc w base spare held n cs' _ h3
      refine ⟨y, hw, cs', h4.trans he.sz, hy, fun j u hu => ?_⟩
      have hj : j < P.cellsOf e := by
        have := (List.getElem?_eq_some_iff.1 hu).1
        omega
      have h6 := h5 j hj
      rw [addr_add, he.sz] at h6
      rw [h6, hu])
    refine ⟨l, ⟨some a, cap, by rw [hll], by omega, ?_⟩, by omega, fun x hx => ?_⟩
    · refine ⟨rfl, by have : maxLen = 9223372036854775807 := by decide
                      omega, fun _ => ⟨a, rfl, fun j p hj => (hp j p hj).2⟩⟩
    · obtain ⟨i, hi⟩ := List.getElem?_of_mem hx
      exact (hp i x hi).1⟩
structure Tail {α : Type} (P : Program) (fs : Array Field) (i o : Nat) (d : Kd α) (Wf : α → Prop) : Prop where
  opens : ∀ (H : Type) (enc : TypeId × Value → H) (w : World) (base : Nat) (spare : Nat → Bool) (held : Bool) (n : Nat) (cs : List Value) (xs : List (DataW H × List MemPlace)), xs.length = fs.size → cs.length = o + d.sz →
    (∀ (j : Nat) (f : Field), fs[j]? = some f → DataW.trod enc P w base spare held n f.type ((cs.drop f.offset).take (P.cellsOf f.type)) = xs[j]?) → ∃ y : α, d.K w y (cs.drop o) ∧ Wf y
theorem Tail.last {α : Type} {fs : Array Field} {i o : Nat} {d : Kd α} {Wf : α → Prop} (f : Field) (hf : fs[i]? = some f) (ho : f.offset = o) (h : Opens P f.type d Wf) : Tail P fs i o d Wf := ⟨by
  intro H enc w base spare held n cs xs hx hl he
  have h1 := he i f hf
  have hi : i < xs.length := by
    have := (Array.getElem?_eq_some_iff.1 hf).1
    omega
  rw [ho, h.sz, List.take_of_length_le (by rw [List.length_drop]; omega), List.getElem?_eq_getElem hi] at h1
  exact h.opens H enc w base spare held n _ _ h1⟩
theorem Tail.cons {α β : Type} {fs : Array Field} {i o : Nat} {d : Kd α} {d' : Kd β} {Wf : α → Prop} {Wf' : β → Prop} (f : Field) (hf : fs[i]? = some f) (ho : f.offset = o) (h : Opens P f.type d Wf) (k : Tail P fs (i + 1) (o + d.sz) d' Wf') :
    Tail P fs i o (Kd.pair d d') (fun p => Wf p.1 ∧ Wf' p.2) := ⟨by
  intro H enc w base spare held n cs xs hx hl he
  have h1 := he i f hf
  have hi : i < xs.length := by
    have := (Array.getElem?_eq_some_iff.1 hf).1
    omega
  rw [ho, h.sz, List.getElem?_eq_getElem hi] at h1
  obtain ⟨y, hy, hw⟩ := h.opens H enc w base spare held n _ _ h1
  have hl' : cs.length = o + (d.sz + d'.sz) := hl
  obtain ⟨z, hz, hw'⟩ := k.opens H enc w base spare held n cs xs hx (by omega) he
  exact ⟨(y, z), ⟨_, _, by rw [← List.drop_drop]; exact (List.take_append_drop d.sz (cs.drop o)).symm, hy, hz⟩, hw, hw'⟩⟩
theorem Opens.struct {α : Type} {d : Kd α} {Wf : α → Prop} {fs : Array Field} (ht : P.underlying t = some (.struct fs)) (hs : P.cellsOf t = d.sz) (k : Tail P fs 0 0 d Wf) : Opens P t d Wf := ⟨hs, by
  intro H enc w base spare held fuel cs x h
  obtain ⟨xs, n, _, _, hl, hx, he⟩ := DataW.trod_struct ht h
  obtain ⟨y, hy, hw⟩ := k.opens H enc w base spare held n cs xs hx (by omega) he
  exact ⟨y, by simpa using hy, hw⟩⟩
theorem Opens.iso {α β : Type} {d : Kd α} {Wf : α → Prop} (f : β → α) (mk : α → β) (hf : ∀ a, f (mk a) = a) (h : Opens P t d Wf) : Opens P t (Kd.iso d f) (fun y => Wf (f y)) := ⟨h.sz, by
  intro H enc w base spare held fuel cs x hx
  obtain ⟨y, hy, hw⟩ := h.opens H enc w base spare held fuel cs x hx
  exact ⟨mk y, by show d.K w (f (mk y)) cs; rw [hf]; exact hy, by rw [hf]; exact hw⟩⟩
end
end Go.Proofs.Ytkoimmeghdbodaa.Take
namespace Go.Proofs.Ytkoimmeghdbodaa.Take
open Go.RowKit Go.Proofs.Ytkoimmeghdbodaa.Print Go.Proofs.YtkoimmeghdbodaaW.PrintWords
def W3 (x : Int) : Prop := (Lit.int .i64 x).wf = true
theorem o3 : Opens Try.prog 3 (Kd.int .i64) W3 := Opens.int (by kernel_rfl) (by kernel_rfl)
def W9 (x : ByteArray) : Prop := x.size ≤ maxLen
theorem o9 : Opens Try.prog 9 Kd.string W9 := Opens.string (by kernel_rfl) (by kernel_rfl)
def W94 (x : S94) : Prop := W3 x.f0 ∧ W3 x.f1
theorem o94 : Opens Try.prog 94 k94 W94 := Opens.iso _ (fun p => (⟨p.1, p.2⟩ : S94)) (fun _ => rfl) (Opens.struct Try.underlying94 (by kernel_rfl) (Tail.cons _ rfl rfl o3 (Tail.last _ rfl rfl o3)))
def W22 (x : (List S94)) : Prop := x.length ≤ maxLen ∧ ∀ y ∈ x, W94 y
theorem o22 : Opens Try.prog 22 (Kd.slice 94 k94) W22 := Opens.slice Try.underlying22 (by kernel_rfl) o94
def W24 (x : S24) : Prop := W3 x.f0 ∧ W3 x.f1 ∧ W22 x.f2
theorem o24 : Opens Try.prog 24 k24 W24 := Opens.iso _ (fun p => (⟨p.1, p.2.1, p.2.2⟩ : S24)) (fun _ => rfl) (Opens.struct Try.underlying24 (by kernel_rfl) (Tail.cons _ rfl rfl o3 (Tail.cons _ rfl rfl o3 (Tail.last _ rfl rfl o22))))
def W118 (x : (List S24)) : Prop := x.length ≤ maxLen ∧ ∀ y ∈ x, W24 y
theorem o118 : Opens Try.prog 118 (Kd.slice 24 k24) W118 := Opens.slice Try.underlying118 (by kernel_rfl) o24
def W120 (x : S120) : Prop := W9 x.f0 ∧ W118 x.f1
theorem o120 : Opens Try.prog 120 k120 W120 := Opens.iso _ (fun p => (⟨p.1, p.2⟩ : S120)) (fun _ => rfl) (Opens.struct Try.underlying120 (by kernel_rfl) (Tail.cons _ rfl rfl o9 (Tail.last _ rfl rfl o118)))
def W50 (x : (List S120)) : Prop := x.length ≤ maxLen ∧ ∀ y ∈ x, W120 y
theorem o50 : Opens Try.prog 50 (Kd.slice 120 k120) W50 := Opens.slice Try.underlying50 (by kernel_rfl) o120
structure S52 where
  f0 : Int
  f1 : (List S120)
def k52 : Kd S52 := Kd.iso (Kd.pair (Kd.int .i64) (Kd.slice 120 k120)) (fun x : S52 => (x.f0, x.f1))
theorem k52_open {w : World} {x : S52} {cs : List Value} (h : k52.K w x cs) : ∃ A1 c1, cs = [.int .i64 x.f0, .slice A1 x.f1.length c1] ∧ x.f1.length ≤ c1 ∧ Kd.C k120 w A1 x.f1.length x.f1 := by
  obtain ⟨_, _, rfl, rfl, ⟨A1, c1, rfl, l1, g1⟩⟩ := h
  exact ⟨A1, c1, rfl, l1, g1⟩
def W52 (x : S52) : Prop := W3 x.f0 ∧ W50 x.f1
theorem o52 : Opens Try.prog 52 k52 W52 := Opens.iso _ (fun p => (⟨p.1, p.2⟩ : S52)) (fun _ => rfl) (Opens.struct Try.underlying52 (by kernel_rfl) (Tail.cons _ rfl rfl o3 (Tail.last _ rfl rfl o50)))
end Go.Proofs.Ytkoimmeghdbodaa.Take
namespace Go.Proofs.Ytkoimmeghdbodaa.Pure
open Go.RowKit Go.Proofs.Ytkoimmeghdbodaa.Print Go.Proofs.YtkoimmeghdbodaaW.PrintWords
theorem fill_set {α : Type} (l : List α) (z x : α) (i : Nat) (hx : l[i]? = some x) : (l.take i ++ List.replicate (l.length - i) z).set i x = l.take (i + 1) ++ List.replicate (l.length - (i + 1)) z := by
  have hi : i < l.length := (List.getElem?_eq_some_iff.1 hx).1
  have ht : (l.take i).length = i := by rw [List.length_take]; omega
  rw [List.set_append_right _ _ (by omega), ht, Nat.sub_self, show l.length - i = (l.length - (i + 1)) + 1 by omega, List.replicate_succ, List.set_cons_zero, List.take_add_one, hx]
  simp
theorem fill_len {α : Type} (l : List α) (z : α) (i : Nat) (h : i ≤ l.length) : (l.take i ++ List.replicate (l.length - i) z).length = l.length := by
  simp only [List.length_append, List.length_take, List.length_replicate]
  omega
theorem fill_end {α : Type} (l : List α) (z : α) : l.take l.length ++ List.replicate (l.length - l.length) z = l := by simp
def pl (x : S94) : S37 := ⟨x.f0, x.f1⟩
def pls (l : List S94) : List S37 := l.map pl
theorem pls_length (l : List S94) : (pls l).length = l.length := by simp [pls]
theorem pls_some {l : List S94} {i : Nat} (h : i < l.length) : (pls l)[i]? = some (⟨(rd_T94 l (i : Int)).f0, (rd_T94 l (i : Int)).f1⟩ : S37) := by
  simp [pls, pl, rd_T94, List.getD, h]
theorem toPlaceS_l0 (l : List S94) (hl : l.length ≤ 1048576) (d : Nat) : ∀ i : Nat, i + d = l.length →
    Ev (fun k => laws_toPlaceS.l0 k l ((pls l).take i ++ List.replicate ((pls l).length - i) z37) (i : Int)) (pls l) := by
  have hp := pls_length l
  induction d with
  | zero =>
    intro i hi
    refine Ev.next ?_
    simp only [laws_toPlaceS.l0]
    have hil : i = (pls l).length := by omega
    subst hil
    exact Ev.neg (by omega) (Ev.ret (fill_end (pls l) _))
  | succ d ih =>
    intro i hi
    have e : wrap64 ((i : Int) + 1) = ((i + 1 : Nat) : Int) := by rw [wrap_ok (by omega)]; omega
    have hih := ih (i + 1) (by omega)
    have hlen := fill_len (pls l) z37 i (by omega)
    refine Ev.next ?_
    simp only [laws_toPlaceS.l0, e, Int.toNat_natCast]
    clear e
    refine Ev.pos (by omega) (Ev.pos (by omega) (Ev.take rfl (Ev.pos (by omega) ?_)))
    rw [fill_set (pls l) _ _ i (pls_some (by omega))]
    exact hih
theorem toPlaceS_ev (l : List S94) (hl : l.length ≤ 1048576) : Ev (fun k => laws_toPlaceS.f k l) (pls l) := by
  have h := toPlaceS_l0 l hl l.length 0 (Nat.zero_add _)
  simp only [List.take_zero, List.nil_append, Nat.sub_zero, pls_length] at h
  unfold laws_toPlaceS.f
  simp only [Int.toNat_natCast]
  exact Ev.pos (by omega) (Ev.pos (by omega) h)
theorem eqPlaceS_l0 (l : List S37) (hl : l.length ≤ 1048576) (d : Nat) : ∀ i : Nat, i + d = l.length → Ev (fun k => laws_eqPlaceS.l0 k l l (i : Int)) true := by
  induction d with
  | zero =>
    intro i hi
    refine Ev.next ?_
    simp only [laws_eqPlaceS.l0]
    exact Ev.neg (by omega) (Ev.ret rfl)
  | succ d ih =>
    intro i hi
    have e : wrap64 ((i : Int) + 1) = ((i + 1 : Nat) : Int) := by rw [wrap_ok (by omega)]; omega
    have hih := ih (i + 1) (by omega)
    refine Ev.next ?_
    simp only [laws_eqPlaceS.l0, e]
    clear e
    exact Ev.pos (by omega) (Ev.pos (by omega) (Ev.pos (by omega) (Ev.take (a := true) (by simp [laws_eqPlace.f]) (Ev.pos rfl hih))))
theorem eqPlaceS_ev (l : List S37) (hl : l.length ≤ 1048576) : Ev (fun k => laws_eqPlaceS.f k l l) true := by
  unfold laws_eqPlaceS.f
  exact Ev.pos rfl (eqPlaceS_l0 l hl _ 0 (Nat.zero_add _))
theorem eqPtr_ev (s m : Int) (l : List S37) (hl : l.length ≤ 1048576) : Ev (fun k => laws_eqPtr.f k s m l s m l) true := by
  unfold laws_eqPtr.f
  exact Ev.pos rfl (Ev.pos rfl (Ev.bind (eqPlaceS_ev l hl) (Ev.pos rfl (Ev.ret rfl))))
end Go.Proofs.Ytkoimmeghdbodaa.Pure
namespace Go.Proofs.Ytkoimmeghdbodaa.Print
open Go.RowKit Go.Proofs.YtkoimmeghdbodaaW.PrintWords Go.Proofs.YtkoimmeghdbodaaW.PrintLast Go.Proofs.YtkoimmeghdbodaaW.PrintMore
attribute [local go_sem] max2_int min2_int max_two min_two max_three min_three max_four min_four   -- for this text's walks alone
set_option linter.unusedVariables false
set_option linter.unusedSimpArgs false
def spec_l2All.l0 : Nat → List (S29) → Int → Int → List (S65) → Option ((List (S29)))
 | 0, _, _, _, _ => none
 | k + 1, x3, x4, x425000, x425001 => if x4 < (x425001.length : Int) then (if 0 ≤ x4 then (if x3.length + ((rd_T65 x425001 x4).f1).length < 3518437208883 then (spec_l2All.l0 k (x3 ++ ((rd_T65 x425001 x4).f1)) (wrap64 (x4 + 1)) x425000 x425001) else (none)) else (none)) else (some x3)
def spec_l2All.f (k : Nat) (a0_0 : Int) (l0_1 : List (S65)) : Option ((List (S29))) := spec_l2All.l0 k (([] : List (S29))) 0 a0_0 l0_1
set_option maxHeartbeats 8000000 in
set_option maxRecDepth 100000 in
theorem spec_l2All.calls (k : Nat) (a0_0 : Int) (P0_1_ : Nat → Prop) (A0_1 : Option Addr) (c0_1 : Nat) (l0_1 : List (S65)) (r : List (S29)) (w : World) (hs0_1 : Kd.V k65 65 w w.heap.size (fun k_ => P0_1_ k_) (.slice A0_1 l0_1.length c0_1) l0_1) (h : spec_l2All.f k a0_0 l0_1 = some r) :
  Calls Try.prog 86 #[.agg #[.int .i64 a0_0, .slice A0_1 l0_1.length c0_1]] w fun e w' => ∃ v0_ : Value, e = .returned (v0_) ∧ Kd.N k29 29 w' w.heap.size (fun k_ => (P0_1_ k_ ∨ w.heap.size ≤ k_)) v0_ r ∧ Below w.heap.size w w' := by
 have hu57 := Try.underlying57
 have HO0_1 := Az.mk (show Kd.V k65 65 w w.heap.size (fun k_ => (P0_1_ k_ ∨ w.heap.size ≤ k_)) (.slice A0_1 l0_1.length c0_1) l0_1 from Kd.V_mono hs0_1 (fun k_ hk => .inl hk))
 have HB := Az.mk (Below.refl w.heap.size w)
 have H : (spec_l2All.l0 k (([] : List (S29))) 0 a0_0 l0_1) = some r := h
 clear h
 obtain ⟨y425, hy425⟩ : ∃ y_ : List (S29), y_ = (([] : List (S29))) := ⟨_, rfl⟩
 replace H : (spec_l2All.l0 k y425 0 a0_0 l0_1) = some r := by first | (rw [hy425]; with_reducible exact H) | (have H2_ := (Option.bind_some _ _).symm.trans H; rw [hy425]; with_reducible exact H2_) | (have H2_ := (Option.bind_some _ _).symm.trans H; with_reducible exact H2_) | with_reducible exact H | (rw [hy425]; exact H) | exact H
 have Ny425 := Az.mk hy425
 clear hy425
 have H' := Az.mk H
 clear H
 go_enter Try.func86, Try.ntmps86
 go_wp2_with (first | ((with_reducible refine zqg (N := 1) rfl ?_); refine zqb ?hg (N := 1) ?hd (cs := #[.int .i64 a0_0, .slice A0_1 l0_1.length c0_1]) (t := 57) ?hr ?_; (case hd => rfl); (case hg => rfl); (case hr => first | (go_simp; done) | (go_simp; rfl)); intro gb424 hg w2 hbox hb; have n0_ := Az.mk (Kd.V_below (Kd.V_elderB (by (with_reducible repeat (first | apply Kd.V_alloc | apply Kd.V_drewN | apply Kd.V_drew)); exact HO0_1.out) gb424 (Nat.le_of_eq hg.symm)) hb); have n1_ := Az.mk (below_step (by repeat (first | (with_reducible first | exact HB.out | apply zq2 | apply zq1 | apply zqd) | exact HB.out)) hb); have n2_ := Az.mk (hbox); have n3_ := Az.mk ((by rw [hg]; exact (below_size (by repeat (first | (with_reducible first | exact HB.out | apply zq2 | apply zq1 | apply zqd) | exact HB.out))) : w.heap.size ≤ gb424)); have n4_ := Az.mk ((by rw [hg]; exact (below_size (by repeat (first | (with_reducible first | exact HB.out | apply zq2 | apply zq1 | apply zqd) | exact HB.out))) : w.heap.size ≤ gb424)); clear HO0_1; clear HB; have HO0_1 := n0_; have HB := n1_; have BK424 := n2_; have GW424 := n3_; have GE424 := n4_; clear n0_ n1_ n2_ n3_ n4_; clear hb hbox hg) | ((with_reducible refine zqg (N := 5) rfl ?_); refine Kd.N_lit k29 _ 29 ?hg (N' := 5) ?hd (xs := ([] : List (S29))) (inner := []) (ok := (fun k_ => (P0_1_ k_ ∨ w.heap.size ≤ k_) ∧ k_ ≠ gb424)) (okp := (fun k_ => (P0_1_ k_ ∨ w.heap.size ≤ k_) ∧ k_ ≠ gb424)) ?hr ?hp (fun _ hk => hk) ((show ∀ k_, w2.heap.size ≤ k_ → (fun k_ => (P0_1_ k_ ∨ w.heap.size ≤ k_) ∧ k_ ≠ gb424) k_ from fun k_ hk => ⟨(.inr (Nat.le_trans (below_size (by repeat (first | (with_reducible first | exact HB.out | apply zq2 | apply zq1 | apply zqd | refine zq3 ?_ GE424.out) | exact HB.out))) hk)), Kd.freshB (g := gb424) (o := .cells #[.int .i64 a0_0, .slice A0_1 l0_1.length c0_1] 57 (0, 0)) (by (with_reducible repeat (first | refine zq6 ?_ _ | refine zq8 ?_ | refine zq7 ?_ _)); exact BK424.out) k_ hk⟩) _ (Nat.le_refl _)) (Below.refl _ _) (Nat.le_refl _) (by simp) ?_; (case hd => rfl); (case hg => rfl); (case hr => first | (go_simp; done) | (go_simp; rfl)); (case hp => exact (Reps.none _ _)); intro v426 w3 ho4 hb hg_ hnew_; clear hg_ hnew_; (first | rw [← Ny425.out] at ho4 | (simp only [Int.reduceToNat] at ho4; rw [← Ny425.out] at ho4)); have n0_ := Az.mk (Kd.V_elder' (by (with_reducible repeat (first | apply Kd.V_alloc | apply Kd.V_drewN | apply Kd.V_drew)); exact HO0_1.out) (Kd.N_base ho4) hb); have n1_ := Az.mk (Kd.N_lower ho4 (below_size (by repeat (first | (with_reducible first | exact HB.out | apply zq2 | apply zq1 | apply zqd | refine zq3 ?_ GE424.out) | exact HB.out)))); have n2_ := Az.mk (blk_below (g := gb424) (o := .cells #[.int .i64 a0_0, .slice A0_1 l0_1.length c0_1] 57 (0, 0)) (by (with_reducible repeat (first | refine zq6 ?_ _ | refine zq8 ?_ | refine zq7 ?_ _)); exact BK424.out) hb); have n3_ := Az.mk (below_step (by repeat (first | (with_reducible first | exact HB.out | apply zq2 | apply zq1 | apply zqd | refine zq3 ?_ GE424.out) | exact HB.out)) hb); clear HO0_1; clear BK424; clear HB; have HO0_1 := n0_; have HO427 := n1_; have BK424 := n2_; have HB := n3_; clear n0_ n1_ n2_ n3_; clear hb ho4))
 go_loopg [3, 4] k (fun kq v3 v4 w' => ∃ (x3_1 : List (S29)) (x4_1 : Int), v4 = .int .i64 x4_1 ∧ Az (spec_l2All.l0 kq x3_1 x4_1 a0_0 l0_1 = some r) ∧ Az (kq ≤ k) ∧ Az (Kd.N k29 29 w' w.heap.size (fun k_ => (P0_1_ k_ ∨ w.heap.size ≤ k_) ∧ k_ ≠ gb424) v3 x3_1) ∧ Az (Kd.V k65 65 w' w.heap.size (fun k_ => (P0_1_ k_ ∨ w.heap.size ≤ k_) ∧ some k_ ≠ (v3 : Value).ownBlock ∧ k_ ≠ gb424) (.slice A0_1 l0_1.length c0_1) l0_1) ∧ Az (w'.heap[gb424]? = some (.cells #[.int .i64 a0_0, (.slice A0_1 l0_1.length c0_1)] 57 (0, 0))) ∧ Az (Below w.heap.size w w'))
 case atStart => exact ⟨(y425), (0), (by first | rfl | (simp; done) | (simp [*]; done)), H', ⟨Nat.le_refl _⟩, ⟨by (with_reducible repeat (first | apply Kd.N_alloc | apply Kd.N_drewN | apply Kd.N_drew)); exact HO427.out⟩, ⟨by (with_reducible repeat (first | apply Kd.V_alloc | apply Kd.V_drewN | apply Kd.V_drew)); exact Kd.V_mono HO0_1.out (fun _ hk => ⟨hk.1.1, ⟨hk.2, hk.1.2⟩⟩)⟩, ⟨by (with_reducible repeat (first | refine zq6 ?_ _ | refine zq8 ?_ | refine zq7 ?_ _)); exact BK424.out⟩, ⟨by repeat (first | (with_reducible first | exact HB.out | apply zq2 | apply zq1 | apply zqd | refine zq3 ?_ GE424.out) | exact HB.out)⟩⟩
 case round =>
  clear H'
  try clear p2
  obtain ⟨x3_1, x4_1, rfl, HA, HK1, HO_3, HO_425001, BK424, HB⟩ := hrel
  cases gk with
  | zero => exact absurd HA.out (by simp [spec_l2All.l0])
  | succ k1 =>
   have H := HA.out
   clear HA
   simp only [spec_l2All.l0] at H
   by_cases c5 : x4_1 < (l0_1.length : Int)
   ·rw [if_pos c5] at H
    have c5b0 : decide (x4_1 < (l0_1.length : Int)) = true := decide_eq_true c5
    clear c5
    by_cases c6 : 0 ≤ x4_1
    ·rw [if_pos c6] at H
     have c6b0 : decide (0 ≤ x4_1) = true := decide_eq_true c6
     clear c6
     by_cases c7 : x3_1.length + ((rd_T65 l0_1 x4_1).f1).length < 3518437208883
     ·rw [if_pos c7] at H
      have LMc7 := Az.mk c7
      clear c7
      obtain ⟨y429, hy429⟩ : ∃ y_ : List (S29), y_ = (x3_1 ++ ((rd_T65 l0_1 x4_1).f1)) := ⟨_, rfl⟩
      replace H : (spec_l2All.l0 k1 y429 (wrap64 (x4_1 + 1)) a0_0 l0_1) = some r := by first | (rw [hy429]; with_reducible exact H) | (have H2_ := (Option.bind_some _ _).symm.trans H; rw [hy429]; with_reducible exact H2_) | (have H2_ := (Option.bind_some _ _).symm.trans H; with_reducible exact H2_) | with_reducible exact H | (rw [hy429]; exact H) | exact H
      have Ny429 := Az.mk hy429
      clear hy429
      have H' := Az.mk H
      clear H
      have hcz8_0 : wr.cell? ⟨gb424, 0, none⟩ = some (.int .i64 a0_0) := (zq4 BK424.out 0).trans rfl
      have hcz8_1 : wr.cell? ⟨gb424, 1, none⟩ = some (.slice A0_1 l0_1.length c0_1) := (zq4 BK424.out 1).trans rfl
      have hfz8_0 := zq5 BK424.out 0
      have hfz8_1 := zq5 BK424.out 1
      have p428 : 0 ≤ (x4_1 : Int) := of_decide_eq_true (by first | (with_reducible assumption) | assumption)
      have q428 : x4_1 < (l0_1.length : Int) := of_decide_eq_true (by first | (with_reducible assumption) | assumption)
      obtain ⟨ad428, A428_1, c428_1, e428, hx428_0, hx428_1, hl428_1, hi428_1⟩ := at_T65 (Kd.V_reads' HO_425001.out).2.2 x4_1 p428 q428
      cases e428
      obtain ⟨ce428, hce428, hMe428, hcc428⟩ := Kd.V_get HO_425001.out z65 x4_1 p428 (by first | exact q428 | exact of_decide_eq_true (by first | (with_reducible assumption) | assumption) | (have e_ := (Kd.V_reads' HO_425001.out).1; omega))
      obtain ⟨ua428_1, uc428_1, rfl, ul428_1, ge428_1⟩ := k65_openF hMe428
      have hv428_1 := hcc428 1 _ rfl
      rw [add_field _ _ 1 (by omega)] at hv428_1
      replace hv428_1 := Option.some.inj (hv428_1.symm.trans hx428_1)
      injection hv428_1 with hva_ hvn_ hvc_
      rw [hva_] at ge428_1
      rw [hvc_] at ul428_1
      have HL428_1 := Az.mk (show Kd.V k29 29 _ w.heap.size _ _ ((rd_T65 l0_1 x4_1).f1) from Kd.V_mk ul428_1 ge428_1)
      clear hva_ hvn_ hvc_ ge428_1 ul428_1
      clear hcc428 hce428
      have HR428_1 := Az.mk hi428_1
      have HC428_1 := Az.mk hl428_1
      clear hi428_1 hl428_1
      replace p428 := eq_true p428
      replace q428 := eq_true q428
      go_wp2_with (first | ((with_reducible refine gate_builtin (b := .append) (xs := #[.tmp 13, .tmp 19]) rfl ?_); at_builtin; refine Kd.N_append_rows k29 (w0 := w) w.heap.size rfl (.tmp 13) (.tmp 19) 63 29 (.agg #[(.int .i64 0), (.int .i64 0), (.slice none 0 0)]) 40 rfl Try.underlying63 info29 rfl (by decide) (by omega) u3 x3_1 ((rd_T65 l0_1 x4_1).f1) _ _ _ (fun k_ => (P0_1_ k_ ∨ w.heap.size ≤ k_) ∧ k_ ≠ gb424) (fun k_ => ((fun k_ => (P0_1_ k_ ∨ w.heap.size ≤ k_) ∧ k_ ≠ gb424)) k_ ∧ some k_ ≠ (u3 : Value).ownBlock) rfl rfl ?aO ?aR (fun _ hk => hk) ?aF ?aB ?aS ?aL ?_; (case aR => exact (by skip; exact Kd.V_F (Kd.V_mono (ok' := (fun k_ => ((fun k_ => (P0_1_ k_ ∨ w.heap.size ≤ k_) ∧ k_ ≠ gb424)) k_ ∧ some k_ ≠ (u3 : Value).ownBlock)) (HL428_1.out) (fun k_ hk => ⟨⟨hk.1, hk.2.2⟩, hk.2.1⟩)))); (case aB => exact (by repeat (first | (with_reducible first | exact HB.out | apply zq2 | apply zq1 | apply zqd | refine zq3 ?_ GE424.out) | exact HB.out))); (case aF => exact (fun k_ hk => ⟨(.inr (Nat.le_trans (below_size (by repeat (first | (with_reducible first | exact HB.out | apply zq2 | apply zq1 | apply zqd | refine zq3 ?_ GE424.out) | exact HB.out))) hk)), Kd.freshB (g := gb424) (o := .cells #[.int .i64 a0_0, .slice (some ad428) l0_1.length c0_1] 57 (0, 0)) (by (with_reducible repeat (first | refine zq6 ?_ _ | refine zq8 ?_ | refine zq7 ?_ _)); exact BK424.out) k_ hk⟩)); (case aO => exact (by (with_reducible repeat (first | apply Kd.N_alloc | apply Kd.N_drewN | apply Kd.N_drew)); exact HO_3.out)); (case aS => exact (below_size (by repeat (first | (with_reducible first | exact HB.out | apply zq2 | apply zq1 | apply zqd | refine zq3 ?_ GE424.out) | exact HB.out)))); (case aL => have := LMc7.out; omega); intro v430 w9 ho hb hg hat; rw [← Ny429.out] at ho; have n0_ := Az.mk (Kd.V_afterv (ok := (fun k_ => (P0_1_ k_ ∨ w.heap.size ≤ k_) ∧ k_ ≠ gb424)) (by (with_reducible repeat (first | apply Kd.V_alloc | apply Kd.V_drewN | apply Kd.V_drew)); exact Kd.V_mono HO_425001.out (fun _ hk => ⟨⟨hk.1, hk.2.2⟩, hk.2.1⟩)) hg hat); have n1_ := Az.mk (blk_grown (g := gb424) (o := .cells #[.int .i64 a0_0, .slice (some ad428) l0_1.length c0_1] 57 (0, 0)) (by (with_reducible repeat (first | refine zq6 ?_ _ | refine zq8 ?_ | refine zq7 ?_ _)); exact BK424.out) hg (Kd.N_ne HO_3.out BK424.out (by decide))); have n2_ := Az.mk (Kd.V_afterv (ok := (fun k_ => (P0_1_ k_ ∨ w.heap.size ≤ k_) ∧ k_ ≠ gb424)) (by (with_reducible repeat (first | apply Kd.V_alloc | apply Kd.V_drewN | apply Kd.V_drew)); exact Kd.V_mono HL428_1.out (fun _ hk => ⟨⟨hk.1, hk.2.2⟩, hk.2.1⟩)) hg hat); have n3_ := Az.mk (hb); have n4_ := Az.mk (ho); clear HO_425001; clear BK424; clear HL428_1; clear HB; clear HO_3; have HO_425001 := n0_; have BK424 := n1_; have HL428_1 := n2_; have HB := n3_; have HO431 := n4_; clear n0_ n1_ n2_ n3_ n4_; clear ho hb hg hat))
      go_roundg k1
      case measure => have := HK1.out; omega
      case rel => exact ⟨(y429), (wrap64 (x4_1 + 1)), (by first | rfl | (simp; done) | (simp [*]; done)), H', ⟨by have := HK1.out; omega⟩, ⟨by (with_reducible repeat (first | apply Kd.N_alloc | apply Kd.N_drewN | apply Kd.N_drew)); exact HO431.out⟩, ⟨by (with_reducible repeat (first | apply Kd.V_alloc | apply Kd.V_drewN | apply Kd.V_drew)); exact Kd.V_mono HO_425001.out (fun _ hk => ⟨hk.1.1, ⟨hk.2, hk.1.2⟩⟩)⟩, ⟨by (with_reducible repeat (first | refine zq6 ?_ _ | refine zq8 ?_ | refine zq7 ?_ _)); exact BK424.out⟩, ⟨by repeat (first | (with_reducible first | exact HB.out | apply zq2 | apply zq1 | apply zqd | refine zq3 ?_ GE424.out) | exact HB.out)⟩⟩
     ·rw [if_neg c7] at H
      exact absurd H (by simp)
    ·rw [if_neg c6] at H
     exact absurd H (by simp)
   ·rw [if_neg c5] at H
    have c5b0 : decide (x4_1 < (l0_1.length : Int)) = false := decide_eq_false c5
    clear c5
    obtain rfl := Option.some.inj H
    have hcz10_0 : wr.cell? ⟨gb424, 0, none⟩ = some (.int .i64 a0_0) := (zq4 BK424.out 0).trans rfl
    have hcz10_1 : wr.cell? ⟨gb424, 1, none⟩ = some (.slice A0_1 l0_1.length c0_1) := (zq4 BK424.out 1).trans rfl
    have hfz10_0 := zq5 BK424.out 0
    have hfz10_1 := zq5 BK424.out 1
    go_wp2
    go_ret
    exact ⟨_, by first | rfl | (simp [errW_none, errW_some] <;> rfl) | (simp [*, errW_none, errW_some] <;> rfl), by (with_reducible repeat (first | apply Kd.N_alloc | apply Kd.N_drewN | apply Kd.N_drew)); exact Kd.N_mono HO_3.out (fun _ hk => hk.1), by repeat (first | (with_reducible first | exact HB.out | apply zq2 | apply zq1 | apply zqd | refine zq3 ?_ GE424.out) | exact HB.out)⟩
end Go.Proofs.Ytkoimmeghdbodaa.Print
namespace Go.Proofs.Ytkoimmeghdbodaa.Print
open Go.RowKit Go.Proofs.YtkoimmeghdbodaaW.PrintWords Go.Proofs.YtkoimmeghdbodaaW.PrintLast Go.Proofs.YtkoimmeghdbodaaW.PrintMore
attribute [local go_sem] max2_int min2_int max_two min_two max_three min_three max_four min_four   -- for this text's walks alone
set_option linter.unusedVariables false
set_option linter.unusedSimpArgs false
attribute [local go_sem high] eqA37
mutual
def spec_l2Meet.l0 : Nat → Int → Int → Int → List (S37) → Int → Int → List (S37) → Option (Bool)
 | 0, _, _, _, _, _, _, _ => none
 | k + 1, x5, x433000, x433001, x433002, x434000, x434001, x434002 => if x5 < (x433002.length : Int) then (spec_l2Meet.l1 k x5 0 x433000 x433001 x433002 x434000 x434001 x434002) else (some false)
def spec_l2Meet.l1 : Nat → Int → Int → Int → Int → List (S37) → Int → Int → List (S37) → Option (Bool)
 | 0, _, _, _, _, _, _, _, _ => none
 | k + 1, x5, x6, x433000, x433001, x433002, x434000, x434001, x434002 => if x6 < (x434002.length : Int) then (if 0 ≤ x5 then (if x5 < (x433002.length : Int) then (if 0 ≤ x6 then (if (((rd_T37 x433002 x5).f0) == ((rd_T37 x434002 x6).f0) && (((rd_T37 x433002 x5).f1) == ((rd_T37 x434002 x6).f1))) = true then (some true) else (spec_l2Meet.l1 k x5 (wrap64 (x6 + 1)) x433000 x433001 x433002 x434000 x434001 x434002)) else (none)) else (none)) else (none)) else (spec_l2Meet.l0 k (wrap64 (x5 + 1)) x433000 x433001 x433002 x434000 x434001 x434002)
end
def spec_l2Meet.f (k : Nat) (a0_0 : Int) (a0_1 : Int) (l0_2 : List (S37)) (a1_0 : Int) (a1_1 : Int) (l1_2 : List (S37)) : Option (Bool) := spec_l2Meet.l0 k 0 a0_0 a0_1 l0_2 a1_0 a1_1 l1_2
set_option maxHeartbeats 8000000 in
set_option maxRecDepth 100000 in
theorem spec_l2Meet.calls (k : Nat) (a0_0 : Int) (a0_1 : Int) (A0_2 : Option Addr) (c0_2 : Nat) (l0_2 : List (S37)) (a1_0 : Int) (a1_1 : Int) (A1_2 : Option Addr) (c1_2 : Nat) (l1_2 : List (S37)) (r : Bool) (w : World) (hr0_2 : Kd.C k37 w A0_2 l0_2.length l0_2) (hc0_2 : l0_2.length ≤ c0_2) (hr1_2 : Kd.C k37 w A1_2 l1_2.length l1_2) (hc1_2 : l1_2.length ≤ c1_2) (h : spec_l2Meet.f k a0_0 a0_1 l0_2 a1_0 a1_1 l1_2 = some r) :
  Calls Try.prog 87 #[.agg #[.int .i64 a0_0, .int .i64 a0_1, .slice A0_2 l0_2.length c0_2], .agg #[.int .i64 a1_0, .int .i64 a1_1, .slice A1_2 l1_2.length c1_2]] w fun e w' => e = .returned (.bool r) ∧ Below w.heap.size w w' := by
 have hu29 := Try.underlying29
 have hu37 := Try.underlying37
 have HR0_2 := Az.mk hr0_2
 have HC0_2 := Az.mk hc0_2
 clear hr0_2 hc0_2
 have HR1_2 := Az.mk hr1_2
 have HC1_2 := Az.mk hc1_2
 clear hr1_2 hc1_2
 have HB := Az.mk (Below.refl w.heap.size w)
 have H : (spec_l2Meet.l0 k 0 a0_0 a0_1 l0_2 a1_0 a1_1 l1_2) = some r := h
 clear h
 have H' := Az.mk H
 clear H
 go_enter Try.func87, Try.ntmps87
 go_wp2_with (first | ((with_reducible refine zqg (N := 2) rfl ?_); refine zqb ?hg (N := 2) ?hd (cs := #[.int .i64 a0_0, .int .i64 a0_1, .slice A0_2 l0_2.length c0_2]) (t := 29) ?hr ?_; (case hd => rfl); (case hg => rfl); (case hr => first | (go_simp; done) | (go_simp; rfl)); intro gb432 hg w3 hbox hb; have n0_ := Az.mk (below_step (by repeat (first | (with_reducible first | exact HB.out | apply zq2 | apply zq1 | apply zqd) | exact HB.out)) hb); have n1_ := Az.mk (hbox); have n2_ := Az.mk ((by rw [hg]; exact (below_size (by repeat (first | (with_reducible first | exact HB.out | apply zq2 | apply zq1 | apply zqd) | exact HB.out))) : w.heap.size ≤ gb432)); have n3_ := Az.mk ((by rw [hg]; exact (below_size (by repeat (first | (with_reducible first | exact HB.out | apply zq2 | apply zq1 | apply zqd) | exact HB.out))) : w.heap.size ≤ gb432)); clear HB; have HB := n0_; have BK432 := n1_; have GW432 := n2_; have GE432 := n3_; clear n0_ n1_ n2_ n3_; clear hb hbox hg) | ((with_reducible refine zqg (N := 3) rfl ?_); refine zqb ?hg (N := 3) ?hd (cs := #[.int .i64 a1_0, .int .i64 a1_1, .slice A1_2 l1_2.length c1_2]) (t := 29) ?hr ?_; (case hd => rfl); (case hg => rfl); (case hr => first | (go_simp; done) | (go_simp; rfl)); intro gb433 hg w4 hbox hb; have n0_ := Az.mk (blk_below (g := gb432) (o := .cells #[.int .i64 a0_0, .int .i64 a0_1, .slice A0_2 l0_2.length c0_2] 29 (0, 0)) (by (with_reducible repeat (first | refine zq6 ?_ _ | refine zq8 ?_ | refine zq7 ?_ _)); exact BK432.out) hb); have n1_ := Az.mk (below_step (by repeat (first | (with_reducible first | exact HB.out | apply zq2 | apply zq1 | apply zqd | refine zq3 ?_ GE432.out) | exact HB.out)) hb); have n2_ := Az.mk (hbox); have n3_ := Az.mk ((by rw [hg]; exact (below_size (by repeat (first | (with_reducible first | exact HB.out | apply zq2 | apply zq1 | apply zqd | refine zq3 ?_ GE432.out) | exact HB.out))) : w.heap.size ≤ gb433)); have n4_ := Az.mk ((by rw [hg]; exact (below_size (by repeat (first | (with_reducible first | exact HB.out | apply zq2 | apply zq1 | apply zqd | refine zq3 ?_ GE432.out) | exact HB.out))) : w.heap.size ≤ gb433)); have n5_ := Az.mk ((by rw [hg]; exact Nat.ne_of_lt (blk_lt (g := gb432) (o := .cells #[.int .i64 a0_0, .int .i64 a0_1, .slice A0_2 l0_2.length c0_2] 29 (0, 0)) (by (with_reducible repeat (first | refine zq6 ?_ _ | refine zq8 ?_ | refine zq7 ?_ _)); exact BK432.out)) : gb432 ≠ gb433)); have n6_ := Az.mk ((by rw [hg]; exact Nat.ne_of_gt (blk_lt (g := gb432) (o := .cells #[.int .i64 a0_0, .int .i64 a0_1, .slice A0_2 l0_2.length c0_2] 29 (0, 0)) (by (with_reducible repeat (first | refine zq6 ?_ _ | refine zq8 ?_ | refine zq7 ?_ _)); exact BK432.out)) : gb433 ≠ gb432)); clear BK432; clear HB; have BK432 := n0_; have HB := n1_; have BK433 := n2_; have GW433 := n3_; have GE433 := n4_; have NB432_433 := n5_; have NB433_432 := n6_; clear n0_ n1_ n2_ n3_ n4_ n5_ n6_; clear hb hbox hg))
 repeat (go_quiet (first | ((with_reducible refine zqg (N := 2) rfl ?_); refine zqb ?hg (N := 2) ?hd (cs := #[.int .i64 a0_0, .int .i64 a0_1, .slice A0_2 l0_2.length c0_2]) (t := 29) ?hr ?_; (case hd => rfl); (case hg => rfl); (case hr => first | (go_simp; done) | (go_simp; rfl)); intro gb432 hg w3 hbox hb; have n0_ := Az.mk (below_step (by repeat (first | (with_reducible first | exact HB.out | apply zq2 | apply zq1 | apply zqd) | exact HB.out)) hb); have n1_ := Az.mk (hbox); have n2_ := Az.mk ((by rw [hg]; exact (below_size (by repeat (first | (with_reducible first | exact HB.out | apply zq2 | apply zq1 | apply zqd) | exact HB.out))) : w.heap.size ≤ gb432)); have n3_ := Az.mk ((by rw [hg]; exact (below_size (by repeat (first | (with_reducible first | exact HB.out | apply zq2 | apply zq1 | apply zqd) | exact HB.out))) : w.heap.size ≤ gb432)); clear HB; have HB := n0_; have BK432 := n1_; have GW432 := n2_; have GE432 := n3_; clear n0_ n1_ n2_ n3_; clear hb hbox hg) | ((with_reducible refine zqg (N := 3) rfl ?_); refine zqb ?hg (N := 3) ?hd (cs := #[.int .i64 a1_0, .int .i64 a1_1, .slice A1_2 l1_2.length c1_2]) (t := 29) ?hr ?_; (case hd => rfl); (case hg => rfl); (case hr => first | (go_simp; done) | (go_simp; rfl)); intro gb433 hg w4 hbox hb; have n0_ := Az.mk (blk_below (g := gb432) (o := .cells #[.int .i64 a0_0, .int .i64 a0_1, .slice A0_2 l0_2.length c0_2] 29 (0, 0)) (by (with_reducible repeat (first | refine zq6 ?_ _ | refine zq8 ?_ | refine zq7 ?_ _)); exact BK432.out) hb); have n1_ := Az.mk (below_step (by repeat (first | (with_reducible first | exact HB.out | apply zq2 | apply zq1 | apply zqd | refine zq3 ?_ GE432.out) | exact HB.out)) hb); have n2_ := Az.mk (hbox); have n3_ := Az.mk ((by rw [hg]; exact (below_size (by repeat (first | (with_reducible first | exact HB.out | apply zq2 | apply zq1 | apply zqd | refine zq3 ?_ GE432.out) | exact HB.out))) : w.heap.size ≤ gb433)); have n4_ := Az.mk ((by rw [hg]; exact (below_size (by repeat (first | (with_reducible first | exact HB.out | apply zq2 | apply zq1 | apply zqd | refine zq3 ?_ GE432.out) | exact HB.out))) : w.heap.size ≤ gb433)); have n5_ := Az.mk ((by rw [hg]; exact Nat.ne_of_lt (blk_lt (g := gb432) (o := .cells #[.int .i64 a0_0, .int .i64 a0_1, .slice A0_2 l0_2.length c0_2] 29 (0, 0)) (by (with_reducible repeat (first | refine zq6 ?_ _ | refine zq8 ?_ | refine zq7 ?_ _)); exact BK432.out)) : gb432 ≠ gb433)); have n6_ := Az.mk ((by rw [hg]; exact Nat.ne_of_gt (blk_lt (g := gb432) (o := .cells #[.int .i64 a0_0, .int .i64 a0_1, .slice A0_2 l0_2.length c0_2] 29 (0, 0)) (by (with_reducible repeat (first | refine zq6 ?_ _ | refine zq8 ?_ | refine zq7 ?_ _)); exact BK432.out)) : gb433 ≠ gb432)); clear BK432; clear HB; have BK432 := n0_; have HB := n1_; have BK433 := n2_; have GW433 := n3_; have GE433 := n4_; have NB432_433 := n5_; have NB433_432 := n6_; clear n0_ n1_ n2_ n3_ n4_ n5_ n6_; clear hb hbox hg)); try go_wp2_with (first | ((with_reducible refine zqg (N := 2) rfl ?_); refine zqb ?hg (N := 2) ?hd (cs := #[.int .i64 a0_0, .int .i64 a0_1, .slice A0_2 l0_2.length c0_2]) (t := 29) ?hr ?_; (case hd => rfl); (case hg => rfl); (case hr => first | (go_simp; done) | (go_simp; rfl)); intro gb432 hg w3 hbox hb; have n0_ := Az.mk (below_step (by repeat (first | (with_reducible first | exact HB.out | apply zq2 | apply zq1 | apply zqd) | exact HB.out)) hb); have n1_ := Az.mk (hbox); have n2_ := Az.mk ((by rw [hg]; exact (below_size (by repeat (first | (with_reducible first | exact HB.out | apply zq2 | apply zq1 | apply zqd) | exact HB.out))) : w.heap.size ≤ gb432)); have n3_ := Az.mk ((by rw [hg]; exact (below_size (by repeat (first | (with_reducible first | exact HB.out | apply zq2 | apply zq1 | apply zqd) | exact HB.out))) : w.heap.size ≤ gb432)); clear HB; have HB := n0_; have BK432 := n1_; have GW432 := n2_; have GE432 := n3_; clear n0_ n1_ n2_ n3_; clear hb hbox hg) | ((with_reducible refine zqg (N := 3) rfl ?_); refine zqb ?hg (N := 3) ?hd (cs := #[.int .i64 a1_0, .int .i64 a1_1, .slice A1_2 l1_2.length c1_2]) (t := 29) ?hr ?_; (case hd => rfl); (case hg => rfl); (case hr => first | (go_simp; done) | (go_simp; rfl)); intro gb433 hg w4 hbox hb; have n0_ := Az.mk (blk_below (g := gb432) (o := .cells #[.int .i64 a0_0, .int .i64 a0_1, .slice A0_2 l0_2.length c0_2] 29 (0, 0)) (by (with_reducible repeat (first | refine zq6 ?_ _ | refine zq8 ?_ | refine zq7 ?_ _)); exact BK432.out) hb); have n1_ := Az.mk (below_step (by repeat (first | (with_reducible first | exact HB.out | apply zq2 | apply zq1 | apply zqd | refine zq3 ?_ GE432.out) | exact HB.out)) hb); have n2_ := Az.mk (hbox); have n3_ := Az.mk ((by rw [hg]; exact (below_size (by repeat (first | (with_reducible first | exact HB.out | apply zq2 | apply zq1 | apply zqd | refine zq3 ?_ GE432.out) | exact HB.out))) : w.heap.size ≤ gb433)); have n4_ := Az.mk ((by rw [hg]; exact (below_size (by repeat (first | (with_reducible first | exact HB.out | apply zq2 | apply zq1 | apply zqd | refine zq3 ?_ GE432.out) | exact HB.out))) : w.heap.size ≤ gb433)); have n5_ := Az.mk ((by rw [hg]; exact Nat.ne_of_lt (blk_lt (g := gb432) (o := .cells #[.int .i64 a0_0, .int .i64 a0_1, .slice A0_2 l0_2.length c0_2] 29 (0, 0)) (by (with_reducible repeat (first | refine zq6 ?_ _ | refine zq8 ?_ | refine zq7 ?_ _)); exact BK432.out)) : gb432 ≠ gb433)); have n6_ := Az.mk ((by rw [hg]; exact Nat.ne_of_gt (blk_lt (g := gb432) (o := .cells #[.int .i64 a0_0, .int .i64 a0_1, .slice A0_2 l0_2.length c0_2] 29 (0, 0)) (by (with_reducible repeat (first | refine zq6 ?_ _ | refine zq8 ?_ | refine zq7 ?_ _)); exact BK432.out)) : gb433 ≠ gb432)); clear BK432; clear HB; have BK432 := n0_; have HB := n1_; have BK433 := n2_; have GW433 := n3_; have GE433 := n4_; have NB432_433 := n5_; have NB433_432 := n6_; clear n0_ n1_ n2_ n3_ n4_ n5_ n6_; clear hb hbox hg)))
 go_loopg [5] k (fun kq v5 w' => ∃ (x5_1 : Int), v5 = .int .i64 x5_1 ∧ Az (spec_l2Meet.l0 kq x5_1 a0_0 a0_1 l0_2 a1_0 a1_1 l1_2 = some r) ∧ Az (kq ≤ k) ∧ Az (w'.heap[gb432]? = some (.cells #[.int .i64 a0_0, .int .i64 a0_1, (.slice A0_2 l0_2.length c0_2)] 29 (0, 0))) ∧ Az (w'.heap[gb433]? = some (.cells #[.int .i64 a1_0, .int .i64 a1_1, (.slice A1_2 l1_2.length c1_2)] 29 (0, 0))) ∧ Az (Below w.heap.size w w'))
 case atStart => exact ⟨(0), (by first | rfl | (simp; done) | (simp [*]; done)), H', ⟨Nat.le_refl _⟩, ⟨by (with_reducible repeat (first | refine zq6 ?_ _ | refine zq8 ?_ | refine zq7 ?_ _)); exact BK432.out⟩, ⟨by (with_reducible repeat (first | refine zq6 ?_ _ | refine zq8 ?_ | refine zq7 ?_ _)); exact BK433.out⟩, ⟨by repeat (first | (with_reducible first | exact HB.out | apply zq2 | apply zq1 | apply zqd | refine zq3 ?_ GE432.out | refine zq3 ?_ GE433.out) | exact HB.out)⟩⟩
 case round =>
  clear H'
  try clear c1
  try clear p2
  obtain ⟨x5_1, rfl, HA, HK1, BK432, BK433, HB⟩ := hrel
  cases gk with
  | zero => exact absurd HA.out (by simp [spec_l2Meet.l0])
  | succ k1 =>
   have H := HA.out
   clear HA
   simp only [spec_l2Meet.l0] at H
   by_cases c5 : x5_1 < (l0_2.length : Int)
   ·rw [if_pos c5] at H
    have c5b0 : decide (x5_1 < (l0_2.length : Int)) = true := decide_eq_true c5
    clear c5
    have H' := Az.mk H
    clear H
    have hnb6 := NB432_433.out
    have hnc6 := NB433_432.out
    have hcz7_0 : wr.cell? ⟨gb432, 0, none⟩ = some (.int .i64 a0_0) := (zq4 BK432.out 0).trans rfl
    have hcz7_1 : wr.cell? ⟨gb432, 1, none⟩ = some (.int .i64 a0_1) := (zq4 BK432.out 1).trans rfl
    have hcz7_2 : wr.cell? ⟨gb432, 2, none⟩ = some (.slice A0_2 l0_2.length c0_2) := (zq4 BK432.out 2).trans rfl
    have hfz7_0 := zq5 BK432.out 0
    have hfz7_1 := zq5 BK432.out 1
    have hfz7_2 := zq5 BK432.out 2
    go_wp2
    repeat (go_quiet (fail); try go_wp2)
    go_loopg [6] k1 (fun kq v6 w' => ∃ (x6_2 : Int), v6 = .int .i64 x6_2 ∧ Az (spec_l2Meet.l1 kq x5_1 x6_2 a0_0 a0_1 l0_2 a1_0 a1_1 l1_2 = some r) ∧ Az (kq ≤ k1) ∧ Az (w'.heap[gb432]? = some (.cells #[.int .i64 a0_0, .int .i64 a0_1, (.slice A0_2 l0_2.length c0_2)] 29 (0, 0))) ∧ Az (w'.heap[gb433]? = some (.cells #[.int .i64 a1_0, .int .i64 a1_1, (.slice A1_2 l1_2.length c1_2)] 29 (0, 0))) ∧ Az (Below w.heap.size w w'))
    case atStart => exact ⟨(0), (by first | rfl | (simp; done) | (simp [*]; done)), H', ⟨Nat.le_refl _⟩, ⟨by (with_reducible repeat (first | refine zq6 ?_ _ | refine zq8 ?_ | refine zq7 ?_ _)); exact BK432.out⟩, ⟨by (with_reducible repeat (first | refine zq6 ?_ _ | refine zq8 ?_ | refine zq7 ?_ _)); exact BK433.out⟩, ⟨by repeat (first | (with_reducible first | exact HB.out | apply zq2 | apply zq1 | apply zqd | refine zq3 ?_ GE432.out | refine zq3 ?_ GE433.out) | exact HB.out)⟩⟩
    case round =>
     clear H'
     try clear c1
     try clear p2
     try clear c5
     try clear c5b0
     try clear c6
     try clear hcz7_0
     try clear hcz7_1
     try clear hcz7_2
     try clear hfz7_0
     try clear hfz7_1
     try clear hfz7_2
     try clear p2
     obtain ⟨x6_2, rfl, HA, HK2, BK432, BK433, HB⟩ := hrel
     cases gk with
     | zero => exact absurd HA.out (by simp [spec_l2Meet.l1])
     | succ k2 =>
      have H := HA.out
      clear HA
      simp only [spec_l2Meet.l1] at H
      by_cases c8 : x6_2 < (l1_2.length : Int)
      ·rw [if_pos c8] at H
       have c8b0 : decide (x6_2 < (l1_2.length : Int)) = true := decide_eq_true c8
       clear c8
       by_cases c9 : 0 ≤ x5_1
       ·rw [if_pos c9] at H
        have c9b0 : decide (0 ≤ x5_1) = true := decide_eq_true c9
        clear c9
        by_cases c10 : x5_1 < (l0_2.length : Int)
        ·rw [if_pos c10] at H
         have c10b0 : decide (x5_1 < (l0_2.length : Int)) = true := decide_eq_true c10
         clear c10
         by_cases c11 : 0 ≤ x6_2
         ·rw [if_pos c11] at H
          have c11b0 : decide (0 ≤ x6_2) = true := decide_eq_true c11
          clear c11
          by_cases c12 : (((rd_T37 l0_2 x5_1).f0) == ((rd_T37 l1_2 x6_2).f0) && (((rd_T37 l0_2 x5_1).f1) == ((rd_T37 l1_2 x6_2).f1))) = true
          ·rw [if_pos c12] at H
           have c12b0 : (((rd_T37 l0_2 x5_1).f0) == ((rd_T37 l1_2 x6_2).f0) && (((rd_T37 l0_2 x5_1).f1) == ((rd_T37 l1_2 x6_2).f1))) = true := c12
           (try (have c12b1 : decide (((rd_T37 l0_2 x5_1).f0) = ((rd_T37 l1_2 x6_2).f0) && (((rd_T37 l0_2 x5_1).f1) == ((rd_T37 l1_2 x6_2).f1))) = true := by simpa using c12))
           (try (have c12b2 : (((rd_T37 l0_2 x5_1).f0) == ((rd_T37 l1_2 x6_2).f0) && (((rd_T37 l0_2 x5_1).f1) == ((rd_T37 l1_2 x6_2).f1))) = true := by simpa using c12))
           clear c12
           obtain rfl := Option.some.inj H
           have hnb13 := NB433_432.out
           have hnc13 := NB432_433.out
           have hcz14_0 : wr.cell? ⟨gb433, 0, none⟩ = some (.int .i64 a1_0) := (zq4 BK433.out 0).trans rfl
           have hcz14_1 : wr.cell? ⟨gb433, 1, none⟩ = some (.int .i64 a1_1) := (zq4 BK433.out 1).trans rfl
           have hcz14_2 : wr.cell? ⟨gb433, 2, none⟩ = some (.slice A1_2 l1_2.length c1_2) := (zq4 BK433.out 2).trans rfl
           have hfz14_0 := zq5 BK433.out 0
           have hfz14_1 := zq5 BK433.out 1
           have hfz14_2 := zq5 BK433.out 2
           have hcz15_0 : wr.cell? ⟨gb432, 0, none⟩ = some (.int .i64 a0_0) := (zq4 BK432.out 0).trans rfl
           have hcz15_1 : wr.cell? ⟨gb432, 1, none⟩ = some (.int .i64 a0_1) := (zq4 BK432.out 1).trans rfl
           have hcz15_2 : wr.cell? ⟨gb432, 2, none⟩ = some (.slice A0_2 l0_2.length c0_2) := (zq4 BK432.out 2).trans rfl
           have hfz15_0 := zq5 BK432.out 0
           have hfz15_1 := zq5 BK432.out 1
           have hfz15_2 := zq5 BK432.out 2
           have p434 : 0 ≤ (x5_1 : Int) := of_decide_eq_true (by first | (with_reducible assumption) | assumption)
           have q434 : x5_1 < (l0_2.length : Int) := of_decide_eq_true (by first | (with_reducible assumption) | assumption)
           obtain ⟨ad434, e434, hx434_0, hx434_1⟩ := at_T37 HR0_2.out x5_1 p434 q434
           cases e434
           replace hx434_0 := (HB.out.cell (World.block_lt_of_cell? w _ hx434_0)).trans hx434_0
           replace hx434_1 := (HB.out.cell (World.block_lt_of_cell? w _ hx434_1)).trans hx434_1
           replace p434 := eq_true p434
           replace q434 := eq_true q434
           have p435 : 0 ≤ (x6_2 : Int) := of_decide_eq_true (by first | (with_reducible assumption) | assumption)
           have q435 : x6_2 < (l1_2.length : Int) := of_decide_eq_true (by first | (with_reducible assumption) | assumption)
           obtain ⟨ad435, e435, hx435_0, hx435_1⟩ := at_T37 HR1_2.out x6_2 p435 q435
           cases e435
           replace hx435_0 := (HB.out.cell (World.block_lt_of_cell? w _ hx435_0)).trans hx435_0
           replace hx435_1 := (HB.out.cell (World.block_lt_of_cell? w _ hx435_1)).trans hx435_1
           replace p435 := eq_true p435
           replace q435 := eq_true q435
           go_wp2
           repeat (go_quiet (fail); try go_wp2)
           go_ret
           exact ⟨by first | rfl | (simp [errW_none, errW_some] <;> rfl) | (simp [*, errW_none, errW_some] <;> rfl), by repeat (first | (with_reducible first | exact HB.out | apply zq2 | apply zq1 | apply zqd | refine zq3 ?_ GE432.out | refine zq3 ?_ GE433.out) | exact HB.out)⟩
          ·rw [if_neg c12] at H
           have c12b0 : (((rd_T37 l0_2 x5_1).f0) == ((rd_T37 l1_2 x6_2).f0) && (((rd_T37 l0_2 x5_1).f1) == ((rd_T37 l1_2 x6_2).f1))) = false := by simpa using c12
           (try (have c12b1 : decide (((rd_T37 l0_2 x5_1).f0) = ((rd_T37 l1_2 x6_2).f0) && (((rd_T37 l0_2 x5_1).f1) == ((rd_T37 l1_2 x6_2).f1))) = false := by simpa using c12))
           (try (have c12b2 : (((rd_T37 l0_2 x5_1).f0) == ((rd_T37 l1_2 x6_2).f0) && (((rd_T37 l0_2 x5_1).f1) == ((rd_T37 l1_2 x6_2).f1))) = false := by simpa using c12))
           (try (have c12b3 : ¬ (((rd_T37 l0_2 x5_1).f0) = ((rd_T37 l1_2 x6_2).f0) && (((rd_T37 l0_2 x5_1).f1) == ((rd_T37 l1_2 x6_2).f1))) := by simpa using c12))
           clear c12
           have H' := Az.mk H
           clear H
           have hnb16 := NB433_432.out
           have hnc16 := NB432_433.out
           have hcz17_0 : wr.cell? ⟨gb433, 0, none⟩ = some (.int .i64 a1_0) := (zq4 BK433.out 0).trans rfl
           have hcz17_1 : wr.cell? ⟨gb433, 1, none⟩ = some (.int .i64 a1_1) := (zq4 BK433.out 1).trans rfl
           have hcz17_2 : wr.cell? ⟨gb433, 2, none⟩ = some (.slice A1_2 l1_2.length c1_2) := (zq4 BK433.out 2).trans rfl
           have hfz17_0 := zq5 BK433.out 0
           have hfz17_1 := zq5 BK433.out 1
           have hfz17_2 := zq5 BK433.out 2
           have hcz18_0 : wr.cell? ⟨gb432, 0, none⟩ = some (.int .i64 a0_0) := (zq4 BK432.out 0).trans rfl
           have hcz18_1 : wr.cell? ⟨gb432, 1, none⟩ = some (.int .i64 a0_1) := (zq4 BK432.out 1).trans rfl
           have hcz18_2 : wr.cell? ⟨gb432, 2, none⟩ = some (.slice A0_2 l0_2.length c0_2) := (zq4 BK432.out 2).trans rfl
           have hfz18_0 := zq5 BK432.out 0
           have hfz18_1 := zq5 BK432.out 1
           have hfz18_2 := zq5 BK432.out 2
           have p434 : 0 ≤ (x5_1 : Int) := of_decide_eq_true (by first | (with_reducible assumption) | assumption)
           have q434 : x5_1 < (l0_2.length : Int) := of_decide_eq_true (by first | (with_reducible assumption) | assumption)
           obtain ⟨ad434, e434, hx434_0, hx434_1⟩ := at_T37 HR0_2.out x5_1 p434 q434
           cases e434
           replace hx434_0 := (HB.out.cell (World.block_lt_of_cell? w _ hx434_0)).trans hx434_0
           replace hx434_1 := (HB.out.cell (World.block_lt_of_cell? w _ hx434_1)).trans hx434_1
           replace p434 := eq_true p434
           replace q434 := eq_true q434
           have p435 : 0 ≤ (x6_2 : Int) := of_decide_eq_true (by first | (with_reducible assumption) | assumption)
           have q435 : x6_2 < (l1_2.length : Int) := of_decide_eq_true (by first | (with_reducible assumption) | assumption)
           obtain ⟨ad435, e435, hx435_0, hx435_1⟩ := at_T37 HR1_2.out x6_2 p435 q435
           cases e435
           replace hx435_0 := (HB.out.cell (World.block_lt_of_cell? w _ hx435_0)).trans hx435_0
           replace hx435_1 := (HB.out.cell (World.block_lt_of_cell? w _ hx435_1)).trans hx435_1
           replace p435 := eq_true p435
           replace q435 := eq_true q435
           go_wp2
           repeat (go_quiet (fail); try go_wp2)
           go_roundg k2
           case measure => have := HK1.out; have := HK2.out; omega
           case rel => exact ⟨(wrap64 (x6_2 + 1)), (by first | rfl | (simp; done) | (simp [*]; done)), H', ⟨by have := HK1.out; have := HK2.out; omega⟩, ⟨by (with_reducible repeat (first | refine zq6 ?_ _ | refine zq8 ?_ | refine zq7 ?_ _)); exact BK432.out⟩, ⟨by (with_reducible repeat (first | refine zq6 ?_ _ | refine zq8 ?_ | refine zq7 ?_ _)); exact BK433.out⟩, ⟨by repeat (first | (with_reducible first | exact HB.out | apply zq2 | apply zq1 | apply zqd | refine zq3 ?_ GE432.out | refine zq3 ?_ GE433.out) | exact HB.out)⟩⟩
         ·rw [if_neg c11] at H
          exact absurd H (by simp)
        ·rw [if_neg c10] at H
         exact absurd H (by simp)
       ·rw [if_neg c9] at H
        exact absurd H (by simp)
      ·rw [if_neg c8] at H
       have c8b0 : decide (x6_2 < (l1_2.length : Int)) = false := decide_eq_false c8
       clear c8
       have H' := Az.mk H
       clear H
       have hnb19 := NB433_432.out
       have hnc19 := NB432_433.out
       have hcz20_0 : wr.cell? ⟨gb433, 0, none⟩ = some (.int .i64 a1_0) := (zq4 BK433.out 0).trans rfl
       have hcz20_1 : wr.cell? ⟨gb433, 1, none⟩ = some (.int .i64 a1_1) := (zq4 BK433.out 1).trans rfl
       have hcz20_2 : wr.cell? ⟨gb433, 2, none⟩ = some (.slice A1_2 l1_2.length c1_2) := (zq4 BK433.out 2).trans rfl
       have hfz20_0 := zq5 BK433.out 0
       have hfz20_1 := zq5 BK433.out 1
       have hfz20_2 := zq5 BK433.out 2
       go_wp2
       repeat (go_quiet (fail); try go_wp2)
       go_roundg k2
       case measure => have := HK1.out; have := HK2.out; omega
       case rel => exact ⟨(wrap64 (x5_1 + 1)), (by first | rfl | (simp; done) | (simp [*]; done)), H', ⟨by have := HK1.out; have := HK2.out; omega⟩, ⟨by (with_reducible repeat (first | refine zq6 ?_ _ | refine zq8 ?_ | refine zq7 ?_ _)); exact BK432.out⟩, ⟨by (with_reducible repeat (first | refine zq6 ?_ _ | refine zq8 ?_ | refine zq7 ?_ _)); exact BK433.out⟩, ⟨by repeat (first | (with_reducible first | exact HB.out | apply zq2 | apply zq1 | apply zqd | refine zq3 ?_ GE432.out | refine zq3 ?_ GE433.out) | exact HB.out)⟩⟩
   ·rw [if_neg c5] at H
    have c5b0 : decide (x5_1 < (l0_2.length : Int)) = false := decide_eq_false c5
    clear c5
    obtain rfl := Option.some.inj H
    have hnb21 := NB432_433.out
    have hnc21 := NB433_432.out
    have hcz22_0 : wr.cell? ⟨gb432, 0, none⟩ = some (.int .i64 a0_0) := (zq4 BK432.out 0).trans rfl
    have hcz22_1 : wr.cell? ⟨gb432, 1, none⟩ = some (.int .i64 a0_1) := (zq4 BK432.out 1).trans rfl
    have hcz22_2 : wr.cell? ⟨gb432, 2, none⟩ = some (.slice A0_2 l0_2.length c0_2) := (zq4 BK432.out 2).trans rfl
    have hfz22_0 := zq5 BK432.out 0
    have hfz22_1 := zq5 BK432.out 1
    have hfz22_2 := zq5 BK432.out 2
    go_wp2
    repeat (go_quiet (fail); try go_wp2)
    go_ret
    exact ⟨by first | rfl | (simp [errW_none, errW_some] <;> rfl) | (simp [*, errW_none, errW_some] <;> rfl), by repeat (first | (with_reducible first | exact HB.out | apply zq2 | apply zq1 | apply zqd | refine zq3 ?_ GE432.out | refine zq3 ?_ GE433.out) | exact HB.out)⟩
end Go.Proofs.Ytkoimmeghdbodaa.Print
namespace Go.Proofs.Ytkoimmeghdbodaa.Print
open Go.RowKit Go.Proofs.YtkoimmeghdbodaaW.PrintWords Go.Proofs.YtkoimmeghdbodaaW.PrintLast Go.Proofs.YtkoimmeghdbodaaW.PrintMore
attribute [local go_sem] max2_int min2_int max_two min_two max_three min_three max_four min_four   -- for this text's walks alone
set_option linter.unusedVariables false
set_option linter.unusedSimpArgs false
def spec_l2Name.l0 : Nat → ByteArray → Int → Option (Bool)
 | 0, _, _ => none
 | k + 1, x0, x3 => if x3 < (x0.size : Int) then (if 0 ≤ x3 then (if (bt x0 x3) < 97 then (some false) else (if (bt x0 x3) > 122 then (some false) else (spec_l2Name.l0 k x0 (wrap64 (x3 + 1))))) else (none)) else (some true)
def spec_l2Name.f (k : Nat) (a0 : ByteArray) : Option (Bool) := (spec_l6In.f (a0.size : Int) 1 3).bind fun t436 => (if t436 = true then (spec_l2Name.l0 k a0 0) else (some false))
set_option maxHeartbeats 8000000 in
set_option maxRecDepth 100000 in
theorem spec_l2Name.calls (k : Nat) (a0 : ByteArray) (r : Bool) (w : World) (h : spec_l2Name.f k a0 = some r) :
  Calls Try.prog 98 #[.string a0] w fun e w' => e = .returned (.bool r) ∧ Drawn0 w w' := by
 have H : ((spec_l6In.f (a0.size : Int) 1 3).bind fun t436 => (if t436 = true then (spec_l2Name.l0 k a0 0) else (some false))) = some r := h
 clear h
 replace H := Option.bind_eq_some_iff.mp H
 obtain ⟨t436, A20, H⟩ := H
 replace H : (if t436 = true then (spec_l2Name.l0 k a0 0) else (some false)) = some r := H
 have A2 := Az.mk A20
 clear A20
 by_cases c3 : t436 = true
 ·subst c3
  have H1 : (spec_l2Name.l0 k a0 0) = some r := by rw [if_pos rfl] at H; exact H
  clear H
  have H := H1
  clear H1
  have H' := Az.mk H
  clear H
  go_enter Try.func98, Try.ntmps98
  go_wp2_with (first | ((with_reducible refine gate_callee (f := 75) rfl ?_); refine zq9 (some 6) rfl rfl Try.func75 (by kernel_rfl) rfl #[.int .i64 (a0.size : Int), .int .i64 1, .int .i64 3] rfl (by (try simp only [List.map_toArray, List.map_cons, List.map_nil]); first | done | rfl | (simp only [List.length_drop, List.length_take]; rfl)) ?_; (with_reducible refine (spec_l6In.calls (a0.size : Int) 1 3 true _ A2.out).mono ?_); rintro e w' ⟨rfl, ⟨nd, rfl⟩⟩; refine ⟨_, rfl, ?_⟩))
  go_loopg [3] k (fun kq v3 w' => ∃ (x3_1 : Int), v3 = .int .i64 x3_1 ∧ Az (spec_l2Name.l0 kq a0 x3_1 = some r) ∧ Az (kq ≤ k) ∧ Drawn0 w w')
  case atStart => exact ⟨(0), (by first | rfl | (simp; done) | (simp [*]; done)), H', ⟨Nat.le_refl _⟩, by repeat (first | exact Drawn0.refl _ | apply Drawn0.step)⟩
  case round =>
   clear H'
   try clear p2
   try clear c3
   obtain ⟨x3_1, rfl, HA, HK1, ⟨m1, rfl⟩⟩ := hrel
   cases gk with
   | zero => exact absurd HA.out (by simp [spec_l2Name.l0])
   | succ k1 =>
    have H := HA.out
    clear HA
    simp only [spec_l2Name.l0] at H
    by_cases c4 : x3_1 < (a0.size : Int)
    ·rw [if_pos c4] at H
     have c4b0 : decide (x3_1 < (a0.size : Int)) = true := decide_eq_true c4
     clear c4
     by_cases c5 : 0 ≤ x3_1
     ·rw [if_pos c5] at H
      have c5b0 : decide (0 ≤ x3_1) = true := decide_eq_true c5
      clear c5
      by_cases c7 : (bt a0 x3_1) < 97
      ·rw [if_pos c7] at H
       have c7b0 : decide ((bt a0 x3_1) < 97) = true := decide_eq_true c7
       clear c7
       obtain rfl := Option.some.inj H
       have p6 : 0 ≤ (x3_1 : Int) := of_decide_eq_true (by first | (with_reducible assumption) | assumption)
       have q6 : x3_1 < (a0.size : Int) := of_decide_eq_true (by first | (with_reducible assumption) | assumption)
       have hx6 := bt_at a0 x3_1
       replace p6 := eq_true p6
       replace q6 := eq_true q6
       go_wp2
       go_ret
       exact ⟨by first | rfl | (simp; done) | (simp [*]; done), by repeat (first | exact Drawn0.refl _ | apply Drawn0.step)⟩
      ·rw [if_neg c7] at H
       have c7b0 : decide ((bt a0 x3_1) < 97) = false := decide_eq_false c7
       clear c7
       by_cases c9 : (bt a0 x3_1) > 122
       ·rw [if_pos c9] at H
        have c9b0 : decide (122 < (bt a0 x3_1)) = true := decide_eq_true c9
        clear c9
        obtain rfl := Option.some.inj H
        have p6 : 0 ≤ (x3_1 : Int) := of_decide_eq_true (by first | (with_reducible assumption) | assumption)
        have q6 : x3_1 < (a0.size : Int) := of_decide_eq_true (by first | (with_reducible assumption) | assumption)
        have hx6 := bt_at a0 x3_1
        replace p6 := eq_true p6
        replace q6 := eq_true q6
        have p8 : 0 ≤ (x3_1 : Int) := of_decide_eq_true (by first | (with_reducible assumption) | assumption)
        have q8 : x3_1 < (a0.size : Int) := of_decide_eq_true (by first | (with_reducible assumption) | assumption)
        have hx8 := bt_at a0 x3_1
        replace p8 := eq_true p8
        replace q8 := eq_true q8
        go_wp2
        go_ret
        exact ⟨by first | rfl | (simp; done) | (simp [*]; done), by repeat (first | exact Drawn0.refl _ | apply Drawn0.step)⟩
       ·rw [if_neg c9] at H
        have c9b0 : decide (122 < (bt a0 x3_1)) = false := decide_eq_false c9
        clear c9
        have H' := Az.mk H
        clear H
        have p6 : 0 ≤ (x3_1 : Int) := of_decide_eq_true (by first | (with_reducible assumption) | assumption)
        have q6 : x3_1 < (a0.size : Int) := of_decide_eq_true (by first | (with_reducible assumption) | assumption)
        have hx6 := bt_at a0 x3_1
        replace p6 := eq_true p6
        replace q6 := eq_true q6
        have p8 : 0 ≤ (x3_1 : Int) := of_decide_eq_true (by first | (with_reducible assumption) | assumption)
        have q8 : x3_1 < (a0.size : Int) := of_decide_eq_true (by first | (with_reducible assumption) | assumption)
        have hx8 := bt_at a0 x3_1
        replace p8 := eq_true p8
        replace q8 := eq_true q8
        go_wp2
        go_roundg k1
        case measure => have := HK1.out; omega
        case rel => exact ⟨(wrap64 (x3_1 + 1)), (by first | rfl | (simp; done) | (simp [*]; done)), H', ⟨by have := HK1.out; omega⟩, by repeat (first | exact Drawn0.refl _ | apply Drawn0.step)⟩
     ·rw [if_neg c5] at H
      exact absurd H (by simp)
    ·rw [if_neg c4] at H
     have c4b0 : decide (x3_1 < (a0.size : Int)) = false := decide_eq_false c4
     clear c4
     obtain rfl := Option.some.inj H
     go_wp2
     go_ret
     exact ⟨by first | rfl | (simp; done) | (simp [*]; done), by repeat (first | exact Drawn0.refl _ | apply Drawn0.step)⟩
 ·replace c3 := Bool.eq_false_iff.mpr c3
  subst c3
  have H1 : (some false) = some r := by rw [if_neg (show ¬ (false = true) by decide)] at H; exact H
  clear H
  have H := H1
  clear H1
  obtain rfl := Option.some.inj H
  go_enter Try.func98, Try.ntmps98
  go_wp2_with (first | ((with_reducible refine gate_callee (f := 75) rfl ?_); refine zq9 (some 6) rfl rfl Try.func75 (by kernel_rfl) rfl #[.int .i64 (a0.size : Int), .int .i64 1, .int .i64 3] rfl (by (try simp only [List.map_toArray, List.map_cons, List.map_nil]); first | done | rfl | (simp only [List.length_drop, List.length_take]; rfl)) ?_; (with_reducible refine (spec_l6In.calls (a0.size : Int) 1 3 false _ A2.out).mono ?_); rintro e w' ⟨rfl, ⟨nd, rfl⟩⟩; refine ⟨_, rfl, ?_⟩))
  go_ret
  exact ⟨by first | rfl | (simp; done) | (simp [*]; done), by repeat (first | exact Drawn0.refl _ | apply Drawn0.step)⟩
end Go.Proofs.Ytkoimmeghdbodaa.Print
namespace Go.Proofs.Ytkoimmeghdbodaa.Print
open Go.RowKit Go.Proofs.YtkoimmeghdbodaaW.PrintWords Go.Proofs.YtkoimmeghdbodaaW.PrintLast Go.Proofs.YtkoimmeghdbodaaW.PrintMore
attribute [local go_sem] max2_int min2_int max_two min_two max_three min_three max_four min_four   -- for this text's walks alone
set_option linter.unusedVariables false
set_option linter.unusedSimpArgs false
attribute [local go_sem high] eqA37
mutual
def spec_l2Same.j0 : Nat → Bool → Int → Int → List (S37) → Int → Int → List (S37) → Option (Bool)
 | 0, _, _, _, _, _, _, _ => none
 | k + 1, x26, x438000, x438001, x438002, x439000, x439001, x439002 => if x26 = true then (some false) else (spec_l2Same.l0 k 0 x438000 x438001 x438002 x439000 x439001 x439002)
def spec_l2Same.l0 : Nat → Int → Int → Int → List (S37) → Int → Int → List (S37) → Option (Bool)
 | 0, _, _, _, _, _, _, _ => none
 | k + 1, x5, x438000, x438001, x438002, x439000, x439001, x439002 => if x5 < (x438002.length : Int) then (if 0 ≤ x5 then (if x5 < (x439002.length : Int) then (if (!(((rd_T37 x438002 x5).f0) == ((rd_T37 x439002 x5).f0)) || (!(((rd_T37 x438002 x5).f1) == ((rd_T37 x439002 x5).f1)))) = true then (some false) else (spec_l2Same.l0 k (wrap64 (x5 + 1)) x438000 x438001 x438002 x439000 x439001 x439002)) else (none)) else (none)) else (some true)
end
def spec_l2Same.f (k : Nat) (a0_0 : Int) (a0_1 : Int) (l0_2 : List (S37)) (a1_0 : Int) (a1_1 : Int) (l1_2 : List (S37)) : Option (Bool) := if a0_0 = a1_0 then (if a0_1 = a1_1 then (spec_l2Same.j0 k ((l0_2.length : Int) != (l1_2.length : Int)) a0_0 a0_1 l0_2 a1_0 a1_1 l1_2) else (spec_l2Same.j0 k true a0_0 a0_1 l0_2 a1_0 a1_1 l1_2)) else (spec_l2Same.j0 k true a0_0 a0_1 l0_2 a1_0 a1_1 l1_2)
set_option maxHeartbeats 8000000 in
set_option maxRecDepth 100000 in
theorem spec_l2Same.calls (k : Nat) (a0_0 : Int) (a0_1 : Int) (A0_2 : Option Addr) (c0_2 : Nat) (l0_2 : List (S37)) (a1_0 : Int) (a1_1 : Int) (A1_2 : Option Addr) (c1_2 : Nat) (l1_2 : List (S37)) (r : Bool) (w : World) (hr0_2 : Kd.C k37 w A0_2 l0_2.length l0_2) (hc0_2 : l0_2.length ≤ c0_2) (hr1_2 : Kd.C k37 w A1_2 l1_2.length l1_2) (hc1_2 : l1_2.length ≤ c1_2) (h : spec_l2Same.f k a0_0 a0_1 l0_2 a1_0 a1_1 l1_2 = some r) :
  Calls Try.prog 99 #[.agg #[.int .i64 a0_0, .int .i64 a0_1, .slice A0_2 l0_2.length c0_2], .agg #[.int .i64 a1_0, .int .i64 a1_1, .slice A1_2 l1_2.length c1_2]] w fun e w' => e = .returned (.bool r) ∧ Below w.heap.size w w' := by
 have hu29 := Try.underlying29
 have hu37 := Try.underlying37
 have HR0_2 := Az.mk hr0_2
 have HC0_2 := Az.mk hc0_2
 clear hr0_2 hc0_2
 have HR1_2 := Az.mk hr1_2
 have HC1_2 := Az.mk hc1_2
 clear hr1_2 hc1_2
 have HB := Az.mk (Below.refl w.heap.size w)
 have H : (if a0_0 = a1_0 then (if a0_1 = a1_1 then (spec_l2Same.j0 k ((l0_2.length : Int) != (l1_2.length : Int)) a0_0 a0_1 l0_2 a1_0 a1_1 l1_2) else (spec_l2Same.j0 k true a0_0 a0_1 l0_2 a1_0 a1_1 l1_2)) else (spec_l2Same.j0 k true a0_0 a0_1 l0_2 a1_0 a1_1 l1_2)) = some r := h
 clear h
 have HC3 := Az.mk H
 clear H
 go_enter Try.func99, Try.ntmps99
 go_upto_region 1 with (first | ((with_reducible refine zqg (N := 2) rfl ?_); (try (refine gate_guard (by rfl) ?_; dsimp only)); refine zqb ?hg (N := 2) ?hd (cs := #[.int .i64 a0_0, .int .i64 a0_1, .slice A0_2 l0_2.length c0_2]) (t := 29) ?hr ?_; (case hd => rfl); (case hg => rfl); (case hr => first | (go_simp; done) | (go_simp; rfl)); intro gb437 hg w4 hbox hb; have n0_ := Az.mk (below_step (by repeat (first | (with_reducible first | exact HB.out | apply zq2 | apply zq1 | apply zqd) | exact HB.out)) hb); have n1_ := Az.mk (hbox); have n2_ := Az.mk ((by rw [hg]; exact (below_size (by repeat (first | (with_reducible first | exact HB.out | apply zq2 | apply zq1 | apply zqd) | exact HB.out))) : w.heap.size ≤ gb437)); have n3_ := Az.mk ((by rw [hg]; exact (below_size (by repeat (first | (with_reducible first | exact HB.out | apply zq2 | apply zq1 | apply zqd) | exact HB.out))) : w.heap.size ≤ gb437)); clear HB; have HB := n0_; have BK437 := n1_; have GW437 := n2_; have GE437 := n3_; clear n0_ n1_ n2_ n3_; clear hb hbox hg) | ((with_reducible refine zqg (N := 3) rfl ?_); (try (refine gate_guard (by rfl) ?_; dsimp only)); refine zqb ?hg (N := 3) ?hd (cs := #[.int .i64 a1_0, .int .i64 a1_1, .slice A1_2 l1_2.length c1_2]) (t := 29) ?hr ?_; (case hd => rfl); (case hg => rfl); (case hr => first | (go_simp; done) | (go_simp; rfl)); intro gb438 hg w5 hbox hb; have n0_ := Az.mk (blk_below (g := gb437) (o := .cells #[.int .i64 a0_0, .int .i64 a0_1, .slice A0_2 l0_2.length c0_2] 29 (0, 0)) (by (with_reducible repeat (first | refine zq6 ?_ _ | refine zq8 ?_ | refine zq7 ?_ _)); exact BK437.out) hb); have n1_ := Az.mk (below_step (by repeat (first | (with_reducible first | exact HB.out | apply zq2 | apply zq1 | apply zqd | refine zq3 ?_ GE437.out) | exact HB.out)) hb); have n2_ := Az.mk (hbox); have n3_ := Az.mk ((by rw [hg]; exact (below_size (by repeat (first | (with_reducible first | exact HB.out | apply zq2 | apply zq1 | apply zqd | refine zq3 ?_ GE437.out) | exact HB.out))) : w.heap.size ≤ gb438)); have n4_ := Az.mk ((by rw [hg]; exact (below_size (by repeat (first | (with_reducible first | exact HB.out | apply zq2 | apply zq1 | apply zqd | refine zq3 ?_ GE437.out) | exact HB.out))) : w.heap.size ≤ gb438)); have n5_ := Az.mk ((by rw [hg]; exact Nat.ne_of_lt (blk_lt (g := gb437) (o := .cells #[.int .i64 a0_0, .int .i64 a0_1, .slice A0_2 l0_2.length c0_2] 29 (0, 0)) (by (with_reducible repeat (first | refine zq6 ?_ _ | refine zq8 ?_ | refine zq7 ?_ _)); exact BK437.out)) : gb437 ≠ gb438)); have n6_ := Az.mk ((by rw [hg]; exact Nat.ne_of_gt (blk_lt (g := gb437) (o := .cells #[.int .i64 a0_0, .int .i64 a0_1, .slice A0_2 l0_2.length c0_2] 29 (0, 0)) (by (with_reducible repeat (first | refine zq6 ?_ _ | refine zq8 ?_ | refine zq7 ?_ _)); exact BK437.out)) : gb438 ≠ gb437)); clear BK437; clear HB; have BK437 := n0_; have HB := n1_; have BK438 := n2_; have GW438 := n3_; have GE438 := n4_; have NB437_438 := n5_; have NB438_437 := n6_; clear n0_ n1_ n2_ n3_ n4_ n5_ n6_; clear hb hbox hg))
 repeat (go_quiet (first | ((with_reducible refine zqg (N := 2) rfl ?_); (try (refine gate_guard (by rfl) ?_; dsimp only)); refine zqb ?hg (N := 2) ?hd (cs := #[.int .i64 a0_0, .int .i64 a0_1, .slice A0_2 l0_2.length c0_2]) (t := 29) ?hr ?_; (case hd => rfl); (case hg => rfl); (case hr => first | (go_simp; done) | (go_simp; rfl)); intro gb437 hg w4 hbox hb; have n0_ := Az.mk (below_step (by repeat (first | (with_reducible first | exact HB.out | apply zq2 | apply zq1 | apply zqd) | exact HB.out)) hb); have n1_ := Az.mk (hbox); have n2_ := Az.mk ((by rw [hg]; exact (below_size (by repeat (first | (with_reducible first | exact HB.out | apply zq2 | apply zq1 | apply zqd) | exact HB.out))) : w.heap.size ≤ gb437)); have n3_ := Az.mk ((by rw [hg]; exact (below_size (by repeat (first | (with_reducible first | exact HB.out | apply zq2 | apply zq1 | apply zqd) | exact HB.out))) : w.heap.size ≤ gb437)); clear HB; have HB := n0_; have BK437 := n1_; have GW437 := n2_; have GE437 := n3_; clear n0_ n1_ n2_ n3_; clear hb hbox hg) | ((with_reducible refine zqg (N := 3) rfl ?_); (try (refine gate_guard (by rfl) ?_; dsimp only)); refine zqb ?hg (N := 3) ?hd (cs := #[.int .i64 a1_0, .int .i64 a1_1, .slice A1_2 l1_2.length c1_2]) (t := 29) ?hr ?_; (case hd => rfl); (case hg => rfl); (case hr => first | (go_simp; done) | (go_simp; rfl)); intro gb438 hg w5 hbox hb; have n0_ := Az.mk (blk_below (g := gb437) (o := .cells #[.int .i64 a0_0, .int .i64 a0_1, .slice A0_2 l0_2.length c0_2] 29 (0, 0)) (by (with_reducible repeat (first | refine zq6 ?_ _ | refine zq8 ?_ | refine zq7 ?_ _)); exact BK437.out) hb); have n1_ := Az.mk (below_step (by repeat (first | (with_reducible first | exact HB.out | apply zq2 | apply zq1 | apply zqd | refine zq3 ?_ GE437.out) | exact HB.out)) hb); have n2_ := Az.mk (hbox); have n3_ := Az.mk ((by rw [hg]; exact (below_size (by repeat (first | (with_reducible first | exact HB.out | apply zq2 | apply zq1 | apply zqd | refine zq3 ?_ GE437.out) | exact HB.out))) : w.heap.size ≤ gb438)); have n4_ := Az.mk ((by rw [hg]; exact (below_size (by repeat (first | (with_reducible first | exact HB.out | apply zq2 | apply zq1 | apply zqd | refine zq3 ?_ GE437.out) | exact HB.out))) : w.heap.size ≤ gb438)); have n5_ := Az.mk ((by rw [hg]; exact Nat.ne_of_lt (blk_lt (g := gb437) (o := .cells #[.int .i64 a0_0, .int .i64 a0_1, .slice A0_2 l0_2.length c0_2] 29 (0, 0)) (by (with_reducible repeat (first | refine zq6 ?_ _ | refine zq8 ?_ | refine zq7 ?_ _)); exact BK437.out)) : gb437 ≠ gb438)); have n6_ := Az.mk ((by rw [hg]; exact Nat.ne_of_gt (blk_lt (g := gb437) (o := .cells #[.int .i64 a0_0, .int .i64 a0_1, .slice A0_2 l0_2.length c0_2] 29 (0, 0)) (by (with_reducible repeat (first | refine zq6 ?_ _ | refine zq8 ?_ | refine zq7 ?_ _)); exact BK437.out)) : gb438 ≠ gb437)); clear BK437; clear HB; have BK437 := n0_; have HB := n1_; have BK438 := n2_; have GW438 := n3_; have GE438 := n4_; have NB437_438 := n5_; have NB438_437 := n6_; clear n0_ n1_ n2_ n3_ n4_ n5_ n6_; clear hb hbox hg)); go_upto_region 1 with (first | ((with_reducible refine zqg (N := 2) rfl ?_); (try (refine gate_guard (by rfl) ?_; dsimp only)); refine zqb ?hg (N := 2) ?hd (cs := #[.int .i64 a0_0, .int .i64 a0_1, .slice A0_2 l0_2.length c0_2]) (t := 29) ?hr ?_; (case hd => rfl); (case hg => rfl); (case hr => first | (go_simp; done) | (go_simp; rfl)); intro gb437 hg w4 hbox hb; have n0_ := Az.mk (below_step (by repeat (first | (with_reducible first | exact HB.out | apply zq2 | apply zq1 | apply zqd) | exact HB.out)) hb); have n1_ := Az.mk (hbox); have n2_ := Az.mk ((by rw [hg]; exact (below_size (by repeat (first | (with_reducible first | exact HB.out | apply zq2 | apply zq1 | apply zqd) | exact HB.out))) : w.heap.size ≤ gb437)); have n3_ := Az.mk ((by rw [hg]; exact (below_size (by repeat (first | (with_reducible first | exact HB.out | apply zq2 | apply zq1 | apply zqd) | exact HB.out))) : w.heap.size ≤ gb437)); clear HB; have HB := n0_; have BK437 := n1_; have GW437 := n2_; have GE437 := n3_; clear n0_ n1_ n2_ n3_; clear hb hbox hg) | ((with_reducible refine zqg (N := 3) rfl ?_); (try (refine gate_guard (by rfl) ?_; dsimp only)); refine zqb ?hg (N := 3) ?hd (cs := #[.int .i64 a1_0, .int .i64 a1_1, .slice A1_2 l1_2.length c1_2]) (t := 29) ?hr ?_; (case hd => rfl); (case hg => rfl); (case hr => first | (go_simp; done) | (go_simp; rfl)); intro gb438 hg w5 hbox hb; have n0_ := Az.mk (blk_below (g := gb437) (o := .cells #[.int .i64 a0_0, .int .i64 a0_1, .slice A0_2 l0_2.length c0_2] 29 (0, 0)) (by (with_reducible repeat (first | refine zq6 ?_ _ | refine zq8 ?_ | refine zq7 ?_ _)); exact BK437.out) hb); have n1_ := Az.mk (below_step (by repeat (first | (with_reducible first | exact HB.out | apply zq2 | apply zq1 | apply zqd | refine zq3 ?_ GE437.out) | exact HB.out)) hb); have n2_ := Az.mk (hbox); have n3_ := Az.mk ((by rw [hg]; exact (below_size (by repeat (first | (with_reducible first | exact HB.out | apply zq2 | apply zq1 | apply zqd | refine zq3 ?_ GE437.out) | exact HB.out))) : w.heap.size ≤ gb438)); have n4_ := Az.mk ((by rw [hg]; exact (below_size (by repeat (first | (with_reducible first | exact HB.out | apply zq2 | apply zq1 | apply zqd | refine zq3 ?_ GE437.out) | exact HB.out))) : w.heap.size ≤ gb438)); have n5_ := Az.mk ((by rw [hg]; exact Nat.ne_of_lt (blk_lt (g := gb437) (o := .cells #[.int .i64 a0_0, .int .i64 a0_1, .slice A0_2 l0_2.length c0_2] 29 (0, 0)) (by (with_reducible repeat (first | refine zq6 ?_ _ | refine zq8 ?_ | refine zq7 ?_ _)); exact BK437.out)) : gb437 ≠ gb438)); have n6_ := Az.mk ((by rw [hg]; exact Nat.ne_of_gt (blk_lt (g := gb437) (o := .cells #[.int .i64 a0_0, .int .i64 a0_1, .slice A0_2 l0_2.length c0_2] 29 (0, 0)) (by (with_reducible repeat (first | refine zq6 ?_ _ | refine zq8 ?_ | refine zq7 ?_ _)); exact BK437.out)) : gb438 ≠ gb437)); clear BK437; clear HB; have BK437 := n0_; have HB := n1_; have BK438 := n2_; have GW438 := n3_; have GE438 := n4_; have NB437_438 := n5_; have NB438_437 := n6_; clear n0_ n1_ n2_ n3_ n4_ n5_ n6_; clear hb hbox hg)))
 (try simp only [Act.put, zs1, zs2, zs3])
 go_cut [26] (fun v26 wc => ∃ (kq : Nat) (x26_2 : Bool), v26 = .bool x26_2 ∧ Az (spec_l2Same.j0 kq x26_2 a0_0 a0_1 l0_2 a1_0 a1_1 l1_2 = some r) ∧ Az (kq ≤ k) ∧ Az (wc.heap[gb437]? = some (.cells #[.int .i64 a0_0, .int .i64 a0_1, (.slice A0_2 l0_2.length c0_2)] 29 (0, 0))) ∧ Az (wc.heap[gb438]? = some (.cells #[.int .i64 a1_0, .int .i64 a1_1, (.slice A1_2 l1_2.length c1_2)] 29 (0, 0))) ∧ Az (Below w.heap.size w wc))
 case first =>
  have H := HC3.out
  clear HC3
  by_cases c6 : a0_0 = a1_0
  ·rw [if_pos c6] at H
   have c6b0 : (a0_0 == a1_0) = true := beq_iff_eq.mpr c6
   have c6b1 : (a0_0 != a1_0) = false := bne_eq_false_iff_eq.mpr c6
   clear c6
   (first | rw [c6b0] | (simp only [i64_w, i32_w]; rw [c6b0]) | skip)
   by_cases c7 : a0_1 = a1_1
   ·rw [if_pos c7] at H
    have c7b0 : (a0_1 == a1_1) = true := beq_iff_eq.mpr c7
    have c7b1 : (a0_1 != a1_1) = false := bne_eq_false_iff_eq.mpr c7
    clear c7
    have H' := Az.mk H
    clear H
    have hnb8 := NB437_438.out
    have hnc8 := NB438_437.out
    have hcz9_0 : w5.cell? ⟨gb437, 0, none⟩ = some (.int .i64 a0_0) := (zq4 BK437.out 0).trans rfl
    have hcz9_1 : w5.cell? ⟨gb437, 1, none⟩ = some (.int .i64 a0_1) := (zq4 BK437.out 1).trans rfl
    have hcz9_2 : w5.cell? ⟨gb437, 2, none⟩ = some (.slice A0_2 l0_2.length c0_2) := (zq4 BK437.out 2).trans rfl
    have hfz9_0 := zq5 BK437.out 0
    have hfz9_1 := zq5 BK437.out 1
    have hfz9_2 := zq5 BK437.out 2
    have hcz10_0 : w5.cell? ⟨gb438, 0, none⟩ = some (.int .i64 a1_0) := (zq4 BK438.out 0).trans rfl
    have hcz10_1 : w5.cell? ⟨gb438, 1, none⟩ = some (.int .i64 a1_1) := (zq4 BK438.out 1).trans rfl
    have hcz10_2 : w5.cell? ⟨gb438, 2, none⟩ = some (.slice A1_2 l1_2.length c1_2) := (zq4 BK438.out 2).trans rfl
    have hfz10_0 := zq5 BK438.out 0
    have hfz10_1 := zq5 BK438.out 1
    have hfz10_2 := zq5 BK438.out 2
    go_wp2
    repeat (go_quiet (fail); try go_wp2)
    go_meet
    case rel => exact ⟨_, (((l0_2.length : Int) != (l1_2.length : Int))), (by first | rfl | (simp; done) | (simp [*]; done)), H', ⟨by first | omega | exact Nat.le_refl _⟩, ⟨by (with_reducible repeat (first | refine zq6 ?_ _ | refine zq8 ?_ | refine zq7 ?_ _)); exact BK437.out⟩, ⟨by (with_reducible repeat (first | refine zq6 ?_ _ | refine zq8 ?_ | refine zq7 ?_ _)); exact BK438.out⟩, ⟨by repeat (first | (with_reducible first | exact HB.out | apply zq2 | apply zq1 | apply zqd | refine zq3 ?_ GE437.out | refine zq3 ?_ GE438.out) | exact HB.out)⟩⟩
   ·rw [if_neg c7] at H
    have c7b0 : (a0_1 == a1_1) = false := beq_eq_false_iff_ne.mpr c7
    have c7b1 : (a0_1 != a1_1) = true := bne_iff_ne.mpr c7
    have H' := Az.mk H
    clear H
    have hnb11 := NB437_438.out
    have hnc11 := NB438_437.out
    have hcz12_0 : w5.cell? ⟨gb437, 0, none⟩ = some (.int .i64 a0_0) := (zq4 BK437.out 0).trans rfl
    have hcz12_1 : w5.cell? ⟨gb437, 1, none⟩ = some (.int .i64 a0_1) := (zq4 BK437.out 1).trans rfl
    have hcz12_2 : w5.cell? ⟨gb437, 2, none⟩ = some (.slice A0_2 l0_2.length c0_2) := (zq4 BK437.out 2).trans rfl
    have hfz12_0 := zq5 BK437.out 0
    have hfz12_1 := zq5 BK437.out 1
    have hfz12_2 := zq5 BK437.out 2
    have hcz13_0 : w5.cell? ⟨gb438, 0, none⟩ = some (.int .i64 a1_0) := (zq4 BK438.out 0).trans rfl
    have hcz13_1 : w5.cell? ⟨gb438, 1, none⟩ = some (.int .i64 a1_1) := (zq4 BK438.out 1).trans rfl
    have hcz13_2 : w5.cell? ⟨gb438, 2, none⟩ = some (.slice A1_2 l1_2.length c1_2) := (zq4 BK438.out 2).trans rfl
    have hfz13_0 := zq5 BK438.out 0
    have hfz13_1 := zq5 BK438.out 1
    have hfz13_2 := zq5 BK438.out 2
    go_wp2
    repeat (go_quiet (fail); try go_wp2)
    go_meet
    case rel => exact ⟨_, (true), (by first | rfl | (simp; done) | (simp [*]; done)), H', ⟨by first | omega | exact Nat.le_refl _⟩, ⟨by (with_reducible repeat (first | refine zq6 ?_ _ | refine zq8 ?_ | refine zq7 ?_ _)); exact BK437.out⟩, ⟨by (with_reducible repeat (first | refine zq6 ?_ _ | refine zq8 ?_ | refine zq7 ?_ _)); exact BK438.out⟩, ⟨by repeat (first | (with_reducible first | exact HB.out | apply zq2 | apply zq1 | apply zqd | refine zq3 ?_ GE437.out | refine zq3 ?_ GE438.out) | exact HB.out)⟩⟩
  ·rw [if_neg c6] at H
   have c6b0 : (a0_0 == a1_0) = false := beq_eq_false_iff_ne.mpr c6
   have c6b1 : (a0_0 != a1_0) = true := bne_iff_ne.mpr c6
   (first | rw [c6b0] | (simp only [i64_w, i32_w]; rw [c6b0]) | skip)
   have H' := Az.mk H
   clear H
   have hnb14 := NB437_438.out
   have hnc14 := NB438_437.out
   have hcz15_0 : w5.cell? ⟨gb437, 0, none⟩ = some (.int .i64 a0_0) := (zq4 BK437.out 0).trans rfl
   have hcz15_1 : w5.cell? ⟨gb437, 1, none⟩ = some (.int .i64 a0_1) := (zq4 BK437.out 1).trans rfl
   have hcz15_2 : w5.cell? ⟨gb437, 2, none⟩ = some (.slice A0_2 l0_2.length c0_2) := (zq4 BK437.out 2).trans rfl
   have hfz15_0 := zq5 BK437.out 0
   have hfz15_1 := zq5 BK437.out 1
   have hfz15_2 := zq5 BK437.out 2
   have hcz16_0 : w5.cell? ⟨gb438, 0, none⟩ = some (.int .i64 a1_0) := (zq4 BK438.out 0).trans rfl
   have hcz16_1 : w5.cell? ⟨gb438, 1, none⟩ = some (.int .i64 a1_1) := (zq4 BK438.out 1).trans rfl
   have hcz16_2 : w5.cell? ⟨gb438, 2, none⟩ = some (.slice A1_2 l1_2.length c1_2) := (zq4 BK438.out 2).trans rfl
   have hfz16_0 := zq5 BK438.out 0
   have hfz16_1 := zq5 BK438.out 1
   have hfz16_2 := zq5 BK438.out 2
   go_wp2
   repeat (go_quiet (fail); try go_wp2)
   go_meet
   case rel => exact ⟨_, (true), (by first | rfl | (simp; done) | (simp [*]; done)), H', ⟨by first | omega | exact Nat.le_refl _⟩, ⟨by (with_reducible repeat (first | refine zq6 ?_ _ | refine zq8 ?_ | refine zq7 ?_ _)); exact BK437.out⟩, ⟨by (with_reducible repeat (first | refine zq6 ?_ _ | refine zq8 ?_ | refine zq7 ?_ _)); exact BK438.out⟩, ⟨by repeat (first | (with_reducible first | exact HB.out | apply zq2 | apply zq1 | apply zqd | refine zq3 ?_ GE437.out | refine zq3 ?_ GE438.out) | exact HB.out)⟩⟩
 case rest =>
  clear HC3
  try clear c1
  try clear p2
  try clear c6
  try clear c6b0
  try clear c6b1
  try clear c7
  try clear c7b0
  try clear c7b1
  try clear c8
  try clear c9
  try clear c11
  try clear c14
  try clear hcz10_0
  try clear hcz10_1
  try clear hcz10_2
  try clear hcz12_0
  try clear hcz12_1
  try clear hcz12_2
  try clear hcz13_0
  try clear hcz13_1
  try clear hcz13_2
  try clear hcz15_0
  try clear hcz15_1
  try clear hcz15_2
  try clear hcz16_0
  try clear hcz16_1
  try clear hcz16_2
  try clear hcz9_0
  try clear hcz9_1
  try clear hcz9_2
  try clear hfz10_0
  try clear hfz10_1
  try clear hfz10_2
  try clear hfz12_0
  try clear hfz12_1
  try clear hfz12_2
  try clear hfz13_0
  try clear hfz13_1
  try clear hfz13_2
  try clear hfz15_0
  try clear hfz15_1
  try clear hfz15_2
  try clear hfz16_0
  try clear hfz16_1
  try clear hfz16_2
  try clear hfz9_0
  try clear hfz9_1
  try clear hfz9_2
  obtain ⟨kq, x26_2, rfl, HA, HJ2, BK437, BK438, HB⟩ := hcut
  cases kq with
  | zero => exact absurd HA.out (by simp [spec_l2Same.j0])
  | succ kj2 =>
   have H := HA.out
   clear HA
   simp only [spec_l2Same.j0] at H
   by_cases c17 : x26_2 = true
   ·subst c17
    have H1 : (some false) = some r := by rw [if_pos rfl] at H; exact H
    clear H
    have H := H1
    clear H1
    obtain rfl := Option.some.inj H
    go_wp2
    repeat (go_quiet (fail); try go_wp2)
    go_ret
    exact ⟨by first | rfl | (simp [errW_none, errW_some] <;> rfl) | (simp [*, errW_none, errW_some] <;> rfl), by repeat (first | (with_reducible first | exact HB.out | apply zq2 | apply zq1 | apply zqd | refine zq3 ?_ GE437.out | refine zq3 ?_ GE438.out) | exact HB.out)⟩
   ·replace c17 := Bool.eq_false_iff.mpr c17
    subst c17
    have H1 : (spec_l2Same.l0 kj2 0 a0_0 a0_1 l0_2 a1_0 a1_1 l1_2) = some r := by rw [if_neg (show ¬ (false = true) by decide)] at H; exact H
    clear H
    have H := H1
    clear H1
    have H' := Az.mk H
    clear H
    go_wp2
    repeat (go_quiet (fail); try go_wp2)
    go_loopg [5] kj2 (fun kq v5 w' => ∃ (x5_2 : Int), v5 = .int .i64 x5_2 ∧ Az (spec_l2Same.l0 kq x5_2 a0_0 a0_1 l0_2 a1_0 a1_1 l1_2 = some r) ∧ Az (kq ≤ kj2) ∧ Az (w'.heap[gb437]? = some (.cells #[.int .i64 a0_0, .int .i64 a0_1, (.slice A0_2 l0_2.length c0_2)] 29 (0, 0))) ∧ Az (w'.heap[gb438]? = some (.cells #[.int .i64 a1_0, .int .i64 a1_1, (.slice A1_2 l1_2.length c1_2)] 29 (0, 0))) ∧ Az (Below w.heap.size w w'))
    case atStart => exact ⟨(0), (by first | rfl | (simp; done) | (simp [*]; done)), H', ⟨Nat.le_refl _⟩, ⟨by (with_reducible repeat (first | refine zq6 ?_ _ | refine zq8 ?_ | refine zq7 ?_ _)); exact BK437.out⟩, ⟨by (with_reducible repeat (first | refine zq6 ?_ _ | refine zq8 ?_ | refine zq7 ?_ _)); exact BK438.out⟩, ⟨by repeat (first | (with_reducible first | exact HB.out | apply zq2 | apply zq1 | apply zqd | refine zq3 ?_ GE437.out | refine zq3 ?_ GE438.out) | exact HB.out)⟩⟩
    case round =>
     clear H'
     try clear c1
     try clear p2
     try clear c6
     try clear c6b0
     try clear c6b1
     try clear c7
     try clear c7b0
     try clear c7b1
     try clear c8
     try clear c9
     try clear c11
     try clear c14
     try clear c17
     try clear hcz10_0
     try clear hcz10_1
     try clear hcz10_2
     try clear hcz12_0
     try clear hcz12_1
     try clear hcz12_2
     try clear hcz13_0
     try clear hcz13_1
     try clear hcz13_2
     try clear hcz15_0
     try clear hcz15_1
     try clear hcz15_2
     try clear hcz16_0
     try clear hcz16_1
     try clear hcz16_2
     try clear hcz9_0
     try clear hcz9_1
     try clear hcz9_2
     try clear hfz10_0
     try clear hfz10_1
     try clear hfz10_2
     try clear hfz12_0
     try clear hfz12_1
     try clear hfz12_2
     try clear hfz13_0
     try clear hfz13_1
     try clear hfz13_2
     try clear hfz15_0
     try clear hfz15_1
     try clear hfz15_2
     try clear hfz16_0
     try clear hfz16_1
     try clear hfz16_2
     try clear hfz9_0
     try clear hfz9_1
     try clear hfz9_2
     try clear p2
     obtain ⟨x5_2, rfl, HA, HK2, BK437, BK438, HB⟩ := hrel
     cases gk with
     | zero => exact absurd HA.out (by simp [spec_l2Same.l0])
     | succ k2 =>
      have H := HA.out
      clear HA
      simp only [spec_l2Same.l0] at H
      by_cases c18 : x5_2 < (l0_2.length : Int)
      ·rw [if_pos c18] at H
       have c18b0 : decide (x5_2 < (l0_2.length : Int)) = true := decide_eq_true c18
       clear c18
       by_cases c19 : 0 ≤ x5_2
       ·rw [if_pos c19] at H
        have c19b0 : decide (0 ≤ x5_2) = true := decide_eq_true c19
        clear c19
        by_cases c20 : x5_2 < (l1_2.length : Int)
        ·rw [if_pos c20] at H
         have c20b0 : decide (x5_2 < (l1_2.length : Int)) = true := decide_eq_true c20
         clear c20
         by_cases c21 : (!(((rd_T37 l0_2 x5_2).f0) == ((rd_T37 l1_2 x5_2).f0)) || (!(((rd_T37 l0_2 x5_2).f1) == ((rd_T37 l1_2 x5_2).f1)))) = true
         ·rw [if_pos c21] at H
          have c21b0 : (!(((rd_T37 l0_2 x5_2).f0) == ((rd_T37 l1_2 x5_2).f0)) || (!(((rd_T37 l0_2 x5_2).f1) == ((rd_T37 l1_2 x5_2).f1)))) = true := c21
          clear c21
          obtain rfl := Option.some.inj H
          have hnb22 := NB437_438.out
          have hnc22 := NB438_437.out
          have hcz23_0 : wr.cell? ⟨gb437, 0, none⟩ = some (.int .i64 a0_0) := (zq4 BK437.out 0).trans rfl
          have hcz23_1 : wr.cell? ⟨gb437, 1, none⟩ = some (.int .i64 a0_1) := (zq4 BK437.out 1).trans rfl
          have hcz23_2 : wr.cell? ⟨gb437, 2, none⟩ = some (.slice A0_2 l0_2.length c0_2) := (zq4 BK437.out 2).trans rfl
          have hfz23_0 := zq5 BK437.out 0
          have hfz23_1 := zq5 BK437.out 1
          have hfz23_2 := zq5 BK437.out 2
          have p439 : 0 ≤ (x5_2 : Int) := of_decide_eq_true (by first | (with_reducible assumption) | assumption)
          have q439 : x5_2 < (l0_2.length : Int) := of_decide_eq_true (by first | (with_reducible assumption) | assumption)
          obtain ⟨ad439, e439, hx439_0, hx439_1⟩ := at_T37 HR0_2.out x5_2 p439 q439
          cases e439
          replace hx439_0 := (HB.out.cell (World.block_lt_of_cell? w _ hx439_0)).trans hx439_0
          replace hx439_1 := (HB.out.cell (World.block_lt_of_cell? w _ hx439_1)).trans hx439_1
          replace p439 := eq_true p439
          replace q439 := eq_true q439
          have hcz24_0 : wr.cell? ⟨gb438, 0, none⟩ = some (.int .i64 a1_0) := (zq4 BK438.out 0).trans rfl
          have hcz24_1 : wr.cell? ⟨gb438, 1, none⟩ = some (.int .i64 a1_1) := (zq4 BK438.out 1).trans rfl
          have hcz24_2 : wr.cell? ⟨gb438, 2, none⟩ = some (.slice A1_2 l1_2.length c1_2) := (zq4 BK438.out 2).trans rfl
          have hfz24_0 := zq5 BK438.out 0
          have hfz24_1 := zq5 BK438.out 1
          have hfz24_2 := zq5 BK438.out 2
          have p440 : 0 ≤ (x5_2 : Int) := of_decide_eq_true (by first | (with_reducible assumption) | assumption)
          have q440 : x5_2 < (l1_2.length : Int) := of_decide_eq_true (by first | (with_reducible assumption) | assumption)
          obtain ⟨ad440, e440, hx440_0, hx440_1⟩ := at_T37 HR1_2.out x5_2 p440 q440
          cases e440
          replace hx440_0 := (HB.out.cell (World.block_lt_of_cell? w _ hx440_0)).trans hx440_0
          replace hx440_1 := (HB.out.cell (World.block_lt_of_cell? w _ hx440_1)).trans hx440_1
          replace p440 := eq_true p440
          replace q440 := eq_true q440
          go_wp2
          repeat (go_quiet (fail); try go_wp2)
          go_ret
          exact ⟨by first | rfl | (simp [errW_none, errW_some] <;> rfl) | (simp [*, errW_none, errW_some] <;> rfl), by repeat (first | (with_reducible first | exact HB.out | apply zq2 | apply zq1 | apply zqd | refine zq3 ?_ GE437.out | refine zq3 ?_ GE438.out) | exact HB.out)⟩
         ·rw [if_neg c21] at H
          have c21b0 : (!(((rd_T37 l0_2 x5_2).f0) == ((rd_T37 l1_2 x5_2).f0)) || (!(((rd_T37 l0_2 x5_2).f1) == ((rd_T37 l1_2 x5_2).f1)))) = false := by simpa using c21
          clear c21
          have H' := Az.mk H
          clear H
          have hnb25 := NB437_438.out
          have hnc25 := NB438_437.out
          have hcz26_0 : wr.cell? ⟨gb437, 0, none⟩ = some (.int .i64 a0_0) := (zq4 BK437.out 0).trans rfl
          have hcz26_1 : wr.cell? ⟨gb437, 1, none⟩ = some (.int .i64 a0_1) := (zq4 BK437.out 1).trans rfl
          have hcz26_2 : wr.cell? ⟨gb437, 2, none⟩ = some (.slice A0_2 l0_2.length c0_2) := (zq4 BK437.out 2).trans rfl
          have hfz26_0 := zq5 BK437.out 0
          have hfz26_1 := zq5 BK437.out 1
          have hfz26_2 := zq5 BK437.out 2
          have p439 : 0 ≤ (x5_2 : Int) := of_decide_eq_true (by first | (with_reducible assumption) | assumption)
          have q439 : x5_2 < (l0_2.length : Int) := of_decide_eq_true (by first | (with_reducible assumption) | assumption)
          obtain ⟨ad439, e439, hx439_0, hx439_1⟩ := at_T37 HR0_2.out x5_2 p439 q439
          cases e439
          replace hx439_0 := (HB.out.cell (World.block_lt_of_cell? w _ hx439_0)).trans hx439_0
          replace hx439_1 := (HB.out.cell (World.block_lt_of_cell? w _ hx439_1)).trans hx439_1
          replace p439 := eq_true p439
          replace q439 := eq_true q439
          have hcz27_0 : wr.cell? ⟨gb438, 0, none⟩ = some (.int .i64 a1_0) := (zq4 BK438.out 0).trans rfl
          have hcz27_1 : wr.cell? ⟨gb438, 1, none⟩ = some (.int .i64 a1_1) := (zq4 BK438.out 1).trans rfl
          have hcz27_2 : wr.cell? ⟨gb438, 2, none⟩ = some (.slice A1_2 l1_2.length c1_2) := (zq4 BK438.out 2).trans rfl
          have hfz27_0 := zq5 BK438.out 0
          have hfz27_1 := zq5 BK438.out 1
          have hfz27_2 := zq5 BK438.out 2
          have p440 : 0 ≤ (x5_2 : Int) := of_decide_eq_true (by first | (with_reducible assumption) | assumption)
          have q440 : x5_2 < (l1_2.length : Int) := of_decide_eq_true (by first | (with_reducible assumption) | assumption)
          obtain ⟨ad440, e440, hx440_0, hx440_1⟩ := at_T37 HR1_2.out x5_2 p440 q440
          cases e440
          replace hx440_0 := (HB.out.cell (World.block_lt_of_cell? w _ hx440_0)).trans hx440_0
          replace hx440_1 := (HB.out.cell (World.block_lt_of_cell? w _ hx440_1)).trans hx440_1
          replace p440 := eq_true p440
          replace q440 := eq_true q440
          go_wp2
          repeat (go_quiet (fail); try go_wp2)
          go_roundg k2
          case measure => have := HJ2.out; have := HK2.out; omega
          case rel => exact ⟨(wrap64 (x5_2 + 1)), (by first | rfl | (simp; done) | (simp [*]; done)), H', ⟨by have := HJ2.out; have := HK2.out; omega⟩, ⟨by (with_reducible repeat (first | refine zq6 ?_ _ | refine zq8 ?_ | refine zq7 ?_ _)); exact BK437.out⟩, ⟨by (with_reducible repeat (first | refine zq6 ?_ _ | refine zq8 ?_ | refine zq7 ?_ _)); exact BK438.out⟩, ⟨by repeat (first | (with_reducible first | exact HB.out | apply zq2 | apply zq1 | apply zqd | refine zq3 ?_ GE437.out | refine zq3 ?_ GE438.out) | exact HB.out)⟩⟩
        ·rw [if_neg c20] at H
         exact absurd H (by simp)
       ·rw [if_neg c19] at H
        exact absurd H (by simp)
      ·rw [if_neg c18] at H
       have c18b0 : decide (x5_2 < (l0_2.length : Int)) = false := decide_eq_false c18
       clear c18
       obtain rfl := Option.some.inj H
       have hnb28 := NB437_438.out
       have hnc28 := NB438_437.out
       have hcz29_0 : wr.cell? ⟨gb437, 0, none⟩ = some (.int .i64 a0_0) := (zq4 BK437.out 0).trans rfl
       have hcz29_1 : wr.cell? ⟨gb437, 1, none⟩ = some (.int .i64 a0_1) := (zq4 BK437.out 1).trans rfl
       have hcz29_2 : wr.cell? ⟨gb437, 2, none⟩ = some (.slice A0_2 l0_2.length c0_2) := (zq4 BK437.out 2).trans rfl
       have hfz29_0 := zq5 BK437.out 0
       have hfz29_1 := zq5 BK437.out 1
       have hfz29_2 := zq5 BK437.out 2
       go_wp2
       repeat (go_quiet (fail); try go_wp2)
       go_ret
       exact ⟨by first | rfl | (simp [errW_none, errW_some] <;> rfl) | (simp [*, errW_none, errW_some] <;> rfl), by repeat (first | (with_reducible first | exact HB.out | apply zq2 | apply zq1 | apply zqd | refine zq3 ?_ GE437.out | refine zq3 ?_ GE438.out) | exact HB.out)⟩
end Go.Proofs.Ytkoimmeghdbodaa.Print
namespace Go.Proofs.Ytkoimmeghdbodaa.Print
open Go.RowKit Go.Proofs.YtkoimmeghdbodaaW.PrintWords Go.Proofs.YtkoimmeghdbodaaW.PrintLast Go.Proofs.YtkoimmeghdbodaaW.PrintMore
attribute [local go_sem] max2_int min2_int max_two min_two max_three min_three max_four min_four   -- for this text's walks alone
set_option linter.unusedVariables false
set_option linter.unusedSimpArgs false
end Go.Proofs.Ytkoimmeghdbodaa.Print
namespace Go.Proofs.Ytkoimmeghdbodaa.Print
open Go.RowKit Go.Proofs.YtkoimmeghdbodaaW.PrintWords Go.Proofs.YtkoimmeghdbodaaW.PrintLast Go.Proofs.YtkoimmeghdbodaaW.PrintMore
attribute [local go_sem] max2_int min2_int max_two min_two max_three min_three max_four min_four   -- for this text's walks alone
set_option linter.unusedVariables false
set_option linter.unusedSimpArgs false
def laws_toPtrS.l0 : Nat → List (S24) → List (S29) → Int → Option ((List (S29)))
 | 0, _, _, _ => none
 | k + 1, x0, x3, x4 => if x4 < (x0.length : Int) then (if 0 ≤ x4 then ((laws_toPtr.f k ((rd_T24 x0 x4).f0) ((rd_T24 x0 x4).f1) ((rd_T24 x0 x4).f2)).bind fun bt466 => (if x4 < (x3.length : Int) then (laws_toPtrS.l0 k x0 (x3.set (x4 : Int).toNat (⟨bt466.1, bt466.2.1, bt466.2.2⟩ : S29)) (wrap64 (x4 + 1))) else (none))) else (none)) else (some x3)
def laws_toPtrS.f (k : Nat) (l0 : List (S24)) : Option ((List (S29))) := if 0 ≤ (l0.length : Int) then (if ((l0.length : Int) : Int).toNat ≤ 7036874417766 then (laws_toPtrS.l0 k l0 (List.replicate ((l0.length : Int) : Int).toNat z29) 0) else (none)) else (none)
set_option maxHeartbeats 8000000 in
set_option maxRecDepth 100000 in
theorem laws_toPtrS.calls (k : Nat) (A0 : Option Addr) (c0 : Nat) (l0 : List (S24)) (r : List (S29)) (w : World) (hr0 : Kd.C k24 w A0 l0.length l0) (hc0 : l0.length ≤ c0) (h : laws_toPtrS.f k l0 = some r) :
  Calls Try.prog 121 #[.slice A0 l0.length c0] w fun e w' => ∃ v0_ : Value, e = .returned (v0_) ∧ Kd.S k29 29 w' w.heap.size (fun _ => True) v0_ r ∧ Below w.heap.size w w' := by
 have hu24 := Try.underlying24
 have hu29 := Try.underlying29
 have HR0 := Az.mk hr0
 have HC0 := Az.mk hc0
 clear hr0 hc0
 have HB := Az.mk (Below.refl w.heap.size w)
 have H : (if 0 ≤ (l0.length : Int) then (if ((l0.length : Int) : Int).toNat ≤ 7036874417766 then (laws_toPtrS.l0 k l0 (List.replicate ((l0.length : Int) : Int).toNat z29) 0) else (none)) else (none)) = some r := h
 clear h
 by_cases c2 : 0 ≤ (l0.length : Int)
 ·rw [if_pos c2] at H
  have c2b0 := eq_true c2
  have c2b1 : decide (0 ≤ (l0.length : Int)) = true := decide_eq_true c2
  clear c2
  by_cases c3 : ((l0.length : Int) : Int).toNat ≤ 7036874417766
  ·rw [if_pos c3] at H
   have c3b0 := eq_true c3
   have c3b1 : decide (((l0.length : Int) : Int).toNat ≤ 7036874417766) = true := decide_eq_true c3
   clear c3
   obtain ⟨y462, hy462⟩ : ∃ y_ : List (S29), y_ = (List.replicate ((l0.length : Int) : Int).toNat z29) := ⟨_, rfl⟩
   replace H : (laws_toPtrS.l0 k l0 y462 0) = some r := by first | (rw [hy462]; with_reducible exact H) | (have H2_ := (Option.bind_some _ _).symm.trans H; rw [hy462]; with_reducible exact H2_) | (have H2_ := (Option.bind_some _ _).symm.trans H; with_reducible exact H2_) | with_reducible exact H | (rw [hy462]; exact H) | exact H
   have Ny462 := Az.mk hy462
   clear hy462
   have H' := Az.mk H
   clear H
   go_enter Try.func121, Try.ntmps121
   go_wp2_with (first | ((with_reducible refine zqg (N := 7) rfl ?_); refine Kd.S_make k29 _ 29 rfl (N := 7) rfl 63 _ _ rfl (l0.length : Int) rfl rfl Try.underlying63 (.agg #[(.int .i64 0), (.int .i64 0), (.slice none 0 0)]) 40 info29 rfl (by decide) (by omega) z29 (ok := fun _ => True) (okp := fun _ => True) (k29_mkM _ _ _ z29 (Kd.R_nil _ _ _ _ _)) (fun _ hk => hk) trivial (of_decide_eq_true (by first | (with_reducible assumption) | assumption)) (Nat.le_trans (Nat.mul_le_mul_right _ (of_decide_eq_true (by first | (with_reducible assumption) | assumption) : (l0.length : Int).toNat ≤ 7036874417766)) (by omega)) (Below.refl _ _) (Nat.le_refl _) ?_; intro v463 w4 ho5 hb hg_ hnew_; clear hg_ hnew_; (first | rw [← Ny462.out] at ho5 | (simp only [Int.reduceToNat] at ho5; rw [← Ny462.out] at ho5)); have n0_ := Az.mk (Kd.S_lower ho5 (below_size (by repeat (first | (with_reducible first | exact HB.out | apply zq2 | apply zq1 | apply zqd) | exact HB.out)))); have n1_ := Az.mk (below_step (by repeat (first | (with_reducible first | exact HB.out | apply zq2 | apply zq1 | apply zqd) | exact HB.out)) hb); clear HB; have HO464 := n0_; have HB := n1_; clear n0_ n1_; clear hb ho5))
   go_loopg [4] k (fun kq v4 w' => ∃ (x3_1 : List (S29)) (x4_1 : Int), v4 = .int .i64 x4_1 ∧ Az (laws_toPtrS.l0 kq l0 x3_1 x4_1 = some r) ∧ Az (kq ≤ k) ∧ Az (Kd.S k29 29 w' w.heap.size (fun _ => True) v463 x3_1) ∧ Az (Below w.heap.size w w'))
   case atStart => exact ⟨(y462), (0), (by first | rfl | (simp; done) | (simp [*]; done)), H', ⟨Nat.le_refl _⟩, ⟨by (with_reducible repeat (first | apply Kd.S_alloc | apply Kd.S_drewN | apply Kd.S_drew)); exact HO464.out⟩, ⟨by repeat (first | (with_reducible first | exact HB.out | apply zq2 | apply zq1 | apply zqd) | exact HB.out)⟩⟩
   case round =>
    clear H'
    try clear c1
    try clear c2
    try clear c2b0
    try clear c2b1
    try clear p2
    try clear c3
    try clear c3b0
    try clear c3b1
    obtain ⟨x3_1, x4_1, rfl, HA, HK1, HO_3, HB⟩ := hrel
    cases gk with
    | zero => exact absurd HA.out (by simp [laws_toPtrS.l0])
    | succ k1 =>
     have H := HA.out
     clear HA
     simp only [laws_toPtrS.l0] at H
     by_cases c6 : x4_1 < (l0.length : Int)
     ·rw [if_pos c6] at H
      have c6b0 : decide (x4_1 < (l0.length : Int)) = true := decide_eq_true c6
      clear c6
      by_cases c7 : 0 ≤ x4_1
      ·rw [if_pos c7] at H
       have c7b0 : decide (0 ≤ x4_1) = true := decide_eq_true c7
       clear c7
       replace H := Option.bind_eq_some_iff.mp H
       obtain ⟨⟨t466, t467, t468⟩, A80, H⟩ := H
       replace H : (if x4_1 < (x3_1.length : Int) then (laws_toPtrS.l0 k1 l0 (x3_1.set (x4_1 : Int).toNat (⟨t466, t467, t468⟩ : S29)) (wrap64 (x4_1 + 1))) else (none)) = some r := H
       have A8 := Az.mk A80
       clear A80
       by_cases c9 : x4_1 < (x3_1.length : Int)
       ·rw [if_pos c9] at H
        have c9b0 : decide (x4_1 < (x3_1.length : Int)) = true := decide_eq_true c9
        clear c9
        obtain ⟨y471, hy471⟩ : ∃ y_ : List (S29), y_ = (x3_1.set (x4_1 : Int).toNat (⟨t466, t467, t468⟩ : S29)) := ⟨_, rfl⟩
        replace H : (laws_toPtrS.l0 k1 l0 y471 (wrap64 (x4_1 + 1))) = some r := by first | (rw [hy471]; with_reducible exact H) | (have H2_ := (Option.bind_some _ _).symm.trans H; rw [hy471]; with_reducible exact H2_) | (have H2_ := (Option.bind_some _ _).symm.trans H; with_reducible exact H2_) | with_reducible exact H | (rw [hy471]; exact H) | exact H
        have Ny471 := Az.mk hy471
        clear hy471
        have H' := Az.mk H
        clear H
        have p465 : 0 ≤ (x4_1 : Int) := of_decide_eq_true (by first | (with_reducible assumption) | assumption)
        have q465 : x4_1 < (l0.length : Int) := of_decide_eq_true (by first | (with_reducible assumption) | assumption)
        obtain ⟨ad465, A465_2, c465_2, e465, hx465_0, hx465_1, hx465_2, hl465_2, hi465_2⟩ := at_T24 HR0.out x4_1 p465 q465
        cases e465
        replace hx465_0 := (HB.out.cell (World.block_lt_of_cell? w _ hx465_0)).trans hx465_0
        replace hx465_1 := (HB.out.cell (World.block_lt_of_cell? w _ hx465_1)).trans hx465_1
        replace hx465_2 := (HB.out.cell (World.block_lt_of_cell? w _ hx465_2)).trans hx465_2
        have HR465_2 := Az.mk hi465_2
        have HC465_2 := Az.mk hl465_2
        clear hi465_2 hl465_2
        replace p465 := eq_true p465
        replace q465 := eq_true q465
        go_wp2_with (first | ((with_reducible refine gate_callee (f := 19) rfl ?_); refine zq9 (some 20) rfl rfl Try.func19 (by kernel_rfl) rfl #[.agg #[.int .i64 ((rd_T24 l0 x4_1).f0), .int .i64 ((rd_T24 l0 x4_1).f1), .slice A465_2 ((rd_T24 l0 x4_1).f2).length c465_2]] rfl (by (try simp only [List.map_toArray, List.map_cons, List.map_nil]); first | done | rfl | (simp only [List.length_drop, List.length_take]; rfl)) ?_; (with_reducible refine (laws_toPtr.calls k1 ((rd_T24 l0 x4_1).f0) ((rd_T24 l0 x4_1).f1) _ _ ((rd_T24 l0 x4_1).f2) t466 t467 t468 _ ?side1 ?side2 A8.out).mono ?_); (case side1 => repeat (first | exact (Kd.C_below HR465_2.out HB.out) | (with_reducible refine Kd.C_alloc ?_ _) | (with_reducible refine Kd.C_drewN ?_ _) | (with_reducible refine Kd.C_drew ?_))); (case side2 => exact HC465_2.out); rintro e w11 ⟨v469, rfl, ho0, hb⟩; refine ⟨_, rfl, ?_⟩; have n0_ := Az.mk (Kd.S_elder' (by (with_reducible repeat (first | apply Kd.S_alloc | apply Kd.S_drewN | apply Kd.S_drew)); exact HO_3.out) (Kd.R_base ho0) hb); have n1_ := Az.mk (Kd.R_lower ho0 (below_size (by repeat (first | (with_reducible first | exact HB.out | apply zq2 | apply zq1 | apply zqd) | exact HB.out)))); have n2_ := Az.mk (below_step (by repeat (first | (with_reducible first | exact HB.out | apply zq2 | apply zq1 | apply zqd) | exact HB.out)) hb); clear HO_3; clear HB; have HO_3 := n0_; have HO470 := n1_; have HB := n2_; clear n0_ n1_ n2_; (try clear hb); (try clear hb2); (try clear hk); (try clear hi); (try clear ho0); have p10 : 0 ≤ (x4_1 : Int) := of_decide_eq_true (by first | (with_reducible assumption) | assumption); have q10 : (x4_1 : Int) < ((x3_1.length : Int) : Int) := of_decide_eq_true (by first | (with_reducible assumption) | assumption); obtain ⟨go10, co10, eo10, gb10, gl10, cl10, HG10⟩ := Kd.S_form HO_3.out (by omega); (first | cases eo10 | (injection eo10 with ea_ en_ ec_; (first | subst ea_ | (injection ea_ with ea_; subst ea_)); subst ec_; clear en_)); have GB10 := Az.mk gb10; have GG10 := Az.mk HG10; clear gb10 gl10 HG10; obtain ⟨_, ce10, hcl10, hM10, hcc10, hfr10, _, _⟩ := Kd.S_elem HO_3.out z29 (x4_1 : Int) p10 q10; obtain ⟨ve10_2, rfl, ge10_2⟩ := k29_openM hM10; have hx10_0 : w11.cell? ⟨go10, (x4_1 : Int).toNat * 3, none⟩ = some (.int .i64 ((rd_T29 x3_1 x4_1).f0)) := hcc10 0 _ rfl; have hx10_1 : w11.cell? ⟨go10, (x4_1 : Int).toNat * 3 + 1, none⟩ = some (.int .i64 ((rd_T29 x3_1 x4_1).f1)) := hcc10 1 _ rfl; have hx10_2 : w11.cell? ⟨go10, (x4_1 : Int).toNat * 3 + 2, none⟩ = some (ve10_2) := hcc10 2 _ rfl; have hf10_0 : w11.frozen? ⟨go10, (x4_1 : Int).toNat * 3, none⟩ = false := hfr10 0; have hf10_1 : w11.frozen? ⟨go10, (x4_1 : Int).toNat * 3 + 1, none⟩ = false := hfr10 1; have hf10_2 : w11.frozen? ⟨go10, (x4_1 : Int).toNat * 3 + 2, none⟩ = false := hfr10 2; clear hcl10 hcc10 hfr10 hM10; replace p10 := eq_true p10; replace q10 := eq_true q10; have n_ := Az.mk (Kd.S_mono (ok' := (fun k_ => some k_ ≠ (v469 : Value).ownBlock)) HO_3.out (fun k_ hk => hk.2)); clear HO_3; have HO_3 := n_; clear n_; have HX12 := Az.mk (show Kd.S k29 29 w11 w.heap.size (fun k_ => ((fun _ => True)) k_ ∧ ¬ ((fun k_ => some k_ = (v469 : Value).ownBlock)) k_) (.slice (some ⟨go10, 0, none⟩) x3_1.length co10) x3_1 from (by (with_reducible repeat (first | apply Kd.S_alloc | apply Kd.S_drewN | apply Kd.S_drew)); exact Kd.S_mono HO_3.out (fun k_ hk => ⟨trivial, fun e_ => hk e_⟩))); obtain ⟨oki12, ce12, hcl12, hM12, hcc12, hfr12, hoki12, hH12⟩ := Kd.S_elem HX12.out z29 (x4_1 : Int) (of_decide_eq_true (by first | (with_reducible assumption) | assumption)) (by have h_ : (x4_1 : Int) < ((x3_1.length : Int) : Int) := of_decide_eq_true (by first | (with_reducible assumption) | assumption); first | exact h_ | (have e_ := (Kd.S_reads' HO_3.out).1; omega) | simpa using h_); obtain ⟨ve12_2, rfl, ge12_2⟩ := k29_openM hM12; have HP12 := Kd.S_seg hH12 (of_decide_eq_true (by first | (with_reducible assumption) | assumption)) (by have h_ : (x4_1 : Int) < ((x3_1.length : Int) : Int) := of_decide_eq_true (by first | (with_reducible assumption) | assumption); first | exact h_ | (have e_ := (Kd.S_reads' HO_3.out).1; omega) | simpa using h_) (seg := [.int .i64 t466, .int .i64 t467, v469]) (j := 0) (show 3 ≤ 3 from by decide) (x' := (⟨t466, t467, t468⟩ : S29)) (k29_mkM _ _ _ (⟨t466, t467, t468⟩ : S29) (Kd.R_mono (Kd.R_tight rfl (Kd.R_mono (ok' := fun k_ => ((fun _ => True)) k_ ∧ k_ ≠ go10) (Kd.R_apart' (HO470.out) (Kd.S_typed HO_3.out) (by decide)) (fun k_ hk => ⟨trivial, fun e_ => (hk.2) (by rw [e_]; rfl)⟩))) (fun _ h_ => Or.inr (h_)))) (fun _ hk => hk) (fun k_ hk_ => ((Kd.R_mono (ok' := fun k_ => ((fun _ => True)) k_ ∧ k_ ≠ go10) (Kd.R_apart' (HO470.out) (Kd.S_typed HO_3.out) (by decide)) (fun k_ hk => ⟨trivial, fun e_ => (hk.2) (by rw [e_]; rfl)⟩))).1 k_ hk_.symm); have hx12_0 := hcc12 0 _ rfl; (try simp only [show (k29).sz = 3 from rfl, Nat.mul_one, Nat.add_zero] at hx12_0); have hf12_0 := hfr12 0; (try simp only [show (k29).sz = 3 from rfl, Nat.mul_one, Nat.add_zero] at hf12_0); have hx12_1 := hcc12 1 _ rfl; (try simp only [show (k29).sz = 3 from rfl, Nat.mul_one, Nat.add_zero] at hx12_1); have hf12_1 := hfr12 1; (try simp only [show (k29).sz = 3 from rfl, Nat.mul_one, Nat.add_zero] at hf12_1); have hx12_2 := hcc12 2 _ rfl; (try simp only [show (k29).sz = 3 from rfl, Nat.mul_one, Nat.add_zero] at hx12_2); have hf12_2 := hfr12 2; (try simp only [show (k29).sz = 3 from rfl, Nat.mul_one, Nat.add_zero] at hf12_2); clear hcl12 hcc12 hfr12 hM12 hoki12 hH12) | ((with_reducible refine gate_store (t := 29) (p := 21) rfl ?_); have hst_v469 : ∀ (W_ : World) (a_ : Addr) (m_ : Mode), (store a_ v469 m_).run Try.prog W_ = stored Try.prog W_ a_ v469 m_ := fun W_ a_ m_ => run_store Try.prog W_ a_ _ m_ (by obtain ⟨A_, c_, e_⟩ := Kd.R_slice HO470.out; rw [e_]; rfl); refine store_event (t := 29) (p := 21) (v := ?vo_w13) (w1 := (((w11.setCell ⟨go10, (x4_1 : Int).toNat * 3, none⟩ (.int .i64 t466)).setCell ⟨go10, (x4_1 : Int).toNat * 3 + 1, none⟩ (.int .i64 t467)).setCell ⟨go10, (x4_1 : Int).toNat * 3 + 2, none⟩ (v469))) ?hg ?ho ?hn ?hr ?_; (case ho => rfl); (case hg => rfl); (case hn => rfl); (case hr => first | (go_simp; done) | (go_simp; rfl)); intro w13 hw; have hg : w11.grownBy w13 (some go10) := (by rw [hw]; exact HP12.2); have hp_ : Kd.S k29 29 w13 w.heap.size (fun _ => True) (.slice (some ⟨go10, 0, none⟩) x3_1.length co10) y471 := (by rw [hw, Ny471.out]; exact HP12.1); clear HP12; have n0_ := Az.mk (hp_); have n1_ := Az.mk ((by rw [hw]; exact zq3 (zq3 (zq3 (HB.out) GB10.out) GB10.out) GB10.out : Below w.heap.size w w13)); clear HO_3; clear HB; clear HO470; have HO_3 := n0_; have HB := n1_; clear n0_ n1_; clear hg hw hp_))
        go_roundg k1
        case measure => have := HK1.out; omega
        case rel => exact ⟨(y471), (wrap64 (x4_1 + 1)), (by first | rfl | (simp; done) | (simp [*]; done)), H', ⟨by have := HK1.out; omega⟩, ⟨by (with_reducible repeat (first | apply Kd.S_alloc | apply Kd.S_drewN | apply Kd.S_drew)); exact HO_3.out⟩, ⟨by repeat (first | (with_reducible first | exact HB.out | apply zq2 | apply zq1 | apply zqd) | exact HB.out)⟩⟩
       ·rw [if_neg c9] at H
        exact absurd H (by simp)
      ·rw [if_neg c7] at H
       exact absurd H (by simp)
     ·rw [if_neg c6] at H
      have c6b0 : decide (x4_1 < (l0.length : Int)) = false := decide_eq_false c6
      clear c6
      obtain rfl := Option.some.inj H
      go_wp2
      go_ret
      exact ⟨_, by first | rfl | (simp [errW_none, errW_some] <;> rfl) | (simp [*, errW_none, errW_some] <;> rfl), by (with_reducible repeat (first | apply Kd.S_alloc | apply Kd.S_drewN | apply Kd.S_drew)); exact HO_3.out, by repeat (first | (with_reducible first | exact HB.out | apply zq2 | apply zq1 | apply zqd) | exact HB.out)⟩
  ·rw [if_neg c3] at H
   exact absurd H (by simp)
 ·rw [if_neg c2] at H
  exact absurd H (by simp)
def laws_toVol.f (k : Nat) (a0_0 : ByteArray) (l0_1 : List (S24)) : Option (ByteArray × (List (S29))) := (laws_toPtrS.f k l0_1).bind fun t475 => (some (a0_0, t475))
set_option maxHeartbeats 8000000 in
set_option maxRecDepth 100000 in
theorem laws_toVol.calls (k : Nat) (a0_0 : ByteArray) (A0_1 : Option Addr) (c0_1 : Nat) (l0_1 : List (S24)) (r1 : ByteArray) (r2 : List (S29)) (w : World) (hr0_1 : Kd.C k24 w A0_1 l0_1.length l0_1) (hc0_1 : l0_1.length ≤ c0_1) (h : laws_toVol.f k a0_0 l0_1 = some (r1, r2)) :
  Calls Try.prog 100 #[.agg #[.string a0_0, .slice A0_1 l0_1.length c0_1]] w fun e w' => ∃ v1_ : Value, e = .returned (.agg #[.string r1, v1_]) ∧ Kd.S k29 29 w' w.heap.size (fun _ => True) v1_ r2 ∧ Below w.heap.size w w' := by
 have hu120 := Try.underlying120
 have hu65 := Try.underlying65
 have HR0_1 := Az.mk hr0_1
 have HC0_1 := Az.mk hc0_1
 clear hr0_1 hc0_1
 have HB := Az.mk (Below.refl w.heap.size w)
 have H : ((laws_toPtrS.f k l0_1).bind fun t475 => (some (a0_0, t475))) = some (r1, r2) := h
 clear h
 replace H := Option.bind_eq_some_iff.mp H
 obtain ⟨t475, A20, H⟩ := H
 replace H : (some (a0_0, t475)) = some (r1, r2) := H
 have A2 := Az.mk A20
 clear A20
 simp only [Option.some.injEq, Prod.mk.injEq] at H
 obtain ⟨rfl, rfl⟩ := H
 go_enter Try.func100, Try.ntmps100
 go_wp2_with (first | ((with_reducible refine zqg (N := 1) rfl ?_); refine zqb ?hg (N := 1) ?hd (cs := #[.string a0_0, .slice A0_1 l0_1.length c0_1]) (t := 120) ?hr ?_; (case hd => rfl); (case hg => rfl); (case hr => first | (go_simp; done) | (go_simp; rfl)); intro gb472 hg w3 hbox hb; have n0_ := Az.mk (below_step (by repeat (first | (with_reducible first | exact HB.out | apply zq2 | apply zq1 | apply zqd) | exact HB.out)) hb); have n1_ := Az.mk (hbox); have n2_ := Az.mk ((by rw [hg]; exact (below_size (by repeat (first | (with_reducible first | exact HB.out | apply zq2 | apply zq1 | apply zqd) | exact HB.out))) : w.heap.size ≤ gb472)); have n3_ := Az.mk ((by rw [hg]; exact (below_size (by repeat (first | (with_reducible first | exact HB.out | apply zq2 | apply zq1 | apply zqd) | exact HB.out))) : w.heap.size ≤ gb472)); clear HB; have HB := n0_; have BK472 := n1_; have GW472 := n2_; have GE472 := n3_; clear n0_ n1_ n2_ n3_; clear hb hbox hg) | ((with_reducible refine zqg (N := 2) rfl ?_); refine zqb ?hg (N := 2) ?hd (cs := #[.string (⟨#[]⟩ : ByteArray), .slice none 0 0]) (t := 65) ?hr ?_; (case hd => rfl); (case hg => rfl); (case hr => first | (go_simp; done) | (go_simp; rfl)); intro gb473 hg w4 hbox hb; have n0_ := Az.mk (blk_below (g := gb472) (o := .cells #[.string a0_0, .slice A0_1 l0_1.length c0_1] 120 (0, 0)) (by (with_reducible repeat (first | refine zq6 ?_ _ | refine zq8 ?_ | refine zq7 ?_ _)); exact BK472.out) hb); have n1_ := Az.mk (below_step (by repeat (first | (with_reducible first | exact HB.out | apply zq2 | apply zq1 | apply zqd | refine zq3 ?_ GE472.out) | exact HB.out)) hb); have n2_ := Az.mk (hbox); have n3_ := Az.mk ((by rw [hg]; exact (below_size (by repeat (first | (with_reducible first | exact HB.out | apply zq2 | apply zq1 | apply zqd | refine zq3 ?_ GE472.out) | exact HB.out))) : w.heap.size ≤ gb473)); have n4_ := Az.mk ((by rw [hg]; exact (below_size (by repeat (first | (with_reducible first | exact HB.out | apply zq2 | apply zq1 | apply zqd | refine zq3 ?_ GE472.out) | exact HB.out))) : w.heap.size ≤ gb473)); have n5_ := Az.mk ((by rw [hg]; exact Nat.ne_of_lt (blk_lt (g := gb472) (o := .cells #[.string a0_0, .slice A0_1 l0_1.length c0_1] 120 (0, 0)) (by (with_reducible repeat (first | refine zq6 ?_ _ | refine zq8 ?_ | refine zq7 ?_ _)); exact BK472.out)) : gb472 ≠ gb473)); have n6_ := Az.mk ((by rw [hg]; exact Nat.ne_of_gt (blk_lt (g := gb472) (o := .cells #[.string a0_0, .slice A0_1 l0_1.length c0_1] 120 (0, 0)) (by (with_reducible repeat (first | refine zq6 ?_ _ | refine zq8 ?_ | refine zq7 ?_ _)); exact BK472.out)) : gb473 ≠ gb472)); clear BK472; clear HB; have BK472 := n0_; have HB := n1_; have BK473 := n2_; have GW473 := n3_; have GE473 := n4_; have NB472_473 := n5_; have NB473_472 := n6_; clear n0_ n1_ n2_ n3_ n4_ n5_ n6_; clear hb hbox hg) | ((with_reducible refine zqg (N := 3) rfl ?_); refine zqb ?hg (N := 3) ?hd (cs := #[.string (⟨#[]⟩ : ByteArray), .slice none 0 0]) (t := 65) ?hr ?_; (case hd => rfl); (case hg => rfl); (case hr => first | (go_simp; done) | (go_simp; rfl)); intro gb474 hg w5 hbox hb; have n0_ := Az.mk (blk_below (g := gb472) (o := .cells #[.string a0_0, .slice A0_1 l0_1.length c0_1] 120 (0, 0)) (by (with_reducible repeat (first | refine zq6 ?_ _ | refine zq8 ?_ | refine zq7 ?_ _)); exact BK472.out) hb); have n1_ := Az.mk (blk_below (g := gb473) (o := .cells #[.string (⟨#[]⟩ : ByteArray), .slice none 0 0] 65 (0, 0)) (by (with_reducible repeat (first | refine zq6 ?_ _ | refine zq8 ?_ | refine zq7 ?_ _)); exact BK473.out) hb); have n2_ := Az.mk (below_step (by repeat (first | (with_reducible first | exact HB.out | apply zq2 | apply zq1 | apply zqd | refine zq3 ?_ GE472.out | refine zq3 ?_ GE473.out) | exact HB.out)) hb); have n3_ := Az.mk (hbox); have n4_ := Az.mk ((by rw [hg]; exact (below_size (by repeat (first | (with_reducible first | exact HB.out | apply zq2 | apply zq1 | apply zqd | refine zq3 ?_ GE472.out | refine zq3 ?_ GE473.out) | exact HB.out))) : w.heap.size ≤ gb474)); have n5_ := Az.mk ((by rw [hg]; exact (below_size (by repeat (first | (with_reducible first | exact HB.out | apply zq2 | apply zq1 | apply zqd | refine zq3 ?_ GE472.out | refine zq3 ?_ GE473.out) | exact HB.out))) : w.heap.size ≤ gb474)); have n6_ := Az.mk ((by rw [hg]; exact Nat.ne_of_lt (blk_lt (g := gb472) (o := .cells #[.string a0_0, .slice A0_1 l0_1.length c0_1] 120 (0, 0)) (by (with_reducible repeat (first | refine zq6 ?_ _ | refine zq8 ?_ | refine zq7 ?_ _)); exact BK472.out)) : gb472 ≠ gb474)); have n7_ := Az.mk ((by rw [hg]; exact Nat.ne_of_gt (blk_lt (g := gb472) (o := .cells #[.string a0_0, .slice A0_1 l0_1.length c0_1] 120 (0, 0)) (by (with_reducible repeat (first | refine zq6 ?_ _ | refine zq8 ?_ | refine zq7 ?_ _)); exact BK472.out)) : gb474 ≠ gb472)); have n8_ := Az.mk ((by rw [hg]; exact Nat.ne_of_lt (blk_lt (g := gb473) (o := .cells #[.string (⟨#[]⟩ : ByteArray), .slice none 0 0] 65 (0, 0)) (by (with_reducible repeat (first | refine zq6 ?_ _ | refine zq8 ?_ | refine zq7 ?_ _)); exact BK473.out)) : gb473 ≠ gb474)); have n9_ := Az.mk ((by rw [hg]; exact Nat.ne_of_gt (blk_lt (g := gb473) (o := .cells #[.string (⟨#[]⟩ : ByteArray), .slice none 0 0] 65 (0, 0)) (by (with_reducible repeat (first | refine zq6 ?_ _ | refine zq8 ?_ | refine zq7 ?_ _)); exact BK473.out)) : gb474 ≠ gb473)); clear BK472; clear BK473; clear HB; have BK472 := n0_; have BK473 := n1_; have HB := n2_; have BK474 := n3_; have GW474 := n4_; have GE474 := n5_; have NB472_474 := n6_; have NB474_472 := n7_; have NB473_474 := n8_; have NB474_473 := n9_; clear n0_ n1_ n2_ n3_ n4_ n5_ n6_ n7_ n8_ n9_; clear hb hbox hg; have hnb6 := NB472_473.out; have hnc6 := NB473_472.out; have hnb7 := NB472_474.out; have hnc7 := NB474_472.out; have hcz8_0 : w5.cell? ⟨gb472, 0, none⟩ = some (.string a0_0) := (zq4 BK472.out 0).trans rfl; have hcz8_1 : w5.cell? ⟨gb472, 1, none⟩ = some (.slice A0_1 l0_1.length c0_1) := (zq4 BK472.out 1).trans rfl; have hfz8_0 := zq5 BK472.out 0; have hfz8_1 := zq5 BK472.out 1; have hnb9 := NB474_473.out; have hnc9 := NB473_474.out; have hcz10_0 : w5.cell? ⟨gb474, 0, none⟩ = some (.string (⟨#[]⟩ : ByteArray)) := (zq4 BK474.out 0).trans rfl; have hcz10_1 : w5.cell? ⟨gb474, 1, none⟩ = some (.slice none 0 0) := (zq4 BK474.out 1).trans rfl; have hfz10_0 := zq5 BK474.out 0; have hfz10_1 := zq5 BK474.out 1) | ((with_reducible refine gate_callee (f := 121) rfl ?_); refine zq9 (some 9) rfl rfl Try.func121 (by kernel_rfl) rfl #[.slice A0_1 l0_1.length c0_1] rfl (by (try simp only [List.map_toArray, List.map_cons, List.map_nil]); first | done | rfl | (simp only [List.length_drop, List.length_take]; rfl)) ?_; (with_reducible refine (laws_toPtrS.calls k _ _ l0_1 t475 _ ?side1 ?side2 A2.out).mono ?_); (case side1 => exact Kd.C_below HR0_1.out (by repeat (first | (with_reducible first | exact HB.out | apply zq2 | apply zq1 | apply zqd | refine zq3 ?_ GE472.out | refine zq3 ?_ GE473.out | refine zq3 ?_ GE474.out) | exact HB.out))); (case side2 => exact HC0_1.out); rintro e w11 ⟨v476, rfl, ho0, hb⟩; refine ⟨_, rfl, ?_⟩; have n0_ := Az.mk (Kd.S_lower ho0 (below_size (by repeat (first | (with_reducible first | exact HB.out | apply zq2 | apply zq1 | apply zqd | refine zq3 ?_ GE472.out | refine zq3 ?_ GE473.out | refine zq3 ?_ GE474.out) | exact HB.out)))); have n1_ := Az.mk (blk_below (g := gb472) (o := .cells #[.string a0_0, .slice A0_1 l0_1.length c0_1] 120 (0, 0)) (by (with_reducible repeat (first | refine zq6 ?_ _ | refine zq8 ?_ | refine zq7 ?_ _)); refine blk_far ?_ NB472_474.out _; (with_reducible repeat (first | refine zq6 ?_ _ | refine zq8 ?_ | refine zq7 ?_ _)); exact BK472.out) hb); have n2_ := Az.mk (blk_below (g := gb473) (o := .cells #[.string (⟨#[]⟩ : ByteArray), .slice none 0 0] 65 (0, 0)) (by (with_reducible repeat (first | refine zq6 ?_ _ | refine zq8 ?_ | refine zq7 ?_ _)); refine blk_far ?_ NB473_474.out _; (with_reducible repeat (first | refine zq6 ?_ _ | refine zq8 ?_ | refine zq7 ?_ _)); exact BK473.out) hb); have n3_ := Az.mk (blk_below (g := gb474) (o := .cells #[.string a0_0, .slice none 0 0] 65 (0, 0)) (by (with_reducible repeat (first | refine zq6 ?_ _ | refine zq8 ?_ | refine zq7 ?_ _)); refine blk_put (cs := #[.string (⟨#[]⟩ : ByteArray), .slice none 0 0]) ?_ 0 _ rfl; (with_reducible repeat (first | refine zq6 ?_ _ | refine zq8 ?_ | refine zq7 ?_ _)); exact BK474.out) hb); have n4_ := Az.mk (below_step (by repeat (first | (with_reducible first | exact HB.out | apply zq2 | apply zq1 | apply zqd | refine zq3 ?_ GE472.out | refine zq3 ?_ GE473.out | refine zq3 ?_ GE474.out) | exact HB.out)) hb); clear BK472; clear BK473; clear BK474; clear HB; have HO477 := n0_; have BK472 := n1_; have BK473 := n2_; have BK474 := n3_; have HB := n4_; clear n0_ n1_ n2_ n3_ n4_; (try clear hb); (try clear hb2); (try clear hk); (try clear hi); (try clear ho0); obtain ⟨Ao12, co12, eo12⟩ := Kd.S_slice HO477.out; subst eo12; have hcz13_0 : w11.cell? ⟨gb474, 0, none⟩ = some (.string a0_0) := (zq4 BK474.out 0).trans rfl; have hcz13_1 : w11.cell? ⟨gb474, 1, none⟩ = some (.slice none 0 0) := (zq4 BK474.out 1).trans rfl; have hfz13_0 := zq5 BK474.out 0; have hfz13_1 := zq5 BK474.out 1; have hcz14_0 : w11.cell? ⟨gb473, 0, none⟩ = some (.string (⟨#[]⟩ : ByteArray)) := (zq4 BK473.out 0).trans rfl; have hcz14_1 : w11.cell? ⟨gb473, 1, none⟩ = some (.slice none 0 0) := (zq4 BK473.out 1).trans rfl; have hfz14_0 := zq5 BK473.out 0; have hfz14_1 := zq5 BK473.out 1))
 refine bodyPost_ret (results_cell_row rfl _ _ gb473 65 #[.string a0_0, .slice Ao12 t475.length co12] (0, 0) _ rfl (by (with_reducible repeat (first | refine zq6 ?_ _ | refine zq8 ?_ | refine zq7 ?_ _)); refine blk_put (cs := #[.string a0_0, .slice none 0 0]) ?_ 1 _ rfl; (with_reducible repeat (first | refine zq6 ?_ _ | refine zq8 ?_ | refine zq7 ?_ _)); refine blk_put (cs := #[.string (⟨#[]⟩ : ByteArray), .slice none 0 0]) ?_ 0 _ rfl; (with_reducible repeat (first | refine zq6 ?_ _ | refine zq8 ?_ | refine zq7 ?_ _)); refine blk_far ?_ NB473_474.out _; (with_reducible repeat (first | refine zq6 ?_ _ | refine zq8 ?_ | refine zq7 ?_ _)); exact BK473.out) Try.underlying65 rfl (by kernel_rfl)) rfl ?_
 exact ⟨_, by first | rfl | (simp [errW_none, errW_some] <;> rfl) | (simp [*, errW_none, errW_some] <;> rfl), by (with_reducible repeat (first | apply Kd.S_alloc | apply Kd.S_drewN | apply Kd.S_drew)); exact Kd.S_mono (Kd.S_far (p := ⟨gb473, 1, none⟩) (Kd.S_far (p := ⟨gb473, 0, none⟩) (Kd.S_far (p := ⟨gb474, 1, none⟩) (Kd.S_types (Kd.S_types HO477.out BK474.out (by decide)) BK473.out (by decide)) (fun _ hk => hk.1.2) (.slice Ao12 t475.length co12)) (fun _ hk => hk.2) (.string a0_0)) (fun _ hk => hk.2) (.slice Ao12 t475.length co12)) (fun _ hk => trivial), by repeat (first | (with_reducible first | exact HB.out | apply zq2 | apply zq1 | apply zqd | refine zq3 ?_ GE472.out | refine zq3 ?_ GE473.out | refine zq3 ?_ GE474.out) | exact HB.out)⟩
end Go.Proofs.Ytkoimmeghdbodaa.Print
namespace Go.Proofs.Ytkoimmeghdbodaa.Print
open Go.RowKit Go.Proofs.YtkoimmeghdbodaaW.PrintWords Go.Proofs.YtkoimmeghdbodaaW.PrintLast Go.Proofs.YtkoimmeghdbodaaW.PrintMore
attribute [local go_sem] max2_int min2_int max_two min_two max_three min_three max_four min_four   -- for this text's walks alone
set_option linter.unusedVariables false
set_option linter.unusedSimpArgs false
def laws_toVolS.l0 : Nat → List (S120) → List (S65) → Int → Option ((List (S65)))
 | 0, _, _, _ => none
 | k + 1, x0, x3, x4 => if x4 < (x0.length : Int) then (if 0 ≤ x4 then ((laws_toVol.f k ((rd_T120 x0 x4).f0) ((rd_T120 x0 x4).f1)).bind fun bt482 => (if x4 < (x3.length : Int) then (laws_toVolS.l0 k x0 (x3.set (x4 : Int).toNat (⟨bt482.1, bt482.2⟩ : S65)) (wrap64 (x4 + 1))) else (none))) else (none)) else (some x3)
def laws_toVolS.f (k : Nat) (l0 : List (S120)) : Option ((List (S65))) := if 0 ≤ (l0.length : Int) then (if ((l0.length : Int) : Int).toNat ≤ 7036874417766 then (laws_toVolS.l0 k l0 (List.replicate ((l0.length : Int) : Int).toNat z65) 0) else (none)) else (none)
set_option maxHeartbeats 8000000 in
set_option maxRecDepth 100000 in
theorem laws_toVolS.calls (k : Nat) (A0 : Option Addr) (c0 : Nat) (l0 : List (S120)) (r : List (S65)) (w : World) (hr0 : Kd.C k120 w A0 l0.length l0) (hc0 : l0.length ≤ c0) (h : laws_toVolS.f k l0 = some r) :
  Calls Try.prog 77 #[.slice A0 l0.length c0] w fun e w' => ∃ v0_ : Value, e = .returned (v0_) ∧ Kd.R k65 65 w' w.heap.size (fun _ => True) v0_ r ∧ Below w.heap.size w w' := by
 have hu120 := Try.underlying120
 have hu65 := Try.underlying65
 have HR0 := Az.mk hr0
 have HC0 := Az.mk hc0
 clear hr0 hc0
 have HB := Az.mk (Below.refl w.heap.size w)
 have H : (if 0 ≤ (l0.length : Int) then (if ((l0.length : Int) : Int).toNat ≤ 7036874417766 then (laws_toVolS.l0 k l0 (List.replicate ((l0.length : Int) : Int).toNat z65) 0) else (none)) else (none)) = some r := h
 clear h
 by_cases c2 : 0 ≤ (l0.length : Int)
 ·rw [if_pos c2] at H
  have c2b0 := eq_true c2
  have c2b1 : decide (0 ≤ (l0.length : Int)) = true := decide_eq_true c2
  clear c2
  by_cases c3 : ((l0.length : Int) : Int).toNat ≤ 7036874417766
  ·rw [if_pos c3] at H
   have c3b0 := eq_true c3
   have c3b1 : decide (((l0.length : Int) : Int).toNat ≤ 7036874417766) = true := decide_eq_true c3
   clear c3
   obtain ⟨y478, hy478⟩ : ∃ y_ : List (S65), y_ = (List.replicate ((l0.length : Int) : Int).toNat z65) := ⟨_, rfl⟩
   replace H : (laws_toVolS.l0 k l0 y478 0) = some r := by first | (rw [hy478]; with_reducible exact H) | (have H2_ := (Option.bind_some _ _).symm.trans H; rw [hy478]; with_reducible exact H2_) | (have H2_ := (Option.bind_some _ _).symm.trans H; with_reducible exact H2_) | with_reducible exact H | (rw [hy478]; exact H) | exact H
   have Ny478 := Az.mk hy478
   clear hy478
   have H' := Az.mk H
   clear H
   go_enter Try.func77, Try.ntmps77
   go_wp2_with (first | ((with_reducible refine zqg (N := 7) rfl ?_); refine Kd.R_make k65 _ 65 rfl (N := 7) rfl 55 _ _ rfl (l0.length : Int) rfl rfl Try.underlying55 (.agg #[(.string ⟨#[]⟩), (.slice none 0 0)]) 40 info65 rfl (by decide) (by omega) z65 (ok := fun _ => True) (okp := fun _ => True) (k65_mkM _ _ _ z65 (Kd.R_nil _ _ _ _ _)) (fun _ hk => hk) trivial (of_decide_eq_true (by first | (with_reducible assumption) | assumption)) (Nat.le_trans (Nat.mul_le_mul_right _ (of_decide_eq_true (by first | (with_reducible assumption) | assumption) : (l0.length : Int).toNat ≤ 7036874417766)) (by omega)) (Below.refl _ _) (Nat.le_refl _) ?_; intro v479 w4 ho5 hb hg_ hnew_; clear hg_ hnew_; (first | rw [← Ny478.out] at ho5 | (simp only [Int.reduceToNat] at ho5; rw [← Ny478.out] at ho5)); have n0_ := Az.mk (Kd.R_lower ho5 (below_size (by repeat (first | (with_reducible first | exact HB.out | apply zq2 | apply zq1 | apply zqd) | exact HB.out)))); have n1_ := Az.mk (below_step (by repeat (first | (with_reducible first | exact HB.out | apply zq2 | apply zq1 | apply zqd) | exact HB.out)) hb); clear HB; have HO480 := n0_; have HB := n1_; clear n0_ n1_; clear hb ho5))
   go_loopg [4] k (fun kq v4 w' => ∃ (x3_1 : List (S65)) (x4_1 : Int), v4 = .int .i64 x4_1 ∧ Az (laws_toVolS.l0 kq l0 x3_1 x4_1 = some r) ∧ Az (kq ≤ k) ∧ Az (Kd.R k65 65 w' w.heap.size (fun _ => True) v479 x3_1) ∧ Az (Below w.heap.size w w'))
   case atStart => exact ⟨(y478), (0), (by first | rfl | (simp; done) | (simp [*]; done)), H', ⟨Nat.le_refl _⟩, ⟨by (with_reducible repeat (first | apply Kd.R_alloc | apply Kd.R_drewN | apply Kd.R_drew)); exact HO480.out⟩, ⟨by repeat (first | (with_reducible first | exact HB.out | apply zq2 | apply zq1 | apply zqd) | exact HB.out)⟩⟩
   case round =>
    clear H'
    try clear c2
    try clear c2b0
    try clear c2b1
    try clear p2
    try clear c3
    try clear c3b0
    try clear c3b1
    obtain ⟨x3_1, x4_1, rfl, HA, HK1, HO_3, HB⟩ := hrel
    cases gk with
    | zero => exact absurd HA.out (by simp [laws_toVolS.l0])
    | succ k1 =>
     have H := HA.out
     clear HA
     simp only [laws_toVolS.l0] at H
     by_cases c6 : x4_1 < (l0.length : Int)
     ·rw [if_pos c6] at H
      have c6b0 : decide (x4_1 < (l0.length : Int)) = true := decide_eq_true c6
      clear c6
      by_cases c7 : 0 ≤ x4_1
      ·rw [if_pos c7] at H
       have c7b0 : decide (0 ≤ x4_1) = true := decide_eq_true c7
       clear c7
       replace H := Option.bind_eq_some_iff.mp H
       obtain ⟨⟨t482, t483⟩, A80, H⟩ := H
       replace H : (if x4_1 < (x3_1.length : Int) then (laws_toVolS.l0 k1 l0 (x3_1.set (x4_1 : Int).toNat (⟨t482, t483⟩ : S65)) (wrap64 (x4_1 + 1))) else (none)) = some r := H
       have A8 := Az.mk A80
       clear A80
       by_cases c9 : x4_1 < (x3_1.length : Int)
       ·rw [if_pos c9] at H
        have c9b0 : decide (x4_1 < (x3_1.length : Int)) = true := decide_eq_true c9
        clear c9
        obtain ⟨y486, hy486⟩ : ∃ y_ : List (S65), y_ = (x3_1.set (x4_1 : Int).toNat (⟨t482, t483⟩ : S65)) := ⟨_, rfl⟩
        replace H : (laws_toVolS.l0 k1 l0 y486 (wrap64 (x4_1 + 1))) = some r := by first | (rw [hy486]; with_reducible exact H) | (have H2_ := (Option.bind_some _ _).symm.trans H; rw [hy486]; with_reducible exact H2_) | (have H2_ := (Option.bind_some _ _).symm.trans H; with_reducible exact H2_) | with_reducible exact H | (rw [hy486]; exact H) | exact H
        have Ny486 := Az.mk hy486
        clear hy486
        have H' := Az.mk H
        clear H
        have p481 : 0 ≤ (x4_1 : Int) := of_decide_eq_true (by first | (with_reducible assumption) | assumption)
        have q481 : x4_1 < (l0.length : Int) := of_decide_eq_true (by first | (with_reducible assumption) | assumption)
        obtain ⟨ad481, A481_1, c481_1, e481, hx481_0, hx481_1, hl481_1, hi481_1⟩ := at_T120 HR0.out x4_1 p481 q481
        cases e481
        replace hx481_0 := (HB.out.cell (World.block_lt_of_cell? w _ hx481_0)).trans hx481_0
        replace hx481_1 := (HB.out.cell (World.block_lt_of_cell? w _ hx481_1)).trans hx481_1
        have HR481_1 := Az.mk hi481_1
        have HC481_1 := Az.mk hl481_1
        clear hi481_1 hl481_1
        replace p481 := eq_true p481
        replace q481 := eq_true q481
        go_wp2_with (first | ((with_reducible refine gate_callee (f := 100) rfl ?_); refine zq9 (some 20) rfl rfl Try.func100 (by kernel_rfl) rfl #[.agg #[.string ((rd_T120 l0 x4_1).f0), .slice A481_1 ((rd_T120 l0 x4_1).f1).length c481_1]] rfl (by (try simp only [List.map_toArray, List.map_cons, List.map_nil]); first | done | rfl | (simp only [List.length_drop, List.length_take]; rfl)) ?_; (with_reducible refine (laws_toVol.calls k1 ((rd_T120 l0 x4_1).f0) _ _ ((rd_T120 l0 x4_1).f1) t482 t483 _ ?side1 ?side2 A8.out).mono ?_); (case side1 => repeat (first | exact (Kd.C_below HR481_1.out HB.out) | (with_reducible refine Kd.C_alloc ?_ _) | (with_reducible refine Kd.C_drewN ?_ _) | (with_reducible refine Kd.C_drew ?_))); (case side2 => exact HC481_1.out); rintro e w11 ⟨v484, rfl, ho0, hb⟩; refine ⟨_, rfl, ?_⟩; have n0_ := Az.mk (Kd.R_elder' (by (with_reducible repeat (first | apply Kd.R_alloc | apply Kd.R_drewN | apply Kd.R_drew)); exact HO_3.out) (Kd.S_base ho0) hb); have n1_ := Az.mk (Kd.S_lower ho0 (below_size (by repeat (first | (with_reducible first | exact HB.out | apply zq2 | apply zq1 | apply zqd) | exact HB.out)))); have n2_ := Az.mk (below_step (by repeat (first | (with_reducible first | exact HB.out | apply zq2 | apply zq1 | apply zqd) | exact HB.out)) hb); clear HO_3; clear HB; have HO_3 := n0_; have HO485 := n1_; have HB := n2_; clear n0_ n1_ n2_; (try clear hb); (try clear hb2); (try clear hk); (try clear hi); (try clear ho0); have p10 : 0 ≤ (x4_1 : Int) := of_decide_eq_true (by first | (with_reducible assumption) | assumption); have q10 : (x4_1 : Int) < ((x3_1.length : Int) : Int) := of_decide_eq_true (by first | (with_reducible assumption) | assumption); obtain ⟨go10, co10, eo10, gb10, gl10, cl10, HG10⟩ := Kd.R_form HO_3.out (by omega); (first | cases eo10 | (injection eo10 with ea_ en_ ec_; (first | subst ea_ | (injection ea_ with ea_; subst ea_)); subst ec_; clear en_)); have GB10 := Az.mk gb10; have GG10 := Az.mk HG10; clear gb10 gl10 HG10; obtain ⟨ce10, hcl10, hM10, hcc10, hfr10⟩ := Kd.R_elem HO_3.out z65 (x4_1 : Int) p10 q10; obtain ⟨ve10_1, rfl, ge10_1⟩ := k65_openM hM10; have hx10_0 : w11.cell? ⟨go10, (x4_1 : Int).toNat * 2, none⟩ = some (.string ((rd_T65 x3_1 x4_1).f0)) := hcc10 0 _ rfl; have hx10_1 : w11.cell? ⟨go10, (x4_1 : Int).toNat * 2 + 1, none⟩ = some (ve10_1) := hcc10 1 _ rfl; have hf10_0 : w11.frozen? ⟨go10, (x4_1 : Int).toNat * 2, none⟩ = false := hfr10 0; have hf10_1 : w11.frozen? ⟨go10, (x4_1 : Int).toNat * 2 + 1, none⟩ = false := hfr10 1; clear hcl10 hcc10 hfr10 hM10; replace p10 := eq_true p10; replace q10 := eq_true q10; have n_ := Az.mk (Kd.R_mono (ok' := (fun k_ => some k_ ≠ (v484 : Value).ownBlock)) HO_3.out (fun k_ hk => hk.2)); clear HO_3; have HO_3 := n_; clear n_; have HX12 := Az.mk (show Kd.R k65 65 w11 w.heap.size (fun _ => True) (.slice (some ⟨go10, 0, none⟩) x3_1.length co10) x3_1 from (by (with_reducible repeat (first | apply Kd.R_alloc | apply Kd.R_drewN | apply Kd.R_drew)); exact Kd.R_mono HO_3.out (fun _ hk => trivial))); obtain ⟨ce12, hcl12, hM12, hcc12, hfr12⟩ := Kd.R_elem HX12.out z65 (x4_1 : Int) (of_decide_eq_true (by first | (with_reducible assumption) | assumption)) (by have h_ : (x4_1 : Int) < ((x3_1.length : Int) : Int) := of_decide_eq_true (by first | (with_reducible assumption) | assumption); first | exact h_ | (have e_ := (Kd.R_reads' HO_3.out).1; omega) | simpa using h_); obtain ⟨ve12_1, rfl, ge12_1⟩ := k65_openM hM12; have HP12 := Kd.R_seg HX12.out (x4_1 : Int) (of_decide_eq_true (by first | (with_reducible assumption) | assumption)) (by have h_ : (x4_1 : Int) < ((x3_1.length : Int) : Int) := of_decide_eq_true (by first | (with_reducible assumption) | assumption); first | exact h_ | (have e_ := (Kd.R_reads' HO_3.out).1; omega) | simpa using h_) (seg := [.string t482, v484]) (j := 0) hcl12 hcc12 (show 2 ≤ 2 from by decide) (x' := (⟨t482, t483⟩ : S65)) (k65_mkM _ _ _ (⟨t482, t483⟩ : S65) (Kd.R_mono (Kd.R_apart' ((Kd.S_R HO485.out)) (Kd.R_typed HO_3.out) (by decide)) (fun k_ hk => ⟨trivial, fun e_ => (hk.2) (by rw [e_]; rfl)⟩))) (fun _ hk => hk); have hx12_0 := hcc12 0 _ rfl; (try simp only [show (k65).sz = 2 from rfl, Nat.mul_one, Nat.add_zero] at hx12_0); have hf12_0 := hfr12 0; (try simp only [show (k65).sz = 2 from rfl, Nat.mul_one, Nat.add_zero] at hf12_0); have hx12_1 := hcc12 1 _ rfl; (try simp only [show (k65).sz = 2 from rfl, Nat.mul_one, Nat.add_zero] at hx12_1); have hf12_1 := hfr12 1; (try simp only [show (k65).sz = 2 from rfl, Nat.mul_one, Nat.add_zero] at hf12_1); clear hcl12 hcc12 hfr12 hM12) | ((with_reducible refine gate_store (t := 65) (p := 21) rfl ?_); have hst_v484 : ∀ (W_ : World) (a_ : Addr) (m_ : Mode), (store a_ v484 m_).run Try.prog W_ = stored Try.prog W_ a_ v484 m_ := fun W_ a_ m_ => run_store Try.prog W_ a_ _ m_ (by obtain ⟨A_, c_, e_⟩ := Kd.S_slice HO485.out; rw [e_]; rfl); refine store_event (t := 65) (p := 21) (v := ?vo_w13) (w1 := ((w11.setCell ⟨go10, (x4_1 : Int).toNat * 2, none⟩ (.string t482)).setCell ⟨go10, (x4_1 : Int).toNat * 2 + 1, none⟩ (v484))) ?hg ?ho ?hn ?hr ?_; (case ho => rfl); (case hg => rfl); (case hn => rfl); (case hr => first | (go_simp; done) | (go_simp; rfl)); intro w13 hw; have hg : w11.grownBy w13 (some go10) := (by rw [hw]; exact HP12.2); have hp_ : Kd.R k65 65 w13 w.heap.size (fun _ => True) (.slice (some ⟨go10, 0, none⟩) x3_1.length co10) y486 := (by rw [hw, Ny486.out]; exact HP12.1); clear HP12; have n0_ := Az.mk (hp_); have n1_ := Az.mk ((by rw [hw]; exact zq3 (zq3 (HB.out) GB10.out) GB10.out : Below w.heap.size w w13)); clear HO_3; clear HB; clear HO485; have HO_3 := n0_; have HB := n1_; clear n0_ n1_; clear hg hw hp_))
        go_roundg k1
        case measure => have := HK1.out; omega
        case rel => exact ⟨(y486), (wrap64 (x4_1 + 1)), (by first | rfl | (simp; done) | (simp [*]; done)), H', ⟨by have := HK1.out; omega⟩, ⟨by (with_reducible repeat (first | apply Kd.R_alloc | apply Kd.R_drewN | apply Kd.R_drew)); exact HO_3.out⟩, ⟨by repeat (first | (with_reducible first | exact HB.out | apply zq2 | apply zq1 | apply zqd) | exact HB.out)⟩⟩
       ·rw [if_neg c9] at H
        exact absurd H (by simp)
      ·rw [if_neg c7] at H
       exact absurd H (by simp)
     ·rw [if_neg c6] at H
      have c6b0 : decide (x4_1 < (l0.length : Int)) = false := decide_eq_false c6
      clear c6
      obtain rfl := Option.some.inj H
      go_wp2
      go_ret
      exact ⟨_, by first | rfl | (simp [errW_none, errW_some] <;> rfl) | (simp [*, errW_none, errW_some] <;> rfl), by (with_reducible repeat (first | apply Kd.R_alloc | apply Kd.R_drewN | apply Kd.R_drew)); exact HO_3.out, by repeat (first | (with_reducible first | exact HB.out | apply zq2 | apply zq1 | apply zqd) | exact HB.out)⟩
  ·rw [if_neg c3] at H
   exact absurd H (by simp)
 ·rw [if_neg c2] at H
  exact absurd H (by simp)
def laws_toRoot.f (k : Nat) (a0_0 : Int) (l0_1 : List (S120)) : Option (Int × (List (S65))) := (laws_toVolS.f k l0_1).bind fun t490 => (some (a0_0, t490))
set_option maxHeartbeats 8000000 in
set_option maxRecDepth 100000 in
theorem laws_toRoot.calls (k : Nat) (a0_0 : Int) (A0_1 : Option Addr) (c0_1 : Nat) (l0_1 : List (S120)) (r1 : Int) (r2 : List (S65)) (w : World) (hr0_1 : Kd.C k120 w A0_1 l0_1.length l0_1) (hc0_1 : l0_1.length ≤ c0_1) (h : laws_toRoot.f k a0_0 l0_1 = some (r1, r2)) :
  Calls Try.prog 37 #[.agg #[.int .i64 a0_0, .slice A0_1 l0_1.length c0_1]] w fun e w' => ∃ v1_ : Value, e = .returned (.agg #[.int .i64 r1, v1_]) ∧ Kd.R k65 65 w' w.heap.size (fun _ => True) v1_ r2 ∧ Below w.heap.size w w' := by
 have hu52 := Try.underlying52
 have hu57 := Try.underlying57
 have HR0_1 := Az.mk hr0_1
 have HC0_1 := Az.mk hc0_1
 clear hr0_1 hc0_1
 have HB := Az.mk (Below.refl w.heap.size w)
 have H : ((laws_toVolS.f k l0_1).bind fun t490 => (some (a0_0, t490))) = some (r1, r2) := h
 clear h
 replace H := Option.bind_eq_some_iff.mp H
 obtain ⟨t490, A20, H⟩ := H
 replace H : (some (a0_0, t490)) = some (r1, r2) := H
 have A2 := Az.mk A20
 clear A20
 simp only [Option.some.injEq, Prod.mk.injEq] at H
 obtain ⟨rfl, rfl⟩ := H
 go_enter Try.func37, Try.ntmps37
 go_wp2_with (first | ((with_reducible refine zqg (N := 1) rfl ?_); refine zqb ?hg (N := 1) ?hd (cs := #[.int .i64 a0_0, .slice A0_1 l0_1.length c0_1]) (t := 52) ?hr ?_; (case hd => rfl); (case hg => rfl); (case hr => first | (go_simp; done) | (go_simp; rfl)); intro gb487 hg w3 hbox hb; have n0_ := Az.mk (below_step (by repeat (first | (with_reducible first | exact HB.out | apply zq2 | apply zq1 | apply zqd) | exact HB.out)) hb); have n1_ := Az.mk (hbox); have n2_ := Az.mk ((by rw [hg]; exact (below_size (by repeat (first | (with_reducible first | exact HB.out | apply zq2 | apply zq1 | apply zqd) | exact HB.out))) : w.heap.size ≤ gb487)); have n3_ := Az.mk ((by rw [hg]; exact (below_size (by repeat (first | (with_reducible first | exact HB.out | apply zq2 | apply zq1 | apply zqd) | exact HB.out))) : w.heap.size ≤ gb487)); clear HB; have HB := n0_; have BK487 := n1_; have GW487 := n2_; have GE487 := n3_; clear n0_ n1_ n2_ n3_; clear hb hbox hg) | ((with_reducible refine zqg (N := 2) rfl ?_); refine zqb ?hg (N := 2) ?hd (cs := #[.int .i64 0, .slice none 0 0]) (t := 57) ?hr ?_; (case hd => rfl); (case hg => rfl); (case hr => first | (go_simp; done) | (go_simp; rfl)); intro gb488 hg w4 hbox hb; have n0_ := Az.mk (blk_below (g := gb487) (o := .cells #[.int .i64 a0_0, .slice A0_1 l0_1.length c0_1] 52 (0, 0)) (by (with_reducible repeat (first | refine zq6 ?_ _ | refine zq8 ?_ | refine zq7 ?_ _)); exact BK487.out) hb); have n1_ := Az.mk (below_step (by repeat (first | (with_reducible first | exact HB.out | apply zq2 | apply zq1 | apply zqd | refine zq3 ?_ GE487.out) | exact HB.out)) hb); have n2_ := Az.mk (hbox); have n3_ := Az.mk ((by rw [hg]; exact (below_size (by repeat (first | (with_reducible first | exact HB.out | apply zq2 | apply zq1 | apply zqd | refine zq3 ?_ GE487.out) | exact HB.out))) : w.heap.size ≤ gb488)); have n4_ := Az.mk ((by rw [hg]; exact (below_size (by repeat (first | (with_reducible first | exact HB.out | apply zq2 | apply zq1 | apply zqd | refine zq3 ?_ GE487.out) | exact HB.out))) : w.heap.size ≤ gb488)); have n5_ := Az.mk ((by rw [hg]; exact Nat.ne_of_lt (blk_lt (g := gb487) (o := .cells #[.int .i64 a0_0, .slice A0_1 l0_1.length c0_1] 52 (0, 0)) (by (with_reducible repeat (first | refine zq6 ?_ _ | refine zq8 ?_ | refine zq7 ?_ _)); exact BK487.out)) : gb487 ≠ gb488)); have n6_ := Az.mk ((by rw [hg]; exact Nat.ne_of_gt (blk_lt (g := gb487) (o := .cells #[.int .i64 a0_0, .slice A0_1 l0_1.length c0_1] 52 (0, 0)) (by (with_reducible repeat (first | refine zq6 ?_ _ | refine zq8 ?_ | refine zq7 ?_ _)); exact BK487.out)) : gb488 ≠ gb487)); clear BK487; clear HB; have BK487 := n0_; have HB := n1_; have BK488 := n2_; have GW488 := n3_; have GE488 := n4_; have NB487_488 := n5_; have NB488_487 := n6_; clear n0_ n1_ n2_ n3_ n4_ n5_ n6_; clear hb hbox hg) | ((with_reducible refine zqg (N := 3) rfl ?_); refine zqb ?hg (N := 3) ?hd (cs := #[.int .i64 0, .slice none 0 0]) (t := 57) ?hr ?_; (case hd => rfl); (case hg => rfl); (case hr => first | (go_simp; done) | (go_simp; rfl)); intro gb489 hg w5 hbox hb; have n0_ := Az.mk (blk_below (g := gb487) (o := .cells #[.int .i64 a0_0, .slice A0_1 l0_1.length c0_1] 52 (0, 0)) (by (with_reducible repeat (first | refine zq6 ?_ _ | refine zq8 ?_ | refine zq7 ?_ _)); exact BK487.out) hb); have n1_ := Az.mk (blk_below (g := gb488) (o := .cells #[.int .i64 0, .slice none 0 0] 57 (0, 0)) (by (with_reducible repeat (first | refine zq6 ?_ _ | refine zq8 ?_ | refine zq7 ?_ _)); exact BK488.out) hb); have n2_ := Az.mk (below_step (by repeat (first | (with_reducible first | exact HB.out | apply zq2 | apply zq1 | apply zqd | refine zq3 ?_ GE487.out | refine zq3 ?_ GE488.out) | exact HB.out)) hb); have n3_ := Az.mk (hbox); have n4_ := Az.mk ((by rw [hg]; exact (below_size (by repeat (first | (with_reducible first | exact HB.out | apply zq2 | apply zq1 | apply zqd | refine zq3 ?_ GE487.out | refine zq3 ?_ GE488.out) | exact HB.out))) : w.heap.size ≤ gb489)); have n5_ := Az.mk ((by rw [hg]; exact (below_size (by repeat (first | (with_reducible first | exact HB.out | apply zq2 | apply zq1 | apply zqd | refine zq3 ?_ GE487.out | refine zq3 ?_ GE488.out) | exact HB.out))) : w.heap.size ≤ gb489)); have n6_ := Az.mk ((by rw [hg]; exact Nat.ne_of_lt (blk_lt (g := gb487) (o := .cells #[.int .i64 a0_0, .slice A0_1 l0_1.length c0_1] 52 (0, 0)) (by (with_reducible repeat (first | refine zq6 ?_ _ | refine zq8 ?_ | refine zq7 ?_ _)); exact BK487.out)) : gb487 ≠ gb489)); have n7_ := Az.mk ((by rw [hg]; exact Nat.ne_of_gt (blk_lt (g := gb487) (o := .cells #[.int .i64 a0_0, .slice A0_1 l0_1.length c0_1] 52 (0, 0)) (by (with_reducible repeat (first | refine zq6 ?_ _ | refine zq8 ?_ | refine zq7 ?_ _)); exact BK487.out)) : gb489 ≠ gb487)); have n8_ := Az.mk ((by rw [hg]; exact Nat.ne_of_lt (blk_lt (g := gb488) (o := .cells #[.int .i64 0, .slice none 0 0] 57 (0, 0)) (by (with_reducible repeat (first | refine zq6 ?_ _ | refine zq8 ?_ | refine zq7 ?_ _)); exact BK488.out)) : gb488 ≠ gb489)); have n9_ := Az.mk ((by rw [hg]; exact Nat.ne_of_gt (blk_lt (g := gb488) (o := .cells #[.int .i64 0, .slice none 0 0] 57 (0, 0)) (by (with_reducible repeat (first | refine zq6 ?_ _ | refine zq8 ?_ | refine zq7 ?_ _)); exact BK488.out)) : gb489 ≠ gb488)); clear BK487; clear BK488; clear HB; have BK487 := n0_; have BK488 := n1_; have HB := n2_; have BK489 := n3_; have GW489 := n4_; have GE489 := n5_; have NB487_489 := n6_; have NB489_487 := n7_; have NB488_489 := n8_; have NB489_488 := n9_; clear n0_ n1_ n2_ n3_ n4_ n5_ n6_ n7_ n8_ n9_; clear hb hbox hg; have hnb6 := NB487_488.out; have hnc6 := NB488_487.out; have hnb7 := NB487_489.out; have hnc7 := NB489_487.out; have hcz8_0 : w5.cell? ⟨gb487, 0, none⟩ = some (.int .i64 a0_0) := (zq4 BK487.out 0).trans rfl; have hcz8_1 : w5.cell? ⟨gb487, 1, none⟩ = some (.slice A0_1 l0_1.length c0_1) := (zq4 BK487.out 1).trans rfl; have hfz8_0 := zq5 BK487.out 0; have hfz8_1 := zq5 BK487.out 1; have hnb9 := NB489_488.out; have hnc9 := NB488_489.out; have hcz10_0 : w5.cell? ⟨gb489, 0, none⟩ = some (.int .i64 0) := (zq4 BK489.out 0).trans rfl; have hcz10_1 : w5.cell? ⟨gb489, 1, none⟩ = some (.slice none 0 0) := (zq4 BK489.out 1).trans rfl; have hfz10_0 := zq5 BK489.out 0; have hfz10_1 := zq5 BK489.out 1) | ((with_reducible refine gate_callee (f := 77) rfl ?_); refine zq9 (some 9) rfl rfl Try.func77 (by kernel_rfl) rfl #[.slice A0_1 l0_1.length c0_1] rfl (by (try simp only [List.map_toArray, List.map_cons, List.map_nil]); first | done | rfl | (simp only [List.length_drop, List.length_take]; rfl)) ?_; (with_reducible refine (laws_toVolS.calls k _ _ l0_1 t490 _ ?side1 ?side2 A2.out).mono ?_); (case side1 => exact Kd.C_below HR0_1.out (by repeat (first | (with_reducible first | exact HB.out | apply zq2 | apply zq1 | apply zqd | refine zq3 ?_ GE487.out | refine zq3 ?_ GE488.out | refine zq3 ?_ GE489.out) | exact HB.out))); (case side2 => exact HC0_1.out); rintro e w11 ⟨v491, rfl, ho0, hb⟩; refine ⟨_, rfl, ?_⟩; have n0_ := Az.mk (Kd.R_lower ho0 (below_size (by repeat (first | (with_reducible first | exact HB.out | apply zq2 | apply zq1 | apply zqd | refine zq3 ?_ GE487.out | refine zq3 ?_ GE488.out | refine zq3 ?_ GE489.out) | exact HB.out)))); have n1_ := Az.mk (blk_below (g := gb487) (o := .cells #[.int .i64 a0_0, .slice A0_1 l0_1.length c0_1] 52 (0, 0)) (by (with_reducible repeat (first | refine zq6 ?_ _ | refine zq8 ?_ | refine zq7 ?_ _)); refine blk_far ?_ NB487_489.out _; (with_reducible repeat (first | refine zq6 ?_ _ | refine zq8 ?_ | refine zq7 ?_ _)); exact BK487.out) hb); have n2_ := Az.mk (blk_below (g := gb488) (o := .cells #[.int .i64 0, .slice none 0 0] 57 (0, 0)) (by (with_reducible repeat (first | refine zq6 ?_ _ | refine zq8 ?_ | refine zq7 ?_ _)); refine blk_far ?_ NB488_489.out _; (with_reducible repeat (first | refine zq6 ?_ _ | refine zq8 ?_ | refine zq7 ?_ _)); exact BK488.out) hb); have n3_ := Az.mk (blk_below (g := gb489) (o := .cells #[.int .i64 a0_0, .slice none 0 0] 57 (0, 0)) (by (with_reducible repeat (first | refine zq6 ?_ _ | refine zq8 ?_ | refine zq7 ?_ _)); refine blk_put (cs := #[.int .i64 0, .slice none 0 0]) ?_ 0 _ rfl; (with_reducible repeat (first | refine zq6 ?_ _ | refine zq8 ?_ | refine zq7 ?_ _)); exact BK489.out) hb); have n4_ := Az.mk (below_step (by repeat (first | (with_reducible first | exact HB.out | apply zq2 | apply zq1 | apply zqd | refine zq3 ?_ GE487.out | refine zq3 ?_ GE488.out | refine zq3 ?_ GE489.out) | exact HB.out)) hb); clear BK487; clear BK488; clear BK489; clear HB; have HO492 := n0_; have BK487 := n1_; have BK488 := n2_; have BK489 := n3_; have HB := n4_; clear n0_ n1_ n2_ n3_ n4_; (try clear hb); (try clear hb2); (try clear hk); (try clear hi); (try clear ho0); obtain ⟨Ao12, co12, eo12⟩ := Kd.R_slice HO492.out; subst eo12; have hcz13_0 : w11.cell? ⟨gb489, 0, none⟩ = some (.int .i64 a0_0) := (zq4 BK489.out 0).trans rfl; have hcz13_1 : w11.cell? ⟨gb489, 1, none⟩ = some (.slice none 0 0) := (zq4 BK489.out 1).trans rfl; have hfz13_0 := zq5 BK489.out 0; have hfz13_1 := zq5 BK489.out 1; have hcz14_0 : w11.cell? ⟨gb488, 0, none⟩ = some (.int .i64 0) := (zq4 BK488.out 0).trans rfl; have hcz14_1 : w11.cell? ⟨gb488, 1, none⟩ = some (.slice none 0 0) := (zq4 BK488.out 1).trans rfl; have hfz14_0 := zq5 BK488.out 0; have hfz14_1 := zq5 BK488.out 1))
 refine bodyPost_ret (results_cell_row rfl _ _ gb488 57 #[.int .i64 a0_0, .slice Ao12 t490.length co12] (0, 0) _ rfl (by (with_reducible repeat (first | refine zq6 ?_ _ | refine zq8 ?_ | refine zq7 ?_ _)); refine blk_put (cs := #[.int .i64 a0_0, .slice none 0 0]) ?_ 1 _ rfl; (with_reducible repeat (first | refine zq6 ?_ _ | refine zq8 ?_ | refine zq7 ?_ _)); refine blk_put (cs := #[.int .i64 0, .slice none 0 0]) ?_ 0 _ rfl; (with_reducible repeat (first | refine zq6 ?_ _ | refine zq8 ?_ | refine zq7 ?_ _)); refine blk_far ?_ NB488_489.out _; (with_reducible repeat (first | refine zq6 ?_ _ | refine zq8 ?_ | refine zq7 ?_ _)); exact BK488.out) Try.underlying57 rfl (by kernel_rfl)) rfl ?_
 exact ⟨_, by first | rfl | (simp [errW_none, errW_some] <;> rfl) | (simp [*, errW_none, errW_some] <;> rfl), by (with_reducible repeat (first | apply Kd.R_alloc | apply Kd.R_drewN | apply Kd.R_drew)); exact Kd.R_mono (Kd.R_far (p := ⟨gb488, 1, none⟩) (Kd.R_far (p := ⟨gb488, 0, none⟩) (Kd.R_far (p := ⟨gb489, 1, none⟩) (Kd.R_types (Kd.R_types HO492.out BK489.out (by decide)) BK488.out (by decide)) (fun _ hk => hk.1.2) (.slice Ao12 t490.length co12)) (fun _ hk => hk.2) (.int .i64 a0_0)) (fun _ hk => hk.2) (.slice Ao12 t490.length co12)) (fun _ hk => trivial), by repeat (first | (with_reducible first | exact HB.out | apply zq2 | apply zq1 | apply zqd | refine zq3 ?_ GE487.out | refine zq3 ?_ GE488.out | refine zq3 ?_ GE489.out) | exact HB.out)⟩
end Go.Proofs.Ytkoimmeghdbodaa.Print
namespace Go.Proofs.Ytkoimmeghdbodaa.Print
open Go.RowKit Go.Proofs.YtkoimmeghdbodaaW.PrintWords Go.Proofs.YtkoimmeghdbodaaW.PrintLast Go.Proofs.YtkoimmeghdbodaaW.PrintMore
attribute [local go_sem] max2_int min2_int max_two min_two max_three min_three max_four min_four   -- for this text's walks alone
set_option linter.unusedVariables false
set_option linter.unusedSimpArgs false
def laws_szPtrS.l0 : Nat → List (S24) → Int → Int → Option (Int)
 | 0, _, _, _ => none
 | k + 1, x0, x1, x5 => if x5 < (x0.length : Int) then (if 0 ≤ x5 then ((laws_szPtr.f ((rd_T24 x0 x5).f0) ((rd_T24 x0 x5).f1) ((rd_T24 x0 x5).f2) x1).bind fun t417 => (if t417 < 0 then (some (-1)) else (laws_szPtrS.l0 k x0 t417 (wrap64 (x5 + 1))))) else (none)) else (some x1)
def laws_szPtrS.f (k : Nat) (l0 : List (S24)) (a1 : Int) : Option (Int) := if (wrap64 (a1 - (l0.length : Int))) < 0 then (some (-1)) else (laws_szPtrS.l0 k l0 (wrap64 (a1 - (l0.length : Int))) 0)
set_option maxHeartbeats 8000000 in
set_option maxRecDepth 100000 in
theorem laws_szPtrS.calls (k : Nat) (A0 : Option Addr) (c0 : Nat) (l0 : List (S24)) (a1 : Int) (r : Int) (w : World) (hr0 : Kd.C k24 w A0 l0.length l0) (hc0 : l0.length ≤ c0) (h : laws_szPtrS.f k l0 a1 = some r) :
  Calls Try.prog 120 #[.slice A0 l0.length c0, .int .i64 a1] w fun e w' => e = .returned (.int .i64 r) ∧ Below w.heap.size w w' := by
 have hu24 := Try.underlying24
 have HR0 := Az.mk hr0
 have HC0 := Az.mk hc0
 clear hr0 hc0
 have HB := Az.mk (Below.refl w.heap.size w)
 have H : (if (wrap64 (a1 - (l0.length : Int))) < 0 then (some (-1)) else (laws_szPtrS.l0 k l0 (wrap64 (a1 - (l0.length : Int))) 0)) = some r := h
 clear h
 by_cases c3 : (wrap64 (a1 - (l0.length : Int))) < 0
 ·rw [if_pos c3] at H
  have c3b0 : decide ((wrap64 (a1 - (l0.length : Int))) < 0) = true := decide_eq_true c3
  clear c3
  obtain rfl := Option.some.inj H
  go_enter Try.func120, Try.ntmps120
  go_wp2
  go_ret
  exact ⟨by first | rfl | (simp [errW_none, errW_some] <;> rfl) | (simp [*, errW_none, errW_some] <;> rfl), by repeat (first | (with_reducible first | exact HB.out | apply zq2 | apply zq1 | apply zqd) | exact HB.out)⟩
 ·rw [if_neg c3] at H
  have c3b0 : decide ((wrap64 (a1 - (l0.length : Int))) < 0) = false := decide_eq_false c3
  clear c3
  have H' := Az.mk H
  clear H
  go_enter Try.func120, Try.ntmps120
  go_wp2
  go_loopg [1, 5] k (fun kq v1 v5 w' => ∃ (x1_1 : Int) (x5_1 : Int), v1 = .int .i64 x1_1 ∧ v5 = .int .i64 x5_1 ∧ Az (laws_szPtrS.l0 kq l0 x1_1 x5_1 = some r) ∧ Az (kq ≤ k) ∧ Az (Below w.heap.size w w'))
  case atStart => exact ⟨(wrap64 (a1 - (l0.length : Int))), (0), (by first | rfl | (simp; done) | (simp [*]; done)), (by first | rfl | (simp; done) | (simp [*]; done)), H', ⟨Nat.le_refl _⟩, ⟨by repeat (first | (with_reducible first | exact HB.out | apply zq2 | apply zq1 | apply zqd) | exact HB.out)⟩⟩
  case round =>
   clear H'
   try clear c1
   try clear p2
   try clear c3
   try clear c3b0
   obtain ⟨x1_1, x5_1, rfl, rfl, HA, HK1, HB⟩ := hrel
   cases gk with
   | zero => exact absurd HA.out (by simp [laws_szPtrS.l0])
   | succ k1 =>
    have H := HA.out
    clear HA
    simp only [laws_szPtrS.l0] at H
    by_cases c4 : x5_1 < (l0.length : Int)
    ·rw [if_pos c4] at H
     have c4b0 : decide (x5_1 < (l0.length : Int)) = true := decide_eq_true c4
     clear c4
     by_cases c5 : 0 ≤ x5_1
     ·rw [if_pos c5] at H
      have c5b0 : decide (0 ≤ x5_1) = true := decide_eq_true c5
      clear c5
      replace H := Option.bind_eq_some_iff.mp H
      obtain ⟨t417, A60, H⟩ := H
      replace H : (if t417 < 0 then (some (-1)) else (laws_szPtrS.l0 k1 l0 t417 (wrap64 (x5_1 + 1)))) = some r := H
      have A6 := Az.mk A60
      clear A60
      by_cases c7 : t417 < 0
      ·rw [if_pos c7] at H
       have c7b0 : decide (t417 < 0) = true := decide_eq_true c7
       clear c7
       obtain rfl := Option.some.inj H
       have p416 : 0 ≤ (x5_1 : Int) := of_decide_eq_true (by first | (with_reducible assumption) | assumption)
       have q416 : x5_1 < (l0.length : Int) := of_decide_eq_true (by first | (with_reducible assumption) | assumption)
       obtain ⟨ad416, A416_2, c416_2, e416, hx416_0, hx416_1, hx416_2, hl416_2, hi416_2⟩ := at_T24 HR0.out x5_1 p416 q416
       cases e416
       replace hx416_0 := (HB.out.cell (World.block_lt_of_cell? w _ hx416_0)).trans hx416_0
       replace hx416_1 := (HB.out.cell (World.block_lt_of_cell? w _ hx416_1)).trans hx416_1
       replace hx416_2 := (HB.out.cell (World.block_lt_of_cell? w _ hx416_2)).trans hx416_2
       have HR416_2 := Az.mk hi416_2
       have HC416_2 := Az.mk hl416_2
       clear hi416_2 hl416_2
       replace p416 := eq_true p416
       replace q416 := eq_true q416
       go_wp2_with (first | ((with_reducible refine gate_callee (f := 17) rfl ?_); refine zq9 (some 23) rfl rfl Try.func17 (by kernel_rfl) rfl #[.agg #[.int .i64 ((rd_T24 l0 x5_1).f0), .int .i64 ((rd_T24 l0 x5_1).f1), .slice A416_2 ((rd_T24 l0 x5_1).f2).length c416_2], .int .i64 x1_1] rfl (by (try simp only [List.map_toArray, List.map_cons, List.map_nil]); first | done | rfl | (simp only [List.length_drop, List.length_take]; rfl)) ?_; (with_reducible refine (laws_szPtr.calls ((rd_T24 l0 x5_1).f0) ((rd_T24 l0 x5_1).f1) _ _ ((rd_T24 l0 x5_1).f2) x1_1 t417 _ ?side1 ?side2 A6.out).mono ?_); (case side1 => repeat (first | exact (Kd.C_below HR416_2.out HB.out) | (with_reducible refine Kd.C_alloc ?_ _) | (with_reducible refine Kd.C_drewN ?_ _) | (with_reducible refine Kd.C_drew ?_))); (case side2 => exact HC416_2.out); rintro e w8 ⟨rfl, hb⟩; refine ⟨_, rfl, ?_⟩; have n0_ := Az.mk (below_step (by repeat (first | (with_reducible first | exact HB.out | apply zq2 | apply zq1 | apply zqd) | exact HB.out)) hb); clear HB; have HB := n0_; clear n0_; (try clear hb); (try clear hb2); (try clear hk); (try clear hi)))
       go_ret
       exact ⟨by first | rfl | (simp [errW_none, errW_some] <;> rfl) | (simp [*, errW_none, errW_some] <;> rfl), by repeat (first | (with_reducible first | exact HB.out | apply zq2 | apply zq1 | apply zqd) | exact HB.out)⟩
      ·rw [if_neg c7] at H
       have c7b0 : decide (t417 < 0) = false := decide_eq_false c7
       clear c7
       have H' := Az.mk H
       clear H
       have p416 : 0 ≤ (x5_1 : Int) := of_decide_eq_true (by first | (with_reducible assumption) | assumption)
       have q416 : x5_1 < (l0.length : Int) := of_decide_eq_true (by first | (with_reducible assumption) | assumption)
       obtain ⟨ad416, A416_2, c416_2, e416, hx416_0, hx416_1, hx416_2, hl416_2, hi416_2⟩ := at_T24 HR0.out x5_1 p416 q416
       cases e416
       replace hx416_0 := (HB.out.cell (World.block_lt_of_cell? w _ hx416_0)).trans hx416_0
       replace hx416_1 := (HB.out.cell (World.block_lt_of_cell? w _ hx416_1)).trans hx416_1
       replace hx416_2 := (HB.out.cell (World.block_lt_of_cell? w _ hx416_2)).trans hx416_2
       have HR416_2 := Az.mk hi416_2
       have HC416_2 := Az.mk hl416_2
       clear hi416_2 hl416_2
       replace p416 := eq_true p416
       replace q416 := eq_true q416
       go_wp2_with (first | ((with_reducible refine gate_callee (f := 17) rfl ?_); refine zq9 (some 23) rfl rfl Try.func17 (by kernel_rfl) rfl #[.agg #[.int .i64 ((rd_T24 l0 x5_1).f0), .int .i64 ((rd_T24 l0 x5_1).f1), .slice A416_2 ((rd_T24 l0 x5_1).f2).length c416_2], .int .i64 x1_1] rfl (by (try simp only [List.map_toArray, List.map_cons, List.map_nil]); first | done | rfl | (simp only [List.length_drop, List.length_take]; rfl)) ?_; (with_reducible refine (laws_szPtr.calls ((rd_T24 l0 x5_1).f0) ((rd_T24 l0 x5_1).f1) _ _ ((rd_T24 l0 x5_1).f2) x1_1 t417 _ ?side1 ?side2 A6.out).mono ?_); (case side1 => repeat (first | exact (Kd.C_below HR416_2.out HB.out) | (with_reducible refine Kd.C_alloc ?_ _) | (with_reducible refine Kd.C_drewN ?_ _) | (with_reducible refine Kd.C_drew ?_))); (case side2 => exact HC416_2.out); rintro e w9 ⟨rfl, hb⟩; refine ⟨_, rfl, ?_⟩; have n0_ := Az.mk (below_step (by repeat (first | (with_reducible first | exact HB.out | apply zq2 | apply zq1 | apply zqd) | exact HB.out)) hb); clear HB; have HB := n0_; clear n0_; (try clear hb); (try clear hb2); (try clear hk); (try clear hi)))
       go_roundg k1
       case measure => have := HK1.out; omega
       case rel => exact ⟨(t417), (wrap64 (x5_1 + 1)), (by first | rfl | (simp; done) | (simp [*]; done)), (by first | rfl | (simp; done) | (simp [*]; done)), H', ⟨by have := HK1.out; omega⟩, ⟨by repeat (first | (with_reducible first | exact HB.out | apply zq2 | apply zq1 | apply zqd) | exact HB.out)⟩⟩
     ·rw [if_neg c5] at H
      exact absurd H (by simp)
    ·rw [if_neg c4] at H
     have c4b0 : decide (x5_1 < (l0.length : Int)) = false := decide_eq_false c4
     clear c4
     obtain rfl := Option.some.inj H
     go_wp2
     go_ret
     exact ⟨by first | rfl | (simp [errW_none, errW_some] <;> rfl) | (simp [*, errW_none, errW_some] <;> rfl), by repeat (first | (with_reducible first | exact HB.out | apply zq2 | apply zq1 | apply zqd) | exact HB.out)⟩
def laws_szVol.f (k : Nat) (a0_0 : ByteArray) (l0_1 : List (S24)) (a1 : Int) : Option (Int) := if (wrap64 (a1 - (a0_0.size : Int))) < 0 then (some (-1)) else ((laws_szPtrS.f k l0_1 (wrap64 (a1 - (a0_0.size : Int)))).bind fun t419 => (if t419 < 0 then (some (-1)) else (some t419)))
set_option maxHeartbeats 8000000 in
set_option maxRecDepth 100000 in
theorem laws_szVol.calls (k : Nat) (a0_0 : ByteArray) (A0_1 : Option Addr) (c0_1 : Nat) (l0_1 : List (S24)) (a1 : Int) (r : Int) (w : World) (hr0_1 : Kd.C k24 w A0_1 l0_1.length l0_1) (hc0_1 : l0_1.length ≤ c0_1) (h : laws_szVol.f k a0_0 l0_1 a1 = some r) :
  Calls Try.prog 97 #[.agg #[.string a0_0, .slice A0_1 l0_1.length c0_1], .int .i64 a1] w fun e w' => e = .returned (.int .i64 r) ∧ Below w.heap.size w w' := by
 have hu120 := Try.underlying120
 have HR0_1 := Az.mk hr0_1
 have HC0_1 := Az.mk hc0_1
 clear hr0_1 hc0_1
 have HB := Az.mk (Below.refl w.heap.size w)
 have H : (if (wrap64 (a1 - (a0_0.size : Int))) < 0 then (some (-1)) else ((laws_szPtrS.f k l0_1 (wrap64 (a1 - (a0_0.size : Int)))).bind fun t419 => (if t419 < 0 then (some (-1)) else (some t419)))) = some r := h
 clear h
 by_cases c3 : (wrap64 (a1 - (a0_0.size : Int))) < 0
 ·rw [if_pos c3] at H
  have c3b0 : decide ((wrap64 (a1 - (a0_0.size : Int))) < 0) = true := decide_eq_true c3
  clear c3
  obtain rfl := Option.some.inj H
  go_enter Try.func97, Try.ntmps97
  go_wp2_with (first | ((with_reducible refine zqg (N := 2) rfl ?_); refine zqb ?hg (N := 2) ?hd (cs := #[.string a0_0, .slice A0_1 l0_1.length c0_1]) (t := 120) ?hr ?_; (case hd => rfl); (case hg => rfl); (case hr => first | (go_simp; done) | (go_simp; rfl)); intro gb418 hg w4 hbox hb; have n0_ := Az.mk (below_step (by repeat (first | (with_reducible first | exact HB.out | apply zq2 | apply zq1 | apply zqd) | exact HB.out)) hb); have n1_ := Az.mk (hbox); have n2_ := Az.mk ((by rw [hg]; exact (below_size (by repeat (first | (with_reducible first | exact HB.out | apply zq2 | apply zq1 | apply zqd) | exact HB.out))) : w.heap.size ≤ gb418)); have n3_ := Az.mk ((by rw [hg]; exact (below_size (by repeat (first | (with_reducible first | exact HB.out | apply zq2 | apply zq1 | apply zqd) | exact HB.out))) : w.heap.size ≤ gb418)); clear HB; have HB := n0_; have BK418 := n1_; have GW418 := n2_; have GE418 := n3_; clear n0_ n1_ n2_ n3_; clear hb hbox hg; have hcz5_0 : w4.cell? ⟨gb418, 0, none⟩ = some (.string a0_0) := (zq4 BK418.out 0).trans rfl; have hcz5_1 : w4.cell? ⟨gb418, 1, none⟩ = some (.slice A0_1 l0_1.length c0_1) := (zq4 BK418.out 1).trans rfl; have hfz5_0 := zq5 BK418.out 0; have hfz5_1 := zq5 BK418.out 1))
  go_ret
  exact ⟨by first | rfl | (simp [errW_none, errW_some] <;> rfl) | (simp [*, errW_none, errW_some] <;> rfl), by repeat (first | (with_reducible first | exact HB.out | apply zq2 | apply zq1 | apply zqd | refine zq3 ?_ GE418.out) | exact HB.out)⟩
 ·rw [if_neg c3] at H
  have c3b0 : decide ((wrap64 (a1 - (a0_0.size : Int))) < 0) = false := decide_eq_false c3
  clear c3
  replace H := Option.bind_eq_some_iff.mp H
  obtain ⟨t419, A60, H⟩ := H
  replace H : (if t419 < 0 then (some (-1)) else (some t419)) = some r := H
  have A6 := Az.mk A60
  clear A60
  by_cases c7 : t419 < 0
  ·rw [if_pos c7] at H
   have c7b0 : decide (t419 < 0) = true := decide_eq_true c7
   clear c7
   obtain rfl := Option.some.inj H
   go_enter Try.func97, Try.ntmps97
   go_wp2_with (first | ((with_reducible refine zqg (N := 2) rfl ?_); refine zqb ?hg (N := 2) ?hd (cs := #[.string a0_0, .slice A0_1 l0_1.length c0_1]) (t := 120) ?hr ?_; (case hd => rfl); (case hg => rfl); (case hr => first | (go_simp; done) | (go_simp; rfl)); intro gb418 hg w8 hbox hb; have n0_ := Az.mk (below_step (by repeat (first | (with_reducible first | exact HB.out | apply zq2 | apply zq1 | apply zqd) | exact HB.out)) hb); have n1_ := Az.mk (hbox); have n2_ := Az.mk ((by rw [hg]; exact (below_size (by repeat (first | (with_reducible first | exact HB.out | apply zq2 | apply zq1 | apply zqd) | exact HB.out))) : w.heap.size ≤ gb418)); have n3_ := Az.mk ((by rw [hg]; exact (below_size (by repeat (first | (with_reducible first | exact HB.out | apply zq2 | apply zq1 | apply zqd) | exact HB.out))) : w.heap.size ≤ gb418)); clear HB; have HB := n0_; have BK418 := n1_; have GW418 := n2_; have GE418 := n3_; clear n0_ n1_ n2_ n3_; clear hb hbox hg; have hcz9_0 : w8.cell? ⟨gb418, 0, none⟩ = some (.string a0_0) := (zq4 BK418.out 0).trans rfl; have hcz9_1 : w8.cell? ⟨gb418, 1, none⟩ = some (.slice A0_1 l0_1.length c0_1) := (zq4 BK418.out 1).trans rfl; have hfz9_0 := zq5 BK418.out 0; have hfz9_1 := zq5 BK418.out 1) | ((with_reducible refine gate_callee (f := 120) rfl ?_); refine zq9 (some 15) rfl rfl Try.func120 (by kernel_rfl) rfl #[.slice A0_1 l0_1.length c0_1, .int .i64 (wrap64 (a1 - (a0_0.size : Int)))] rfl (by (try simp only [List.map_toArray, List.map_cons, List.map_nil]); first | done | rfl | (simp only [List.length_drop, List.length_take]; rfl)) ?_; (with_reducible refine (laws_szPtrS.calls k _ _ l0_1 (wrap64 (a1 - (a0_0.size : Int))) t419 _ ?side1 ?side2 A6.out).mono ?_); (case side1 => repeat (first | exact (Kd.C_below HR0_1.out HB.out) | (with_reducible refine Kd.C_alloc ?_ _) | (with_reducible refine Kd.C_drewN ?_ _) | (with_reducible refine Kd.C_drew ?_))); (case side2 => exact HC0_1.out); rintro e w10 ⟨rfl, hb⟩; refine ⟨_, rfl, ?_⟩; have n0_ := Az.mk (blk_below (g := gb418) (o := .cells #[.string a0_0, .slice A0_1 l0_1.length c0_1] 120 (0, 0)) (by (with_reducible repeat (first | refine zq6 ?_ _ | refine zq8 ?_ | refine zq7 ?_ _)); exact BK418.out) hb); have n1_ := Az.mk (below_step (by repeat (first | (with_reducible first | exact HB.out | apply zq2 | apply zq1 | apply zqd | refine zq3 ?_ GE418.out) | exact HB.out)) hb); clear BK418; clear HB; have BK418 := n0_; have HB := n1_; clear n0_ n1_; (try clear hb); (try clear hb2); (try clear hk); (try clear hi)))
   go_ret
   exact ⟨by first | rfl | (simp [errW_none, errW_some] <;> rfl) | (simp [*, errW_none, errW_some] <;> rfl), by repeat (first | (with_reducible first | exact HB.out | apply zq2 | apply zq1 | apply zqd | refine zq3 ?_ GE418.out) | exact HB.out)⟩
  ·rw [if_neg c7] at H
   have c7b0 : decide (t419 < 0) = false := decide_eq_false c7
   clear c7
   obtain rfl := Option.some.inj H
   go_enter Try.func97, Try.ntmps97
   go_wp2_with (first | ((with_reducible refine zqg (N := 2) rfl ?_); refine zqb ?hg (N := 2) ?hd (cs := #[.string a0_0, .slice A0_1 l0_1.length c0_1]) (t := 120) ?hr ?_; (case hd => rfl); (case hg => rfl); (case hr => first | (go_simp; done) | (go_simp; rfl)); intro gb418 hg w11 hbox hb; have n0_ := Az.mk (below_step (by repeat (first | (with_reducible first | exact HB.out | apply zq2 | apply zq1 | apply zqd) | exact HB.out)) hb); have n1_ := Az.mk (hbox); have n2_ := Az.mk ((by rw [hg]; exact (below_size (by repeat (first | (with_reducible first | exact HB.out | apply zq2 | apply zq1 | apply zqd) | exact HB.out))) : w.heap.size ≤ gb418)); have n3_ := Az.mk ((by rw [hg]; exact (below_size (by repeat (first | (with_reducible first | exact HB.out | apply zq2 | apply zq1 | apply zqd) | exact HB.out))) : w.heap.size ≤ gb418)); clear HB; have HB := n0_; have BK418 := n1_; have GW418 := n2_; have GE418 := n3_; clear n0_ n1_ n2_ n3_; clear hb hbox hg; have hcz12_0 : w11.cell? ⟨gb418, 0, none⟩ = some (.string a0_0) := (zq4 BK418.out 0).trans rfl; have hcz12_1 : w11.cell? ⟨gb418, 1, none⟩ = some (.slice A0_1 l0_1.length c0_1) := (zq4 BK418.out 1).trans rfl; have hfz12_0 := zq5 BK418.out 0; have hfz12_1 := zq5 BK418.out 1) | ((with_reducible refine gate_callee (f := 120) rfl ?_); refine zq9 (some 15) rfl rfl Try.func120 (by kernel_rfl) rfl #[.slice A0_1 l0_1.length c0_1, .int .i64 (wrap64 (a1 - (a0_0.size : Int)))] rfl (by (try simp only [List.map_toArray, List.map_cons, List.map_nil]); first | done | rfl | (simp only [List.length_drop, List.length_take]; rfl)) ?_; (with_reducible refine (laws_szPtrS.calls k _ _ l0_1 (wrap64 (a1 - (a0_0.size : Int))) t419 _ ?side1 ?side2 A6.out).mono ?_); (case side1 => repeat (first | exact (Kd.C_below HR0_1.out HB.out) | (with_reducible refine Kd.C_alloc ?_ _) | (with_reducible refine Kd.C_drewN ?_ _) | (with_reducible refine Kd.C_drew ?_))); (case side2 => exact HC0_1.out); rintro e w13 ⟨rfl, hb⟩; refine ⟨_, rfl, ?_⟩; have n0_ := Az.mk (blk_below (g := gb418) (o := .cells #[.string a0_0, .slice A0_1 l0_1.length c0_1] 120 (0, 0)) (by (with_reducible repeat (first | refine zq6 ?_ _ | refine zq8 ?_ | refine zq7 ?_ _)); exact BK418.out) hb); have n1_ := Az.mk (below_step (by repeat (first | (with_reducible first | exact HB.out | apply zq2 | apply zq1 | apply zqd | refine zq3 ?_ GE418.out) | exact HB.out)) hb); clear BK418; clear HB; have BK418 := n0_; have HB := n1_; clear n0_ n1_; (try clear hb); (try clear hb2); (try clear hk); (try clear hi)))
   go_ret
   exact ⟨by first | rfl | (simp [errW_none, errW_some] <;> rfl) | (simp [*, errW_none, errW_some] <;> rfl), by repeat (first | (with_reducible first | exact HB.out | apply zq2 | apply zq1 | apply zqd | refine zq3 ?_ GE418.out) | exact HB.out)⟩
end Go.Proofs.Ytkoimmeghdbodaa.Print
namespace Go.Proofs.Ytkoimmeghdbodaa.Print
open Go.RowKit Go.Proofs.YtkoimmeghdbodaaW.PrintWords Go.Proofs.YtkoimmeghdbodaaW.PrintLast Go.Proofs.YtkoimmeghdbodaaW.PrintMore
attribute [local go_sem] max2_int min2_int max_two min_two max_three min_three max_four min_four   -- for this text's walks alone
set_option linter.unusedVariables false
set_option linter.unusedSimpArgs false
def laws_szVolS.l0 : Nat → List (S120) → Int → Int → Option (Int)
 | 0, _, _, _ => none
 | k + 1, x0, x1, x5 => if x5 < (x0.length : Int) then (if 0 ≤ x5 then ((laws_szVol.f k ((rd_T120 x0 x5).f0) ((rd_T120 x0 x5).f1) x1).bind fun t421 => (if t421 < 0 then (some (-1)) else (laws_szVolS.l0 k x0 t421 (wrap64 (x5 + 1))))) else (none)) else (some x1)
def laws_szVolS.f (k : Nat) (l0 : List (S120)) (a1 : Int) : Option (Int) := if (wrap64 (a1 - (l0.length : Int))) < 0 then (some (-1)) else (laws_szVolS.l0 k l0 (wrap64 (a1 - (l0.length : Int))) 0)
set_option maxHeartbeats 8000000 in
set_option maxRecDepth 100000 in
theorem laws_szVolS.calls (k : Nat) (A0 : Option Addr) (c0 : Nat) (l0 : List (S120)) (a1 : Int) (r : Int) (w : World) (hr0 : Kd.C k120 w A0 l0.length l0) (hc0 : l0.length ≤ c0) (h : laws_szVolS.f k l0 a1 = some r) :
  Calls Try.prog 74 #[.slice A0 l0.length c0, .int .i64 a1] w fun e w' => e = .returned (.int .i64 r) ∧ Below w.heap.size w w' := by
 have hu120 := Try.underlying120
 have HR0 := Az.mk hr0
 have HC0 := Az.mk hc0
 clear hr0 hc0
 have HB := Az.mk (Below.refl w.heap.size w)
 have H : (if (wrap64 (a1 - (l0.length : Int))) < 0 then (some (-1)) else (laws_szVolS.l0 k l0 (wrap64 (a1 - (l0.length : Int))) 0)) = some r := h
 clear h
 by_cases c3 : (wrap64 (a1 - (l0.length : Int))) < 0
 ·rw [if_pos c3] at H
  have c3b0 : decide ((wrap64 (a1 - (l0.length : Int))) < 0) = true := decide_eq_true c3
  clear c3
  obtain rfl := Option.some.inj H
  go_enter Try.func74, Try.ntmps74
  go_wp2
  go_ret
  exact ⟨by first | rfl | (simp [errW_none, errW_some] <;> rfl) | (simp [*, errW_none, errW_some] <;> rfl), by repeat (first | (with_reducible first | exact HB.out | apply zq2 | apply zq1 | apply zqd) | exact HB.out)⟩
 ·rw [if_neg c3] at H
  have c3b0 : decide ((wrap64 (a1 - (l0.length : Int))) < 0) = false := decide_eq_false c3
  clear c3
  have H' := Az.mk H
  clear H
  go_enter Try.func74, Try.ntmps74
  go_wp2
  go_loopg [1, 5] k (fun kq v1 v5 w' => ∃ (x1_1 : Int) (x5_1 : Int), v1 = .int .i64 x1_1 ∧ v5 = .int .i64 x5_1 ∧ Az (laws_szVolS.l0 kq l0 x1_1 x5_1 = some r) ∧ Az (kq ≤ k) ∧ Az (Below w.heap.size w w'))
  case atStart => exact ⟨(wrap64 (a1 - (l0.length : Int))), (0), (by first | rfl | (simp; done) | (simp [*]; done)), (by first | rfl | (simp; done) | (simp [*]; done)), H', ⟨Nat.le_refl _⟩, ⟨by repeat (first | (with_reducible first | exact HB.out | apply zq2 | apply zq1 | apply zqd) | exact HB.out)⟩⟩
  case round =>
   clear H'
   try clear p2
   try clear c3
   try clear c3b0
   obtain ⟨x1_1, x5_1, rfl, rfl, HA, HK1, HB⟩ := hrel
   cases gk with
   | zero => exact absurd HA.out (by simp [laws_szVolS.l0])
   | succ k1 =>
    have H := HA.out
    clear HA
    simp only [laws_szVolS.l0] at H
    by_cases c4 : x5_1 < (l0.length : Int)
    ·rw [if_pos c4] at H
     have c4b0 : decide (x5_1 < (l0.length : Int)) = true := decide_eq_true c4
     clear c4
     by_cases c5 : 0 ≤ x5_1
     ·rw [if_pos c5] at H
      have c5b0 : decide (0 ≤ x5_1) = true := decide_eq_true c5
      clear c5
      replace H := Option.bind_eq_some_iff.mp H
      obtain ⟨t421, A60, H⟩ := H
      replace H : (if t421 < 0 then (some (-1)) else (laws_szVolS.l0 k1 l0 t421 (wrap64 (x5_1 + 1)))) = some r := H
      have A6 := Az.mk A60
      clear A60
      by_cases c7 : t421 < 0
      ·rw [if_pos c7] at H
       have c7b0 : decide (t421 < 0) = true := decide_eq_true c7
       clear c7
       obtain rfl := Option.some.inj H
       have p420 : 0 ≤ (x5_1 : Int) := of_decide_eq_true (by first | (with_reducible assumption) | assumption)
       have q420 : x5_1 < (l0.length : Int) := of_decide_eq_true (by first | (with_reducible assumption) | assumption)
       obtain ⟨ad420, A420_1, c420_1, e420, hx420_0, hx420_1, hl420_1, hi420_1⟩ := at_T120 HR0.out x5_1 p420 q420
       cases e420
       replace hx420_0 := (HB.out.cell (World.block_lt_of_cell? w _ hx420_0)).trans hx420_0
       replace hx420_1 := (HB.out.cell (World.block_lt_of_cell? w _ hx420_1)).trans hx420_1
       have HR420_1 := Az.mk hi420_1
       have HC420_1 := Az.mk hl420_1
       clear hi420_1 hl420_1
       replace p420 := eq_true p420
       replace q420 := eq_true q420
       go_wp2_with (first | ((with_reducible refine gate_callee (f := 97) rfl ?_); refine zq9 (some 23) rfl rfl Try.func97 (by kernel_rfl) rfl #[.agg #[.string ((rd_T120 l0 x5_1).f0), .slice A420_1 ((rd_T120 l0 x5_1).f1).length c420_1], .int .i64 x1_1] rfl (by (try simp only [List.map_toArray, List.map_cons, List.map_nil]); first | done | rfl | (simp only [List.length_drop, List.length_take]; rfl)) ?_; (with_reducible refine (laws_szVol.calls k1 ((rd_T120 l0 x5_1).f0) _ _ ((rd_T120 l0 x5_1).f1) x1_1 t421 _ ?side1 ?side2 A6.out).mono ?_); (case side1 => repeat (first | exact (Kd.C_below HR420_1.out HB.out) | (with_reducible refine Kd.C_alloc ?_ _) | (with_reducible refine Kd.C_drewN ?_ _) | (with_reducible refine Kd.C_drew ?_))); (case side2 => exact HC420_1.out); rintro e w8 ⟨rfl, hb⟩; refine ⟨_, rfl, ?_⟩; have n0_ := Az.mk (below_step (by repeat (first | (with_reducible first | exact HB.out | apply zq2 | apply zq1 | apply zqd) | exact HB.out)) hb); clear HB; have HB := n0_; clear n0_; (try clear hb); (try clear hb2); (try clear hk); (try clear hi)))
       go_ret
       exact ⟨by first | rfl | (simp [errW_none, errW_some] <;> rfl) | (simp [*, errW_none, errW_some] <;> rfl), by repeat (first | (with_reducible first | exact HB.out | apply zq2 | apply zq1 | apply zqd) | exact HB.out)⟩
      ·rw [if_neg c7] at H
       have c7b0 : decide (t421 < 0) = false := decide_eq_false c7
       clear c7
       have H' := Az.mk H
       clear H
       have p420 : 0 ≤ (x5_1 : Int) := of_decide_eq_true (by first | (with_reducible assumption) | assumption)
       have q420 : x5_1 < (l0.length : Int) := of_decide_eq_true (by first | (with_reducible assumption) | assumption)
       obtain ⟨ad420, A420_1, c420_1, e420, hx420_0, hx420_1, hl420_1, hi420_1⟩ := at_T120 HR0.out x5_1 p420 q420
       cases e420
       replace hx420_0 := (HB.out.cell (World.block_lt_of_cell? w _ hx420_0)).trans hx420_0
       replace hx420_1 := (HB.out.cell (World.block_lt_of_cell? w _ hx420_1)).trans hx420_1
       have HR420_1 := Az.mk hi420_1
       have HC420_1 := Az.mk hl420_1
       clear hi420_1 hl420_1
       replace p420 := eq_true p420
       replace q420 := eq_true q420
       go_wp2_with (first | ((with_reducible refine gate_callee (f := 97) rfl ?_); refine zq9 (some 23) rfl rfl Try.func97 (by kernel_rfl) rfl #[.agg #[.string ((rd_T120 l0 x5_1).f0), .slice A420_1 ((rd_T120 l0 x5_1).f1).length c420_1], .int .i64 x1_1] rfl (by (try simp only [List.map_toArray, List.map_cons, List.map_nil]); first | done | rfl | (simp only [List.length_drop, List.length_take]; rfl)) ?_; (with_reducible refine (laws_szVol.calls k1 ((rd_T120 l0 x5_1).f0) _ _ ((rd_T120 l0 x5_1).f1) x1_1 t421 _ ?side1 ?side2 A6.out).mono ?_); (case side1 => repeat (first | exact (Kd.C_below HR420_1.out HB.out) | (with_reducible refine Kd.C_alloc ?_ _) | (with_reducible refine Kd.C_drewN ?_ _) | (with_reducible refine Kd.C_drew ?_))); (case side2 => exact HC420_1.out); rintro e w9 ⟨rfl, hb⟩; refine ⟨_, rfl, ?_⟩; have n0_ := Az.mk (below_step (by repeat (first | (with_reducible first | exact HB.out | apply zq2 | apply zq1 | apply zqd) | exact HB.out)) hb); clear HB; have HB := n0_; clear n0_; (try clear hb); (try clear hb2); (try clear hk); (try clear hi)))
       go_roundg k1
       case measure => have := HK1.out; omega
       case rel => exact ⟨(t421), (wrap64 (x5_1 + 1)), (by first | rfl | (simp; done) | (simp [*]; done)), (by first | rfl | (simp; done) | (simp [*]; done)), H', ⟨by have := HK1.out; omega⟩, ⟨by repeat (first | (with_reducible first | exact HB.out | apply zq2 | apply zq1 | apply zqd) | exact HB.out)⟩⟩
     ·rw [if_neg c5] at H
      exact absurd H (by simp)
    ·rw [if_neg c4] at H
     have c4b0 : decide (x5_1 < (l0.length : Int)) = false := decide_eq_false c4
     clear c4
     obtain rfl := Option.some.inj H
     go_wp2
     go_ret
     exact ⟨by first | rfl | (simp [errW_none, errW_some] <;> rfl) | (simp [*, errW_none, errW_some] <;> rfl), by repeat (first | (with_reducible first | exact HB.out | apply zq2 | apply zq1 | apply zqd) | exact HB.out)⟩
def laws_szRoot.f (k : Nat) (a0_0 : Int) (l0_1 : List (S120)) (a1 : Int) : Option (Int) := (laws_szVolS.f k l0_1 a1).bind fun t423 => (if t423 < 0 then (some (-1)) else (some t423))
set_option maxHeartbeats 8000000 in
set_option maxRecDepth 100000 in
theorem laws_szRoot.calls (k : Nat) (a0_0 : Int) (A0_1 : Option Addr) (c0_1 : Nat) (l0_1 : List (S120)) (a1 : Int) (r : Int) (w : World) (hr0_1 : Kd.C k120 w A0_1 l0_1.length l0_1) (hc0_1 : l0_1.length ≤ c0_1) (h : laws_szRoot.f k a0_0 l0_1 a1 = some r) :
  Calls Try.prog 35 #[.agg #[.int .i64 a0_0, .slice A0_1 l0_1.length c0_1], .int .i64 a1] w fun e w' => e = .returned (.int .i64 r) ∧ Below w.heap.size w w' := by
 have hu52 := Try.underlying52
 have HR0_1 := Az.mk hr0_1
 have HC0_1 := Az.mk hc0_1
 clear hr0_1 hc0_1
 have HB := Az.mk (Below.refl w.heap.size w)
 have H : ((laws_szVolS.f k l0_1 a1).bind fun t423 => (if t423 < 0 then (some (-1)) else (some t423))) = some r := h
 clear h
 replace H := Option.bind_eq_some_iff.mp H
 obtain ⟨t423, A30, H⟩ := H
 replace H : (if t423 < 0 then (some (-1)) else (some t423)) = some r := H
 have A3 := Az.mk A30
 clear A30
 by_cases c4 : t423 < 0
 ·rw [if_pos c4] at H
  have c4b0 : decide (t423 < 0) = true := decide_eq_true c4
  clear c4
  obtain rfl := Option.some.inj H
  go_enter Try.func35, Try.ntmps35
  go_wp2_with (first | ((with_reducible refine zqg (N := 2) rfl ?_); refine zqb ?hg (N := 2) ?hd (cs := #[.int .i64 a0_0, .slice A0_1 l0_1.length c0_1]) (t := 52) ?hr ?_; (case hd => rfl); (case hg => rfl); (case hr => first | (go_simp; done) | (go_simp; rfl)); intro gb422 hg w5 hbox hb; have n0_ := Az.mk (below_step (by repeat (first | (with_reducible first | exact HB.out | apply zq2 | apply zq1 | apply zqd) | exact HB.out)) hb); have n1_ := Az.mk (hbox); have n2_ := Az.mk ((by rw [hg]; exact (below_size (by repeat (first | (with_reducible first | exact HB.out | apply zq2 | apply zq1 | apply zqd) | exact HB.out))) : w.heap.size ≤ gb422)); have n3_ := Az.mk ((by rw [hg]; exact (below_size (by repeat (first | (with_reducible first | exact HB.out | apply zq2 | apply zq1 | apply zqd) | exact HB.out))) : w.heap.size ≤ gb422)); clear HB; have HB := n0_; have BK422 := n1_; have GW422 := n2_; have GE422 := n3_; clear n0_ n1_ n2_ n3_; clear hb hbox hg; have hcz6_0 : w5.cell? ⟨gb422, 0, none⟩ = some (.int .i64 a0_0) := (zq4 BK422.out 0).trans rfl; have hcz6_1 : w5.cell? ⟨gb422, 1, none⟩ = some (.slice A0_1 l0_1.length c0_1) := (zq4 BK422.out 1).trans rfl; have hfz6_0 := zq5 BK422.out 0; have hfz6_1 := zq5 BK422.out 1) | ((with_reducible refine gate_callee (f := 74) rfl ?_); refine zq9 (some 8) rfl rfl Try.func74 (by kernel_rfl) rfl #[.slice A0_1 l0_1.length c0_1, .int .i64 a1] rfl (by (try simp only [List.map_toArray, List.map_cons, List.map_nil]); first | done | rfl | (simp only [List.length_drop, List.length_take]; rfl)) ?_; (with_reducible refine (laws_szVolS.calls k _ _ l0_1 a1 t423 _ ?side1 ?side2 A3.out).mono ?_); (case side1 => repeat (first | exact (Kd.C_below HR0_1.out HB.out) | (with_reducible refine Kd.C_alloc ?_ _) | (with_reducible refine Kd.C_drewN ?_ _) | (with_reducible refine Kd.C_drew ?_))); (case side2 => exact HC0_1.out); rintro e w7 ⟨rfl, hb⟩; refine ⟨_, rfl, ?_⟩; have n0_ := Az.mk (blk_below (g := gb422) (o := .cells #[.int .i64 a0_0, .slice A0_1 l0_1.length c0_1] 52 (0, 0)) (by (with_reducible repeat (first | refine zq6 ?_ _ | refine zq8 ?_ | refine zq7 ?_ _)); exact BK422.out) hb); have n1_ := Az.mk (below_step (by repeat (first | (with_reducible first | exact HB.out | apply zq2 | apply zq1 | apply zqd | refine zq3 ?_ GE422.out) | exact HB.out)) hb); clear BK422; clear HB; have BK422 := n0_; have HB := n1_; clear n0_ n1_; (try clear hb); (try clear hb2); (try clear hk); (try clear hi)))
  go_ret
  exact ⟨by first | rfl | (simp [errW_none, errW_some] <;> rfl) | (simp [*, errW_none, errW_some] <;> rfl), by repeat (first | (with_reducible first | exact HB.out | apply zq2 | apply zq1 | apply zqd | refine zq3 ?_ GE422.out) | exact HB.out)⟩
 ·rw [if_neg c4] at H
  have c4b0 : decide (t423 < 0) = false := decide_eq_false c4
  clear c4
  obtain rfl := Option.some.inj H
  go_enter Try.func35, Try.ntmps35
  go_wp2_with (first | ((with_reducible refine zqg (N := 2) rfl ?_); refine zqb ?hg (N := 2) ?hd (cs := #[.int .i64 a0_0, .slice A0_1 l0_1.length c0_1]) (t := 52) ?hr ?_; (case hd => rfl); (case hg => rfl); (case hr => first | (go_simp; done) | (go_simp; rfl)); intro gb422 hg w8 hbox hb; have n0_ := Az.mk (below_step (by repeat (first | (with_reducible first | exact HB.out | apply zq2 | apply zq1 | apply zqd) | exact HB.out)) hb); have n1_ := Az.mk (hbox); have n2_ := Az.mk ((by rw [hg]; exact (below_size (by repeat (first | (with_reducible first | exact HB.out | apply zq2 | apply zq1 | apply zqd) | exact HB.out))) : w.heap.size ≤ gb422)); have n3_ := Az.mk ((by rw [hg]; exact (below_size (by repeat (first | (with_reducible first | exact HB.out | apply zq2 | apply zq1 | apply zqd) | exact HB.out))) : w.heap.size ≤ gb422)); clear HB; have HB := n0_; have BK422 := n1_; have GW422 := n2_; have GE422 := n3_; clear n0_ n1_ n2_ n3_; clear hb hbox hg; have hcz9_0 : w8.cell? ⟨gb422, 0, none⟩ = some (.int .i64 a0_0) := (zq4 BK422.out 0).trans rfl; have hcz9_1 : w8.cell? ⟨gb422, 1, none⟩ = some (.slice A0_1 l0_1.length c0_1) := (zq4 BK422.out 1).trans rfl; have hfz9_0 := zq5 BK422.out 0; have hfz9_1 := zq5 BK422.out 1) | ((with_reducible refine gate_callee (f := 74) rfl ?_); refine zq9 (some 8) rfl rfl Try.func74 (by kernel_rfl) rfl #[.slice A0_1 l0_1.length c0_1, .int .i64 a1] rfl (by (try simp only [List.map_toArray, List.map_cons, List.map_nil]); first | done | rfl | (simp only [List.length_drop, List.length_take]; rfl)) ?_; (with_reducible refine (laws_szVolS.calls k _ _ l0_1 a1 t423 _ ?side1 ?side2 A3.out).mono ?_); (case side1 => repeat (first | exact (Kd.C_below HR0_1.out HB.out) | (with_reducible refine Kd.C_alloc ?_ _) | (with_reducible refine Kd.C_drewN ?_ _) | (with_reducible refine Kd.C_drew ?_))); (case side2 => exact HC0_1.out); rintro e w10 ⟨rfl, hb⟩; refine ⟨_, rfl, ?_⟩; have n0_ := Az.mk (blk_below (g := gb422) (o := .cells #[.int .i64 a0_0, .slice A0_1 l0_1.length c0_1] 52 (0, 0)) (by (with_reducible repeat (first | refine zq6 ?_ _ | refine zq8 ?_ | refine zq7 ?_ _)); exact BK422.out) hb); have n1_ := Az.mk (below_step (by repeat (first | (with_reducible first | exact HB.out | apply zq2 | apply zq1 | apply zqd | refine zq3 ?_ GE422.out) | exact HB.out)) hb); clear BK422; clear HB; have BK422 := n0_; have HB := n1_; clear n0_ n1_; (try clear hb); (try clear hb2); (try clear hk); (try clear hi)))
  go_ret
  exact ⟨by first | rfl | (simp [errW_none, errW_some] <;> rfl) | (simp [*, errW_none, errW_some] <;> rfl), by repeat (first | (with_reducible first | exact HB.out | apply zq2 | apply zq1 | apply zqd | refine zq3 ?_ GE422.out) | exact HB.out)⟩
end Go.Proofs.Ytkoimmeghdbodaa.Print
namespace Go.Proofs.Ytkoimmeghdbodaa.Pure
open Go.RowKit Go.Proofs.Ytkoimmeghdbodaa.Print Go.Proofs.YtkoimmeghdbodaaW.PrintWords Go.Proofs.YtkoimmeghdbodaaW.PrintLast
set_option linter.unusedSimpArgs false
set_option linter.unusedVariables false
theorem rd24n (l : List S24) (k : Nat) : rd_T24 l (k : Int) = l.getD k z24 := by simp [rd_T24]
theorem rd120n (l : List S120) (k : Nat) : rd_T120 l (k : Int) = l.getD k z120 := by simp [rd_T120]
theorem rd29n (l : List S29) (k : Nat) : rd_T29 l (k : Int) = l.getD k z29 := by simp [rd_T29]
theorem getD_some {α : Type} {l : List α} {z : α} {i : Nat} (h : i < l.length) : l[i]? = some (l.getD i z) := by
  rw [List.getD, List.getElem?_eq_getElem h]; rfl
theorem szPlace_ev (l : List S94) (hl : l.length ≤ maxLen) (n : Int) (h0 : 0 ≤ n) (h1 : n ≤ 1048576) : ∃ t : Int, laws_szPlaceS.f l n = some t ∧ t ≤ n ∧ (¬ t < 0 → l.length ≤ 1048576) := by
  have hM : maxLen = 9223372036854775807 := by decide
  have e : wrap64 (n - (l.length : Int)) = n - (l.length : Int) := wrap_ok (by omega)
  unfold laws_szPlaceS.f
  rw [e]
  by_cases h : n - (l.length : Int) < 0
  · exact ⟨-1, by rw [if_pos h], by omega, by omega⟩
  · exact ⟨_, by rw [if_neg h], by omega, by omega⟩
theorem szPtr_ev (x : S24) (hl : x.f2.length ≤ maxLen) (n : Int) (h0 : 0 ≤ n) (h1 : n ≤ 1048576) : ∃ t : Int, laws_szPtr.f x.f0 x.f1 x.f2 n = some t ∧ t ≤ n ∧ (¬ t < 0 → x.f2.length ≤ 1048576) := by
  obtain ⟨t, ht, hle, hb⟩ := szPlace_ev x.f2 hl n h0 h1
  unfold laws_szPtr.f
  rw [ht, Option.bind_some]
  by_cases h : t < 0
  · exact ⟨-1, by rw [if_pos h], by omega, by omega⟩
  · exact ⟨t, by rw [if_neg h], hle, hb⟩
def Wl24 (x : S24) : Prop := x.f2.length ≤ maxLen
def Fit24 (x : S24) : Prop := x.f2.length ≤ 1048576
theorem szPtrS_l0 (l : List S24) (hl : l.length ≤ 1048576) (hs : ∀ x ∈ l, Wl24 x) (d : Nat) : ∀ (i : Nat) (n : Int), i + d = l.length → 0 ≤ n → n ≤ 1048576 →
    ∃ t : Int, Ev (fun k => laws_szPtrS.l0 k l n (i : Int)) t ∧ t ≤ n ∧ (¬ t < 0 → ∀ j : Nat, i ≤ j → j < l.length → Fit24 (l.getD j z24)) := by
  induction d with
  | zero =>
    intro i n hi _ _
    refine ⟨n, Ev.next ?_, Int.le_refl _, fun _ j h1 h2 => by omega⟩
    simp only [laws_szPtrS.l0]
    exact Ev.neg (by omega) (Ev.ret rfl)
  | succ d ih =>
    intro i n hi h0 h1
    have e : wrap64 ((i : Int) + 1) = ((i + 1 : Nat) : Int) := by rw [wrap_ok (by omega)]; omega
    obtain ⟨t, ht, hle, hb⟩ := szPtr_ev (l.getD i z24) (hs _ (getD_mem (by omega))) n h0 h1
    by_cases hneg : t < 0
    · refine ⟨-1, Ev.next ?_, by omega, by omega⟩
      simp only [laws_szPtrS.l0, e, rd24n]
      clear e
      exact Ev.pos (by omega) (Ev.pos (by omega) (Ev.take ht (Ev.pos hneg (Ev.ret rfl))))
    · obtain ⟨u, hu, hle2, hj⟩ := ih (i + 1) t (by omega) (by omega) (by omega)
      refine ⟨u, Ev.next ?_, by omega, fun h j h1 h2 => ?_⟩
      · simp only [laws_szPtrS.l0, e, rd24n]
        clear e
        exact Ev.pos (by omega) (Ev.pos (by omega) (Ev.take ht (Ev.neg hneg hu)))
      · by_cases e : j = i
        · rw [e]; exact hb hneg
        · exact hj h j (by omega) h2
theorem szPtrS_ev (l : List S24) (hl : l.length ≤ maxLen) (hs : ∀ x ∈ l, Wl24 x) (n : Int) (h0 : 0 ≤ n) (h1 : n ≤ 1048576) :
    ∃ t : Int, Ev (fun k => laws_szPtrS.f k l n) t ∧ t ≤ n ∧ (¬ t < 0 → l.length ≤ 1048576 ∧ ∀ x ∈ l, Fit24 x) := by
  have hM : maxLen = 9223372036854775807 := by decide
  have e : wrap64 (n - (l.length : Int)) = n - (l.length : Int) := wrap_ok (by omega)
  unfold laws_szPtrS.f
  simp only [e]
  clear e
  by_cases h : n - (l.length : Int) < 0
  · exact ⟨-1, Ev.pos h (Ev.ret rfl), by omega, by omega⟩
  · obtain ⟨t, ht, hle, hj⟩ := szPtrS_l0 l (by omega) hs l.length 0 (n - (l.length : Int)) (Nat.zero_add _) (by omega) (by omega)
    refine ⟨t, Ev.neg h ht, by omega, fun hn => ⟨by omega, fun x hx => ?_⟩⟩
    obtain ⟨j, hj2, rfl⟩ := List.getElem_of_mem hx
    have := hj hn j (Nat.zero_le _) hj2
    simpa [List.getD, hj2] using this
def Wl120 (x : S120) : Prop := x.f0.size ≤ maxLen ∧ x.f1.length ≤ maxLen ∧ ∀ y ∈ x.f1, Wl24 y
def Fit120 (x : S120) : Prop := x.f1.length ≤ 1048576 ∧ ∀ y ∈ x.f1, Fit24 y
theorem szVol_ev (x : S120) (hx : Wl120 x) (n : Int) (h0 : 0 ≤ n) (h1 : n ≤ 1048576) : ∃ t : Int, Ev (fun k => laws_szVol.f k x.f0 x.f1 n) t ∧ t ≤ n ∧ (¬ t < 0 → Fit120 x) := by
  have hM : maxLen = 9223372036854775807 := by decide
  have hs := hx.1
  have e : wrap64 (n - (x.f0.size : Int)) = n - (x.f0.size : Int) := wrap_ok (by omega)
  unfold laws_szVol.f
  simp only [e]
  clear e
  by_cases h : n - (x.f0.size : Int) < 0
  · exact ⟨-1, Ev.pos h (Ev.ret rfl), by omega, by omega⟩
  · obtain ⟨t, ht, hle, hb⟩ := szPtrS_ev x.f1 hx.2.1 hx.2.2 (n - (x.f0.size : Int)) (by omega) (by omega)
    by_cases hn : t < 0
    · exact ⟨-1, Ev.neg h (Ev.bind ht (Ev.pos hn (Ev.ret rfl))), by omega, by omega⟩
    · exact ⟨t, Ev.neg h (Ev.bind ht (Ev.neg hn (Ev.ret rfl))), by omega, hb⟩
theorem szVolS_l0 (l : List S120) (hl : l.length ≤ 1048576) (hs : ∀ x ∈ l, Wl120 x) (d : Nat) : ∀ (i : Nat) (n : Int), i + d = l.length → 0 ≤ n → n ≤ 1048576 →
    ∃ t : Int, Ev (fun k => laws_szVolS.l0 k l n (i : Int)) t ∧ t ≤ n ∧ (¬ t < 0 → ∀ j : Nat, i ≤ j → j < l.length → Fit120 (l.getD j z120)) := by
  induction d with
  | zero =>
    intro i n hi _ _
    refine ⟨n, Ev.next ?_, Int.le_refl _, fun _ j h1 h2 => by omega⟩
    simp only [laws_szVolS.l0]
    exact Ev.neg (by omega) (Ev.ret rfl)
  | succ d ih =>
    intro i n hi h0 h1
    have e : wrap64 ((i : Int) + 1) = ((i + 1 : Nat) : Int) := by rw [wrap_ok (by omega)]; omega
    obtain ⟨t, ht, hle, hb⟩ := szVol_ev (l.getD i z120) (hs _ (getD_mem (by omega))) n h0 h1
    by_cases hneg : t < 0
    · refine ⟨-1, Ev.next ?_, by omega, by omega⟩
      simp only [laws_szVolS.l0, e, rd120n]
      clear e
      exact Ev.pos (by omega) (Ev.pos (by omega) (Ev.bind ht (Ev.pos hneg (Ev.ret rfl))))
    · obtain ⟨u, hu, hle2, hj⟩ := ih (i + 1) t (by omega) (by omega) (by omega)
      refine ⟨u, Ev.next ?_, by omega, fun h j h1 h2 => ?_⟩
      · simp only [laws_szVolS.l0, e, rd120n]
        clear e
        exact Ev.pos (by omega) (Ev.pos (by omega) (Ev.bind ht (Ev.neg hneg hu)))
      · by_cases e : j = i
        · rw [e]; exact hb hneg
        · exact hj h j (by omega) h2
theorem szVolS_ev (l : List S120) (hl : l.length ≤ maxLen) (hs : ∀ x ∈ l, Wl120 x) (n : Int) (h0 : 0 ≤ n) (h1 : n ≤ 1048576) :
    ∃ t : Int, Ev (fun k => laws_szVolS.f k l n) t ∧ t ≤ n ∧ (¬ t < 0 → l.length ≤ 1048576 ∧ ∀ x ∈ l, Fit120 x) := by
  have hM : maxLen = 9223372036854775807 := by decide
  have e : wrap64 (n - (l.length : Int)) = n - (l.length : Int) := wrap_ok (by omega)
  unfold laws_szVolS.f
  simp only [e]
  clear e
  by_cases h : n - (l.length : Int) < 0
  · exact ⟨-1, Ev.pos h (Ev.ret rfl), by omega, by omega⟩
  · obtain ⟨t, ht, hle, hj⟩ := szVolS_l0 l (by omega) hs l.length 0 (n - (l.length : Int)) (Nat.zero_add _) (by omega) (by omega)
    refine ⟨t, Ev.neg h ht, by omega, fun hn => ⟨by omega, fun x hx => ?_⟩⟩
    obtain ⟨j, hj2, rfl⟩ := List.getElem_of_mem hx
    have := hj hn j (Nat.zero_le _) hj2
    simpa [List.getD, hj2] using this
structure FitR (l : List S120) : Prop where
  len : l.length ≤ 1048576
  vols : ∀ x ∈ l, Fit120 x
theorem szRoot_ev (tx : Int) (l : List S120) (hl : l.length ≤ maxLen) (hs : ∀ x ∈ l, Wl120 x) (n : Int) (h0 : 0 ≤ n) (h1 : n ≤ 1048576) : ∃ t : Int, Ev (fun k => laws_szRoot.f k tx l n) t ∧ t ≤ n ∧ (¬ t < 0 → FitR l) := by
  unfold laws_szRoot.f
  obtain ⟨t, ht, hle, hb⟩ := szVolS_ev l hl hs n h0 h1
  by_cases hn : t < 0
  · exact ⟨-1, Ev.bind ht (Ev.pos hn (Ev.ret rfl)), by omega, by omega⟩
  · exact ⟨t, Ev.bind ht (Ev.neg hn (Ev.ret rfl)), hle, fun h => ⟨(hb h).1, (hb h).2⟩⟩
theorem toPtr_ev (s m : Int) (l : List S94) (hl : l.length ≤ 1048576) : Ev (fun k => laws_toPtr.f k s m l) (s, m, pls l) := by
  unfold laws_toPtr.f
  exact Ev.bind (toPlaceS_ev l hl) (Ev.ret rfl)
def ptC (x : S24) : S29 := ⟨x.f0, x.f1, pls x.f2⟩
def voC (x : S120) : S65 := ⟨x.f0, x.f1.map ptC⟩
theorem map_ptC (l : List S24) (i : Nat) (h : i < l.length) : (l.map ptC).getD i z29 = ptC (l.getD i z24) := by
  simp [List.getD, h]
theorem toPtrS_l0 (l : List S24) (hl : l.length ≤ 1048576) (hF : ∀ x ∈ l, Fit24 x) (d : Nat) : ∀ i : Nat, i + d = l.length →
    Ev (fun k => laws_toPtrS.l0 k l ((l.map ptC).take i ++ List.replicate ((l.map ptC).length - i) z29) (i : Int)) (l.map ptC) := by
  have hlm : (l.map ptC).length = l.length := List.length_map _
  induction d with
  | zero =>
    intro i hi
    refine Ev.next ?_
    simp only [laws_toPtrS.l0]
    have hil : i = (l.map ptC).length := by omega
    subst hil
    exact Ev.neg (by omega) (Ev.ret (fill_end _ _))
  | succ d ih =>
    intro i hi
    have e : wrap64 ((i : Int) + 1) = ((i + 1 : Nat) : Int) := by rw [wrap_ok (by omega)]; omega
    have hih := ih (i + 1) (by omega)
    have hlen := fill_len (l.map ptC) z29 i (by omega)
    have ht := toPtr_ev (l.getD i z24).f0 (l.getD i z24).f1 (l.getD i z24).f2 (hF _ (getD_mem (by omega)))
    have hx : (l.map ptC)[i]? = some (ptC (l.getD i z24)) := by
      rw [getD_some (z := z29) (by omega), map_ptC l i (by omega)]
    refine Ev.next ?_
    simp only [laws_toPtrS.l0, e, rd24n, Int.toNat_natCast]
    clear e
    refine Ev.pos (by omega) (Ev.pos (by omega) (Ev.bind ht (Ev.pos (by omega) ?_)))
    rw [← fill_set (l.map ptC) z29 _ i hx] at hih
    exact hih
theorem toPtrS_ev (l : List S24) (hl : l.length ≤ 1048576) (hF : ∀ x ∈ l, Fit24 x) : Ev (fun k => laws_toPtrS.f k l) (l.map ptC) := by
  have hlm : (l.map ptC).length = l.length := List.length_map _
  have h := toPtrS_l0 l hl hF l.length 0 (Nat.zero_add _)
  rw [hlm] at h
  simp only [List.take_zero, List.nil_append, Nat.sub_zero] at h
  unfold laws_toPtrS.f
  simp only [Int.toNat_natCast]
  exact Ev.pos (by omega) (Ev.pos (by omega) h)
theorem toVol_ev (x : S120) (h : Fit120 x) : Ev (fun k => laws_toVol.f k x.f0 x.f1) (x.f0, x.f1.map ptC) := by
  unfold laws_toVol.f
  exact Ev.bind (toPtrS_ev x.f1 h.1 h.2) (Ev.ret rfl)
theorem map_voC (l : List S120) (i : Nat) (h : i < l.length) : (l.map voC).getD i z65 = voC (l.getD i z120) := by
  simp [List.getD, h]
theorem toVolS_l0 (l : List S120) (hl : l.length ≤ 1048576) (hF : ∀ x ∈ l, Fit120 x) (d : Nat) : ∀ i : Nat, i + d = l.length →
    Ev (fun k => laws_toVolS.l0 k l ((l.map voC).take i ++ List.replicate ((l.map voC).length - i) z65) (i : Int)) (l.map voC) := by
  have hlm : (l.map voC).length = l.length := List.length_map _
  induction d with
  | zero =>
    intro i hi
    refine Ev.next ?_
    simp only [laws_toVolS.l0]
    have hil : i = (l.map voC).length := by omega
    subst hil
    exact Ev.neg (by omega) (Ev.ret (fill_end _ _))
  | succ d ih =>
    intro i hi
    have e : wrap64 ((i : Int) + 1) = ((i + 1 : Nat) : Int) := by rw [wrap_ok (by omega)]; omega
    have hih := ih (i + 1) (by omega)
    have hlen := fill_len (l.map voC) z65 i (by omega)
    have ht := toVol_ev (l.getD i z120) (hF _ (getD_mem (by omega)))
    have hx : (l.map voC)[i]? = some (voC (l.getD i z120)) := by
      rw [getD_some (z := z65) (by omega), map_voC l i (by omega)]
    refine Ev.next ?_
    simp only [laws_toVolS.l0, e, rd120n, Int.toNat_natCast]
    clear e
    refine Ev.pos (by omega) (Ev.pos (by omega) (Ev.bind ht (Ev.pos (by omega) ?_)))
    rw [← fill_set (l.map voC) z65 _ i hx] at hih
    exact hih
theorem toVolS_ev (l : List S120) (hl : l.length ≤ 1048576) (hF : ∀ x ∈ l, Fit120 x) : Ev (fun k => laws_toVolS.f k l) (l.map voC) := by
  have hlm : (l.map voC).length = l.length := List.length_map _
  have h := toVolS_l0 l hl hF l.length 0 (Nat.zero_add _)
  rw [hlm] at h
  simp only [List.take_zero, List.nil_append, Nat.sub_zero] at h
  unfold laws_toVolS.f
  simp only [Int.toNat_natCast]
  exact Ev.pos (by omega) (Ev.pos (by omega) h)
theorem toRoot_ev (tx : Int) (l : List S120) (h : FitR l) : Ev (fun k => laws_toRoot.f k tx l) (tx, l.map voC) := by
  unfold laws_toRoot.f
  exact Ev.bind (toVolS_ev l h.len h.vols) (Ev.ret rfl)
structure FitM (l : List S65) : Prop where
  len : l.length ≤ 1048576
  ptrs : ∀ x ∈ l, x.f1.length ≤ 1048576
  places : ∀ x ∈ l, ∀ y ∈ x.f1, y.f2.length ≤ 1048576
theorem FitR.map {l : List S120} (h : FitR l) : FitM (l.map voC) := by
  refine ⟨by rw [List.length_map]; exact h.len, fun x hx => ?_, fun x hx y hy => ?_⟩
  · obtain ⟨u, hu, rfl⟩ := List.mem_map.1 hx
    simp only [voC, List.length_map]
    exact (h.vols u hu).1
  · obtain ⟨u, hu, rfl⟩ := List.mem_map.1 hx
    obtain ⟨v, hv, rfl⟩ := List.mem_map.1 hy
    simp only [ptC, pls_length]
    exact (h.vols u hu).2 v hv
theorem eqPtrS_l0 (l : List S29) (hl : l.length ≤ 1048576) (hF : ∀ x ∈ l, x.f2.length ≤ 1048576) (d : Nat) : ∀ i : Nat, i + d = l.length → Ev (fun k => laws_eqPtrS.l0 k l l (i : Int)) true := by
  induction d with
  | zero =>
    intro i hi
    refine Ev.next ?_
    simp only [laws_eqPtrS.l0]
    exact Ev.neg (by omega) (Ev.ret rfl)
  | succ d ih =>
    intro i hi
    have e : wrap64 ((i : Int) + 1) = ((i + 1 : Nat) : Int) := by rw [wrap_ok (by omega)]; omega
    have hih := ih (i + 1) (by omega)
    have hx := hF _ (getD_mem (z := z29) (i := i) (l := l) (by omega))
    refine Ev.next ?_
    simp only [laws_eqPtrS.l0, e, rd29n]
    clear e
    exact Ev.pos (by omega) (Ev.pos (by omega) (Ev.pos (by omega) (Ev.bind (eqPtr_ev _ _ _ hx) (Ev.pos rfl hih))))
theorem eqPtrS_ev (l : List S29) (hl : l.length ≤ 1048576) (hF : ∀ x ∈ l, x.f2.length ≤ 1048576) : Ev (fun k => laws_eqPtrS.f k l l) true := by
  unfold laws_eqPtrS.f
  exact Ev.pos rfl (eqPtrS_l0 l hl hF _ 0 (Nat.zero_add _))
theorem eqVol_ev (x : S65) (hl : x.f1.length ≤ 1048576) (h : ∀ y ∈ x.f1, y.f2.length ≤ 1048576) : Ev (fun k => laws_eqVol.f k x.f0 x.f1 x.f0 x.f1) true := by
  unfold laws_eqVol.f
  exact Ev.pos rfl (Ev.bind (eqPtrS_ev x.f1 hl h) (Ev.pos rfl (Ev.ret rfl)))
theorem eqVolS_l0 (l : List S65) (hl : l.length ≤ 1048576) (hF : ∀ x ∈ l, (x.f1.length ≤ 1048576 ∧ ∀ y ∈ x.f1, y.f2.length ≤ 1048576)) (d : Nat) : ∀ i : Nat, i + d = l.length → Ev (fun k => laws_eqVolS.l0 k l l (i : Int)) true := by
  induction d with
  | zero =>
    intro i hi
    refine Ev.next ?_
    simp only [laws_eqVolS.l0]
    exact Ev.neg (by omega) (Ev.ret rfl)
  | succ d ih =>
    intro i hi
    have e : wrap64 ((i : Int) + 1) = ((i + 1 : Nat) : Int) := by rw [wrap_ok (by omega)]; omega
    have hih := ih (i + 1) (by omega)
    have hx := hF _ (getD_mem (z := z65) (i := i) (l := l) (by omega))
    refine Ev.next ?_
    simp only [laws_eqVolS.l0, e, rd65n]
    clear e
    exact Ev.pos (by omega) (Ev.pos (by omega) (Ev.pos (by omega) (Ev.bind (eqVol_ev _ hx.1 hx.2) (Ev.pos rfl hih))))
theorem eqVolS_ev (l : List S65) (hl : l.length ≤ 1048576) (hF : ∀ x ∈ l, (x.f1.length ≤ 1048576 ∧ ∀ y ∈ x.f1, y.f2.length ≤ 1048576)) : Ev (fun k => laws_eqVolS.f k l l) true := by
  unfold laws_eqVolS.f
  exact Ev.pos rfl (eqVolS_l0 l hl hF _ 0 (Nat.zero_add _))
theorem eqRoot_ev (tx : Int) (l : List S65) (h : FitM l) : Ev (fun k => laws_eqRoot.f k tx l tx l) true := by
  unfold laws_eqRoot.f
  exact Ev.pos rfl (Ev.bind (eqVolS_ev l h.len (fun x hx => ⟨h.ptrs x hx, h.places x hx⟩)) (Ev.pos rfl (Ev.ret rfl)))
end Go.Proofs.Ytkoimmeghdbodaa.Pure
namespace Go.Proofs.Ytkoimmeghdbodaa.Pure
open Go.RowKit Go.Proofs.Ytkoimmeghdbodaa.Print Go.Proofs.YtkoimmeghdbodaaW.PrintWords Go.Proofs.YtkoimmeghdbodaaW.PrintLast
set_option linter.unusedSimpArgs false
set_option linter.unusedVariables false
theorem volB_iff {s : ByteArray} (h : 1 ≤ s.size ∧ s.size ≤ 3) : volB s = true ↔ ∀ j : Nat, j < s.size → letB (bt s (j : Int)) = true := by
  unfold volB
  rw [decide_eq_true h, Bool.true_and, List.all_eq_true]
  exact ⟨fun x j hj => x j (List.mem_range.2 hj), fun x j hj => x j (List.mem_range.1 hj)⟩
theorem l2Name_l0 (s : ByteArray) (h : 1 ≤ s.size ∧ s.size ≤ 3) (d : Nat) : ∀ i : Nat, i + d = s.size → (∀ j : Nat, j < i → letB (bt s (j : Int)) = true) → Ev (fun k => spec_l2Name.l0 k s (i : Int)) (volB s) := by
  induction d with
  | zero =>
    intro i hi hj
    refine Ev.next ?_
    simp only [spec_l2Name.l0]
    exact Ev.neg (by omega) (Ev.ret ((volB_iff h).2 fun j hj2 => hj j (by omega)).symm)
  | succ d ih =>
    intro i hi hj
    have e : wrap64 ((i : Int) + 1) = ((i + 1 : Nat) : Int) := by rw [wrap_ok (by omega)]; omega
    refine Ev.next ?_
    simp only [spec_l2Name.l0, e]
    clear e
    refine Ev.pos (by omega) (Ev.pos (by omega) ?_)
    have bad : letB (bt s (i : Int)) = false → volB s = false := fun hb => by
      rw [Bool.eq_false_iff]
      intro hv
      have := (volB_iff h).1 hv i (by omega)
      rw [hb] at this
      cases this
    by_cases c1 : bt s (i : Int) < 97
    · exact Ev.pos c1 (Ev.ret (bad (decide_eq_false (by omega))).symm)
    · by_cases c2 : bt s (i : Int) > 122
      · exact Ev.neg c1 (Ev.pos c2 (Ev.ret (bad (decide_eq_false (by omega))).symm))
      · refine Ev.neg c1 (Ev.neg c2 (ih (i + 1) (by omega) fun j hj2 => ?_))
        by_cases e : j = i
        · rw [e]; exact decide_eq_true (by omega)
        · exact hj j (by omega)
theorem l2Name_ev (s : ByteArray) : Ev (fun k => spec_l2Name.f k s) (volB s) := by
  unfold spec_l2Name.f
  refine Ev.take (l6In_eq _ _ _) ?_
  by_cases h : 1 ≤ s.size ∧ s.size ≤ 3
  · exact Ev.pos (decide_eq_true (by omega)) (l2Name_l0 s h s.size 0 (Nat.zero_add _) (fun j hj => by omega))
  · exact Ev.neg (by rw [decide_eq_true_iff]; omega) (Ev.ret (vol_long h).symm)
theorem drop_getD {α : Type} (l : List α) (z : α) (i : Nat) (h : i < l.length) : l.drop i = l.getD i z :: l.drop (i + 1) := by
  rw [List.drop_eq_getElem_cons h, List.getD, List.getElem?_eq_getElem h]
  rfl
theorem eq37 (x y : S37) : (x.f0 == y.f0 && (x.f1 == y.f1)) = decide (x = y) := by
  by_cases h : x = y
  · rw [h, decide_eq_true rfl]
    simp
  · rw [decide_eq_false h, Bool.and_eq_false_iff]
    by_cases h0 : x.f0 = y.f0
    · right
      rw [beq_eq_false_iff_ne]
      intro h1
      exact h (by cases x; cases y; simp only at h0 h1; rw [h0, h1])
    · left
      rwa [beq_eq_false_iff_ne]
def meetB (a b : List S37) : Bool := a.any fun x => b.any fun y => decide (x = y)
theorem meetB_iff (a b : List S37) : meetB a b = true ↔ ∃ x, x ∈ a ∧ x ∈ b := by
  unfold meetB
  rw [List.any_eq_true]
  constructor
  · rintro ⟨x, hx, h⟩
    obtain ⟨y, hy, h2⟩ := List.any_eq_true.1 h
    exact ⟨x, hx, by rw [of_decide_eq_true h2]; exact hy⟩
  · rintro ⟨x, hx, h⟩
    exact ⟨x, hx, List.any_eq_true.2 ⟨x, h, decide_eq_true rfl⟩⟩
theorem meet_l1 (s m : Int) (a : List S37) (s2 m2 : Int) (b : List S37) (ha : a.length ≤ 1048576) (hb : b.length ≤ 1048576) (i : Nat) (hi : i < a.length) {r : Bool} (k : Ev (fun k => spec_l2Meet.l0 k ((i + 1 : Nat) : Int) s m a s2 m2 b) r) (d : Nat) :
    ∀ j : Nat, j + d = b.length → Ev (fun k => spec_l2Meet.l1 k (i : Int) (j : Int) s m a s2 m2 b) (((b.drop j).any fun y => decide (a.getD i z37 = y)) || r) := by
  have e : wrap64 ((i : Int) + 1) = ((i + 1 : Nat) : Int) := by rw [wrap_ok (by omega)]; omega
  induction d with
  | zero =>
    intro j hj
    refine Ev.next ?_
    simp only [spec_l2Meet.l1, e]
    clear e
    refine Ev.neg (by omega) ?_
    rw [List.drop_of_length_le (by omega)]
    exact k
  | succ d ih =>
    intro j hj
    have e2 : wrap64 ((j : Int) + 1) = ((j + 1 : Nat) : Int) := by rw [wrap_ok (by omega)]; omega
    have hih := ih (j + 1) (by omega)
    rw [drop_getD b z37 j (by omega), List.any_cons]
    refine Ev.next ?_
    simp only [spec_l2Meet.l1, e2, rd37n, eq37]
    clear e e2
    refine Ev.pos (by omega) (Ev.pos (by omega) (Ev.pos (by omega) (Ev.pos (by omega) ?_)))
    by_cases c : a.getD i z37 = b.getD j z37
    · exact Ev.pos (decide_eq_true c) (Ev.ret (by rw [decide_eq_true c]; rfl))
    · refine Ev.neg (by rw [decide_eq_true_iff]; exact c) ?_
      rw [decide_eq_false c, Bool.false_or]
      exact hih
theorem meet_l0 (s m : Int) (a : List S37) (s2 m2 : Int) (b : List S37) (ha : a.length ≤ 1048576) (hb : b.length ≤ 1048576) (d : Nat) :
    ∀ i : Nat, i + d = a.length → Ev (fun k => spec_l2Meet.l0 k (i : Int) s m a s2 m2 b) (meetB (a.drop i) b) := by
  induction d with
  | zero =>
    intro i hi
    refine Ev.next ?_
    simp only [spec_l2Meet.l0]
    exact Ev.neg (by omega) (Ev.ret (by rw [List.drop_of_length_le (by omega)]; rfl))
  | succ d ih =>
    intro i hi
    have h := meet_l1 s m a s2 m2 b ha hb i (by omega) (ih (i + 1) (by omega)) b.length 0 (Nat.zero_add _)
    rw [List.drop_zero] at h
    refine Ev.next ?_
    simp only [spec_l2Meet.l0]
    refine Ev.pos (by omega) ?_
    unfold meetB at h ⊢
    rw [drop_getD a z37 i (by omega), List.any_cons]
    exact h
theorem meet_ev (a b : S29) (ha : a.f2.length ≤ 1048576) (hb : b.f2.length ≤ 1048576) : Ev (fun k => spec_l2Meet.f k a.f0 a.f1 a.f2 b.f0 b.f1 b.f2) (meetB a.f2 b.f2) := by
  unfold spec_l2Meet.f
  exact meet_l0 a.f0 a.f1 a.f2 b.f0 b.f1 b.f2 ha hb a.f2.length 0 (Nat.zero_add _)
theorem same_l0 (s m : Int) (a : List S37) (s2 m2 : Int) (b : List S37) (ha : a.length ≤ 1048576) (hl : a.length = b.length) (d : Nat) :
    ∀ i : Nat, i + d = a.length → Ev (fun k => spec_l2Same.l0 k (i : Int) s m a s2 m2 b) (decide (a.drop i = b.drop i)) := by
  induction d with
  | zero =>
    intro i hi
    refine Ev.next ?_
    simp only [spec_l2Same.l0]
    exact Ev.neg (by omega) (Ev.ret (by rw [List.drop_of_length_le (by omega), List.drop_of_length_le (by omega), decide_eq_true rfl]))
  | succ d ih =>
    intro i hi
    have e : wrap64 ((i : Int) + 1) = ((i + 1 : Nat) : Int) := by rw [wrap_ok (by omega)]; omega
    have hih := ih (i + 1) (by omega)
    rw [drop_getD a z37 i (by omega), drop_getD b z37 i (by omega)]
    have key : (!((a.getD i z37).f0 == (b.getD i z37).f0) || (!((a.getD i z37).f1 == (b.getD i z37).f1))) = !(decide (a.getD i z37 = b.getD i z37)) := by
      rw [← eq37, Bool.not_and]
    refine Ev.next ?_
    simp only [spec_l2Same.l0, e, rd37n, key]
    clear e key
    refine Ev.pos (by omega) (Ev.pos (by omega) (Ev.pos (by omega) ?_))
    by_cases c : a.getD i z37 = b.getD i z37
    · refine Ev.neg (by rw [decide_eq_true c]; simp) ?_
      rw [c]
      have : (b.getD i z37 :: a.drop (i + 1) = b.getD i z37 :: b.drop (i + 1)) ↔ a.drop (i + 1) = b.drop (i + 1) := by simp
      simp only [this]
      exact hih
    · exact Ev.pos (by rw [decide_eq_false c]; rfl) (Ev.ret (by rw [decide_eq_false]; intro h; exact c (List.cons.inj h).1))
theorem specSame_ev (a b : S29) (ha : a.f2.length ≤ 1048576) : Ev (fun k => spec_l2Same.f k a.f0 a.f1 a.f2 b.f0 b.f1 b.f2) (sameB a b) := by
  unfold spec_l2Same.f sameB
  have bad : Ev (fun k => spec_l2Same.j0 k true a.f0 a.f1 a.f2 b.f0 b.f1 b.f2) false := by
    refine Ev.next ?_
    simp only [spec_l2Same.j0]
    exact Ev.pos trivial (Ev.ret rfl)
  by_cases h0 : a.f0 = b.f0
  · rw [decide_eq_true h0, Bool.true_and]
    refine Ev.pos h0 ?_
    by_cases h1 : a.f1 = b.f1
    · rw [decide_eq_true h1, Bool.true_and]
      refine Ev.pos h1 ?_
      refine Ev.next ?_
      simp only [spec_l2Same.j0]
      by_cases h2 : a.f2.length = b.f2.length
      · refine Ev.neg (by simp [h2]) ?_
        exact same_l0 a.f0 a.f1 a.f2 b.f0 b.f1 b.f2 ha h2 a.f2.length 0 (Nat.zero_add _)
      · refine Ev.pos (by rw [bne_iff_ne]; omega) (Ev.ret ?_)
        rw [decide_eq_false]
        intro h
        exact h2 (by rw [h])
    · rw [decide_eq_false h1, Bool.false_and]
      exact Ev.neg h1 bad
  · rw [decide_eq_false h0, Bool.false_and]
    exact Ev.neg h0 bad
theorem all_l0 (tx : Int) (vs : List S65) (hl : vs.length ≤ 4) (h3 : ∀ x ∈ vs, x.f1.length = 3) (d : Nat) : ∀ i : Nat, i + d = vs.length → Ev (fun k => spec_l2All.l0 k (ptrs (vs.take i)) (i : Int) tx vs) (ptrs vs) := by
  induction d with
  | zero =>
    intro i hi
    refine Ev.next ?_
    simp only [spec_l2All.l0]
    exact Ev.neg (by omega) (Ev.ret (by rw [List.take_of_length_le (by omega)]))
  | succ d ih =>
    intro i hi
    have e : wrap64 ((i : Int) + 1) = ((i + 1 : Nat) : Int) := by rw [wrap_ok (by omega)]; omega
    have hih := ih (i + 1) (by omega)
    have hn : ptrs (vs.take (i + 1)) = ptrs (vs.take i) ++ (vs.getD i z65).f1 := by
      unfold ptrs
      rw [take65 vs i (by omega), List.flatMap_append]
      simp
    rw [hn] at hih
    have hb := h3 _ (getD_mem (z := z65) (i := i) (l := vs) (by omega))
    have hp := ptrs_take_len h3 i (by omega)
    refine Ev.next ?_
    simp only [spec_l2All.l0, e, rd65n]
    clear e
    exact Ev.pos (by omega) (Ev.pos (by omega) (Ev.pos (by omega) hih))
theorem all_ev (tx : Int) (vs : List S65) (hl : vs.length ≤ 4) (h3 : ∀ x ∈ vs, x.f1.length = 3) : Ev (fun k => spec_l2All.f k tx vs) (ptrs vs) := by
  unfold spec_l2All.f
  exact all_l0 tx vs hl h3 vs.length 0 (Nat.zero_add _)
def pairB (p q : S29) : Bool := !meetB p.f2 q.f2 || sameB p q
def ptrAt (n : Int) (ps : List S29) (i : Nat) : Bool := ptrC n (ps.getD i z29) && decide (∀ q, q < i → pairB (ps.getD i z29) (ps.getD q z29) = true)
def nameAt (vs : List S65) (i : Nat) : Bool := volB (vs.getD i z65).f0 && (decide ((vs.getD i z65).f1.length = 3) && decide (∀ q, q < i → (vs.getD q z65).f0.toList ≠ (vs.getD i z65).f0.toList))
def specB (n tx : Int) (vs : List S65) : Bool := decide (3 ≤ n ∧ n ≤ 4) && (decide (0 ≤ tx ∧ tx ≤ 100000) && (decide (vs.length ≤ 4) && (decide (∀ q, q < vs.length → nameAt vs q = true) && decide (∀ t, t < (ptrs vs).length → 0 ≤ t → ptrAt n (ptrs vs) t = true))))
end Go.Proofs.Ytkoimmeghdbodaa.Pure
namespace Go.Proofs.Ytkoimmeghdbodaa.Pure
open Go.RowKit Go.Proofs.Ytkoimmeghdbodaa.Print Go.Proofs.YtkoimmeghdbodaaW.PrintWords Go.Proofs.YtkoimmeghdbodaaW.PrintLast
set_option linter.unusedSimpArgs false
set_option linter.unusedVariables false
theorem lastL_append (A B : List (S37 × Nat)) (x : S37) : lastL (A ++ B) x = match lastL B x with | some t => some t | none => lastL A x := by
  refine rev_ind (P := fun B => lastL (A ++ B) x = match lastL B x with | some t => some t | none => lastL A x) ?_ (fun L q ih => ?_) B
  · rw [List.append_nil]
    rfl
  · rw [← List.append_assoc, lastL_snoc, lastL_snoc]
    by_cases e : q.1 = x
    · rw [if_pos e, if_pos e]
    · rw [if_neg e, if_neg e]
      exact ih
theorem lastL_map (x : S37) (t : Nat) (l : List S37) : lastL (l.map fun y => (y, t)) x = if x ∈ l then some t else none := by
  refine rev_ind (P := fun l => lastL (l.map fun y => (y, t)) x = if x ∈ l then some t else none) (by simp [lastL]) (fun l y ih => ?_) l
  rw [List.map_append, List.map_cons, List.map_nil, lastL_snoc, ih]
  by_cases e : y = x
  · subst e
    simp
  · have : x ∈ l ++ [y] ↔ x ∈ l := by
      rw [List.mem_append, List.mem_singleton]
      exact ⟨fun h => h.elim id (fun h => absurd h.symm e), Or.inl⟩
    simp only [this, if_neg e]
theorem pre_succ (ps : List S29) (i : Nat) : preL ps (i + 1) = preL ps i ++ (ps.getD i z29).f2.map fun x => (x, i) := by
  simp only [preL, List.range_succ, List.flatMap_append, List.flatMap_cons, List.flatMap_nil, List.append_nil]
theorem pre_last (ps : List S29) (x : S37) : ∀ i : Nat, match lastL (preL ps i) x with
    | some t => t < i ∧ x ∈ (ps.getD t z29).f2 ∧ ∀ q, t < q → q < i → x ∉ (ps.getD q z29).f2
    | none => ∀ q, q < i → x ∉ (ps.getD q z29).f2 := by
  intro i
  induction i with
  | zero =>
    have : lastL (preL ps 0) x = none := rfl
    rw [this]
    intro q h
    omega
  | succ i ih =>
    rw [pre_succ, lastL_append, lastL_map]
    by_cases c : x ∈ (ps.getD i z29).f2
    · rw [if_pos c]
      exact ⟨by omega, c, fun q h1 h2 => by omega⟩
    · rw [if_neg c]
      cases hL : lastL (preL ps i) x with
      | none =>
        rw [hL] at ih
        intro q hq
        by_cases e : q = i
        · rw [e]; exact c
        · exact ih q (by omega)
      | some t =>
        rw [hL] at ih
        exact ⟨by omega, ih.2.1, fun q h1 h2 => by
          by_cases e : q = i
          · rw [e]; exact c
          · exact ih.2.2 q h1 (by omega)⟩
theorem sameB_iff (a b : S29) : sameB a b = true ↔ a.f0 = b.f0 ∧ a.f1 = b.f1 ∧ a.f2 = b.f2 := by
  unfold sameB
  simp only [Bool.and_eq_true, decide_eq_true_iff]
theorem first_at (x : S37) : ∀ l : List S37, x ∈ l → ∃ j, j < l.length ∧ l.getD j z37 = x ∧ x ∉ l.take j := by
  intro l
  induction l with
  | nil => intro h; simp at h
  | cons y ys ih =>
    intro h
    by_cases e : y = x
    · exact ⟨0, by simp, by simp [e], by simp⟩
    · obtain ⟨j, h1, h2, h3⟩ := ih ((List.mem_cons.1 h).resolve_left (fun h => e h.symm))
      refine ⟨j + 1, by simp; omega, by simpa using h2, ?_⟩
      rw [List.take_succ_cons, List.mem_cons]
      rintro (h | h)
      · exact e h.symm
      · exact h3 h
theorem pairB_iff (p q : S29) : pairB p q = true ↔ ∀ x, x ∈ p.f2 → x ∈ q.f2 → sameB p q = true := by
  unfold pairB
  rw [Bool.or_eq_true, Bool.not_eq_true']
  constructor
  · rintro (h | h) x h1 h2
    · have := (meetB_iff p.f2 q.f2).2 ⟨x, h1, h2⟩
      rw [h] at this
      cases this
    · exact h
  · intro h
    by_cases c : meetB p.f2 q.f2 = true
    · obtain ⟨x, h1, h2⟩ := (meetB_iff p.f2 q.f2).1 c
      exact Or.inr (h x h1 h2)
    · exact Or.inl (by simpa using c)
theorem own_iff (ps : List S29) : implOwn ps = true ↔ ∀ i, i < ps.length → ∀ q, q < i → pairB (ps.getD i z29) (ps.getD q z29) = true := by
  rw [implOwn_iff]
  constructor
  · intro h
    have key : ∀ n i, i < n → i < ps.length → ∀ q, q < i → ∀ x, x ∈ (ps.getD i z29).f2 → x ∈ (ps.getD q z29).f2 → sameB (ps.getD i z29) (ps.getD q z29) = true := by
      intro n
      induction n with
      | zero => intro i h; omega
      | succ n ih =>
        intro i hin hi q hq x hx hxq
        obtain ⟨j, hj, hjx, hjn⟩ := first_at x _ hx
        have hs := (rowOk_iff ps i).1 (h i hi) j hj
        unfold stepOk putL at hs
        rw [hjx, lastL_append, lastL_map, if_neg hjn] at hs
        have hp := pre_last ps x i
        cases hL : lastL (preL ps i) x with
        | none =>
          rw [hL] at hp
          exact absurd hxq (hp q hq)
        | some t =>
          rw [hL] at hp hs
          simp only at hp hs
          by_cases e : q = t
          · rw [e]; exact hs
          · have hlt : q < t := by
              apply Classical.byContradiction
              intro hc
              exact hp.2.2 q (by omega) hq hxq
            have h2 := ih t (by omega) (by omega) q hlt x hp.2.1 hxq
            have a := (sameB_iff _ _).1 hs
            have b := (sameB_iff _ _).1 h2
            exact (sameB_iff _ _).2 ⟨a.1.trans b.1, a.2.1.trans b.2.1, a.2.2.trans b.2.2⟩
    intro i hi q hq
    rw [pairB_iff]
    exact key (i + 1) i (by omega) hi q hq
  · intro h i hi
    rw [rowOk_iff]
    intro j hj
    unfold stepOk
    cases hL : lastL (putL ps i j) ((ps.getD i z29).f2.getD j z37) with
    | none => rfl
    | some t =>
      have hm := putL_mem (lastL_mem hL)
      by_cases e : t = i
      · subst e
        exact (sameB_iff _ _).2 ⟨rfl, rfl, rfl⟩
      · exact (pairB_iff _ _).1 (h i hi t (by have := hm.1; omega)) _ (getD_mem hj) hm.2
theorem take_any (vs : List S65) (i : Nat) (hi : i < vs.length) : (vs.take i).any (fun x : S65 => x.f0.toList == (vs.getD i z65).f0.toList) = false ↔ ∀ q, q < i → (vs.getD q z65).f0.toList ≠ (vs.getD i z65).f0.toList := by
  rw [List.any_eq_false]
  constructor
  · intro h q hq he
    have hm : vs.getD q z65 ∈ vs.take i := by
      rw [List.mem_take_iff_getElem]
      exact ⟨q, by omega, by simp [List.getD, show q < vs.length by omega]⟩
    exact h _ hm (by rw [he]; simp)
  · intro h x hx he
    rw [List.mem_take_iff_getElem] at hx
    obtain ⟨q, hq, rfl⟩ := hx
    have := h q (by omega)
    apply this
    simp only [List.getD, show q < vs.length by omega, getElem?_pos, Option.getD_some] at he ⊢
    exact beq_iff_eq.1 he
theorem volAt_iff (n : Int) (vs : List S65) (i : Nat) (hi : i < vs.length) : volAt n vs i = true ↔ nameAt vs i = true ∧ ∀ p ∈ (vs.getD i z65).f1, ptrC n p = true := by
  unfold volAt nameAt
  simp only [Bool.and_eq_true, decide_eq_true_iff, Bool.not_eq_true']
  rw [take_any vs i hi, List.any_eq_false]
  constructor
  · rintro ⟨⟨h1, h2⟩, h3, h4⟩
    exact ⟨⟨h1, h2, h3⟩, fun p hp => by simpa using h4 p hp⟩
  · rintro ⟨⟨h1, h2, h3⟩, h4⟩
    exact ⟨⟨h1, h2⟩, h3, fun p hp => by rw [h4 p hp]; simp⟩
theorem rootB_eq (n tx : Int) (vs : List S65) : rootB n tx vs = specB n tx vs := by
  rw [Bool.eq_iff_iff]
  unfold rootB specB
  simp only [Bool.and_eq_true, decide_eq_true_iff]
  constructor
  · rintro ⟨hn, ht0, ht1, hv, ho⟩
    have hg := vols_good hv
    have ho := (own_iff _).1 ho
    unfold volsB at hv
    rw [Bool.and_eq_true, List.all_eq_true] at hv
    refine ⟨hn, ⟨ht0, ht1⟩, hg.1, fun q hq => ((volAt_iff n vs q hq).1 (hv.1 q (List.mem_range.2 hq))).1, fun t ht _ => ?_⟩
    unfold ptrAt
    rw [hg.2.2 _ (getD_mem ht), Bool.true_and, decide_eq_true_iff]
    exact ho t ht
  · rintro ⟨hn, ⟨ht0, ht1⟩, hl, hv, hp⟩
    have hp2 : ∀ p ∈ ptrs vs, ptrC n p = true := fun p hpm => by
      obtain ⟨t, ht, rfl⟩ := List.getElem_of_mem hpm
      have := hp t ht (Nat.zero_le _)
      unfold ptrAt at this
      rw [Bool.and_eq_true] at this
      simpa [List.getD, ht] using this.1
    refine ⟨hn, ht0, ht1, ?_, (own_iff _).2 fun t ht => ?_⟩
    · unfold volsB
      rw [Bool.and_eq_true, List.all_eq_true, decide_eq_true_iff]
      refine ⟨fun q hq => ?_, hl⟩
      have hq := List.mem_range.1 hq
      exact (volAt_iff n vs q hq).2 ⟨hv q hq, fun p hpm => hp2 p (List.mem_flatMap.2 ⟨_, getD_mem hq, hpm⟩)⟩
    · have := hp t ht (Nat.zero_le _)
      unfold ptrAt at this
      rw [Bool.and_eq_true, decide_eq_true_iff] at this
      exact this.2
end Go.Proofs.Ytkoimmeghdbodaa.Pure
namespace Go.Proofs.Ytkoimmeghdbodaa.Print
open Go.RowKit Go.Proofs.YtkoimmeghdbodaaW.PrintWords Go.Proofs.YtkoimmeghdbodaaW.PrintLast Go.Proofs.YtkoimmeghdbodaaW.PrintMore
attribute [local go_sem] max2_int min2_int max_two min_two max_three min_three max_four min_four   -- for this text's walks alone
set_option linter.unusedVariables false
set_option linter.unusedSimpArgs false
end Go.Proofs.Ytkoimmeghdbodaa.Print
namespace Go.Proofs.Ytkoimmeghdbodaa.Pure
open Go.RowKit Go.Lib Go.Sort Go.Proofs.Ytkoimmeghdbodaa.Print Go.Proofs.YtkoimmeghdbodaaW.PrintWords Go.Proofs.YtkoimmeghdbodaaW.PrintLast
set_option linter.unusedSimpArgs false
set_option linter.unusedVariables false
theorem ltPl_iff (x y : S37) : ltPl x y = true ↔ x.f0 < y.f0 ∨ (x.f0 = y.f0 ∧ x.f1 < y.f1) := by
  unfold ltPl
  rw [decide_eq_true_iff]
theorem ltPl_trans {x y z : S37} (h1 : ltPl x y = true) (h2 : ltPl y z = true) : ltPl x z = true := by
  rw [ltPl_iff] at *
  omega
theorem ltPl_of_le {x y : S37} (h : ltPl y x = false) (hne : x ≠ y) : ltPl x y = true := by
  rw [Bool.eq_false_iff, Ne, ltPl_iff] at h
  rw [ltPl_iff]
  apply Classical.byContradiction
  intro hc
  apply hne
  cases x; cases y
  simp only at h hc
  simp only [S37.mk.injEq]
  omega
theorem strict_unique : ∀ (l m : List S37), l.Pairwise (fun x y => ltPl x y = true) → m.Pairwise (fun x y => ltPl x y = true) → (∀ x, x ∈ l ↔ x ∈ m) → l = m
  | [], [], _, _, _ => rfl
  | [], b :: m, _, _, h => absurd ((h b).2 (by simp)) (by simp)
  | a :: l, [], _, _, h => absurd ((h a).1 (by simp)) (by simp)
  | a :: l, b :: m, hl, hm, h => by
    have hl := List.pairwise_cons.1 hl
    have hm := List.pairwise_cons.1 hm
    have irr : ∀ x : S37, ltPl x x = false := fun x => by rw [Bool.eq_false_iff, Ne, ltPl_iff]; omega
    have eab : a = b := by
      rcases List.mem_cons.1 ((h a).1 (by simp)) with e | e
      · exact e
      · rcases List.mem_cons.1 ((h b).2 (by simp)) with e2 | e2
        · exact e2.symm
        · have := ltPl_trans (hm.1 a e) (hl.1 b e2)
          rw [irr] at this
          cases this
    subst eab
    have := strict_unique l m hl.2 hm.2 (fun x => by
      constructor
      · intro hx
        rcases List.mem_cons.1 ((h x).1 (List.mem_cons_of_mem _ hx)) with e | e
        · have := hl.1 x hx
          rw [e, irr] at this
          cases this
        · exact e
      · intro hx
        rcases List.mem_cons.1 ((h x).2 (List.mem_cons_of_mem _ hx)) with e | e
        · have := hm.1 x hx
          rw [e, irr] at this
          cases this
        · exact e)
    rw [this]
theorem sortPl_mem (l : List S37) (x : S37) : x ∈ sortPl l.toArray ↔ x ∈ l := by
  unfold sortPl
  rw [List.mem_mergeSort]
theorem sortPl_sorted (l : List S37) : (sortPl l.toArray).Pairwise (fun x y => ltPl y x = false) := by
  unfold sortPl
  have h := List.pairwise_mergeSort (le := fun x y : S37 => !ltPl y x) (fun a b c h1 h2 => by
    simp only [Bool.not_eq_true'] at *
    rw [Bool.eq_false_iff, Ne, ltPl_iff] at *
    omega) (fun a b => by
    cases h1 : ltPl b a
    · rfl
    · cases h2 : ltPl a b
      · rfl
      · rw [ltPl_iff] at h1 h2
        omega) l
  exact h.imp (fun h => by simpa using h)
theorem compact_mem (d : Array S37) (x : S37) : ∀ m : Nat, m ≤ d.size → (x ∈ compactUpTo d m ↔ ∃ j, j < m ∧ d[j]! = x) := by
  intro m
  induction m with
  | zero => intro _; simp [compactUpTo]
  | succ m ih =>
    intro hm
    rw [compactUpTo_succ, List.mem_append, ih (by omega)]
    constructor
    · rintro (⟨j, h1, h2⟩ | h)
      · exact ⟨j, by omega, h2⟩
      · by_cases c : keeps d m = true
        · rw [if_pos c] at h
          exact ⟨m, by omega, (List.mem_singleton.1 h).symm⟩
        · rw [if_neg c] at h
          simp at h
    · rintro ⟨j, h1, h2⟩
      by_cases e : j < m
      · exact Or.inl ⟨j, e, h2⟩
      · have e : j = m := by omega
        subst e
        by_cases c : keeps d j = true
        · rw [if_pos c]
          exact Or.inr (by rw [h2]; simp)
        · left
          unfold keeps at c
          rw [decide_eq_true_iff] at c
          have c1 : j ≠ 0 := fun h => c (Or.inl h)
          have c2 : d[j]! = d[j - 1]! := Classical.byContradiction fun h => c (Or.inr h)
          exact ⟨j - 1, by omega, by rw [← c2]; exact h2⟩
theorem compact_strict (d : Array S37) (hs : ∀ i j, i < j → j < d.size → ltPl d[j]! d[i]! = false) : ∀ m : Nat, m ≤ d.size → (compactUpTo d m).Pairwise (fun x y => ltPl x y = true) := by
  intro m
  induction m with
  | zero => intro _; simp [compactUpTo]
  | succ m ih =>
    intro hm
    rw [compactUpTo_succ]
    by_cases c : keeps d m = true
    · rw [if_pos c, List.pairwise_append]
      refine ⟨ih (by omega), by simp, fun x hx y hy => ?_⟩
      rw [List.mem_singleton.1 hy]
      obtain ⟨j, hj, rfl⟩ := (compact_mem d x m (by omega)).1 hx
      unfold keeps at c
      rw [decide_eq_true_iff] at c
      have c2 := c.resolve_left (by omega)
      have h1 := ltPl_of_le (hs (m - 1) m (by omega) (by omega)) (fun e => c2 e.symm)
      by_cases e : j = m - 1
      · rw [e]; exact h1
      · by_cases e2 : d[j]! = d[m - 1]!
        · rw [e2]; exact h1
        · exact ltPl_trans (ltPl_of_le (hs j (m - 1) (by omega) (by omega)) e2) h1
    · rw [if_neg c, List.append_nil]
      exact ih (by omega)
theorem compactPl_mem (l : List S37) (x : S37) : x ∈ compactPl l ↔ x ∈ l := by
  unfold compactPl
  have e : (sortPl l.toArray).toArray.size = (sortPl l.toArray).length := by simp
  rw [compact_mem _ _ _ (by rw [e]; exact Nat.le_refl _), ← sortPl_mem l x, List.mem_iff_getElem]
  constructor
  · rintro ⟨j, h1, h2⟩
    exact ⟨j, h1, by rw [← h2, getElem!_pos _ j (by simpa using h1)]; simp⟩
  · rintro ⟨j, h1, h2⟩
    exact ⟨j, h1, by rw [← h2, getElem!_pos _ j (by simpa using h1)]; simp⟩
theorem compactPl_strict (l : List S37) : (compactPl l).Pairwise (fun x y => ltPl x y = true) := by
  unfold compactPl
  have hsz : (sortPl l.toArray).toArray.size = (sortPl l.toArray).length := by simp
  refine compact_strict _ (fun i j h1 h2 => ?_) _ (by simp)
  have h := List.pairwise_iff_getElem.1 (sortPl_sorted l) i j (by simp at h2; omega) (by simpa using h2) h1
  rw [getElem!_pos _ i (by omega), getElem!_pos _ j h2]
  simpa using h
def gr (k : Nat) : S37 := ⟨((k / 12 : Nat) : Int), ((k % 12 : Nat) : Int)⟩
def hit (ps : List S29) (p : S37) : Bool := ps.any fun q => meetB [p] q.f2
def gridF (ps : List S29) (k : Nat) : List S37 := ((List.range k).map gr).filter (hit ps)
theorem gridF_len (ps : List S29) (k : Nat) : (gridF ps k).length ≤ k := by
  unfold gridF
  exact Nat.le_trans (List.length_filter_le _ _) (by simp)
theorem gr_lt {i j : Nat} (h : i < j) : ltPl (gr i) (gr j) = true := by
  rw [ltPl_iff]
  unfold gr
  simp only
  omega
theorem gridF_strict (ps : List S29) (k : Nat) : (gridF ps k).Pairwise (fun x y => ltPl x y = true) := by
  unfold gridF
  refine List.Pairwise.filter _ ?_
  rw [List.pairwise_map]
  exact List.pairwise_lt_range.imp (fun h => gr_lt h)
theorem hit_iff (ps : List S29) (p : S37) : hit ps p = true ↔ p ∈ placesAll ps := by
  unfold hit placesAll
  rw [List.any_eq_true, List.mem_flatMap]
  constructor
  · rintro ⟨q, hq, h⟩
    obtain ⟨x, h1, h2⟩ := (meetB_iff _ _).1 h
    rw [List.mem_singleton.1 h1] at h2
    exact ⟨q, hq, h2⟩
  · rintro ⟨q, hq, h⟩
    exact ⟨q, hq, (meetB_iff _ _).2 ⟨p, by simp, h⟩⟩
theorem gr_at {n : Int} {p : S37} (h : PlaceIn n p) : ∃ k : Nat, (k : Int) < 12 * n ∧ gr k = p := by
  obtain ⟨⟨h0, h1⟩, h2, h3⟩ := h
  refine ⟨p.f0.toNat * 12 + p.f1.toNat, by omega, ?_⟩
  unfold gr
  cases p
  simp only at *
  simp only [S37.mk.injEq]
  omega
theorem rootPl_grid (n tx : Int) (vs : List S65) (h : rootB n tx vs = true) : rootPl n tx vs = gridF (ptrs vs) (12 * n).toNat := by
  unfold rootPl
  rw [if_pos h]
  unfold rootB at h
  simp only [Bool.and_eq_true, decide_eq_true_iff] at h
  have hg := vols_good h.2.2.2.1
  refine strict_unique _ _ (compactPl_strict _) (gridF_strict _ _) fun x => ?_
  rw [compactPl_mem, ← hit_iff]
  unfold gridF
  rw [List.mem_filter, List.mem_map]
  refine ⟨fun hx => ⟨?_, hx⟩, fun hx => hx.2⟩
  obtain ⟨q, hq, hxq⟩ := List.mem_flatMap.1 ((hit_iff _ _).1 hx)
  have hpg := (of_decide_eq_true (hg.2.2 q hq)).2
  have hin : PlaceIn n x := by
    rcases hpg with hh | hh
    · rw [List.eq_nil_of_length_eq_zero hh.2.2] at hxq
      simp at hxq
    · obtain ⟨i, hi, rfl⟩ := List.getElem_of_mem hxq
      have := (hh.2.2.2 i hi).1
      simpa [plAt, List.getD, hi] using this
  obtain ⟨k, hk, e⟩ := gr_at hin
  exact ⟨k, List.mem_range.2 (by omega), e⟩
end Go.Proofs.Ytkoimmeghdbodaa.Pure
namespace Go.Proofs.Ytkoimmeghdbodaa.Print
open Go.RowKit Go.Proofs.YtkoimmeghdbodaaW.PrintWords Go.Proofs.YtkoimmeghdbodaaW.PrintLast Go.Proofs.YtkoimmeghdbodaaW.PrintMore
attribute [local go_sem] max2_int min2_int max_two min_two max_three min_three max_four min_four   -- for this text's walks alone
set_option linter.unusedVariables false
set_option linter.unusedSimpArgs false
def laws_markPlaceS.l0 : Nat → List (S37) → Int → Int → Option (Int × (List (S37)))
 | 0, _, _, _ => none
 | k + 1, x0, x1, x5 => if x5 < (x0.length : Int) then (if 0 ≤ x5 then ((some (x0.set (x5 : Int).toNat (⟨x1, (rd_T37 x0 x5).f1⟩ : S37) : List (S37))).bind fun y363 => (laws_markPlaceS.l0 k (y363.set (x5 : Int).toNat (⟨(rd_T37 y363 x5).f0, wrap64 (x1 + 1)⟩ : S37)) (wrap64 ((wrap64 (x1 + 1)) + 1)) (wrap64 (x5 + 1)))) else (none)) else (some (x1, x0))
def laws_markPlaceS.f (k : Nat) (l0 : List (S37)) (a1 : Int) : Option (Int × (List (S37))) := laws_markPlaceS.l0 k l0 a1 0
set_option maxHeartbeats 8000000 in
set_option maxRecDepth 100000 in
theorem laws_markPlaceS.calls (k : Nat) (P0_ : Nat → Prop) (u9000_ : Value) (l0 : List (S37)) (a1 : Int) (r1 : Int) (r2 : List (S37)) (w0 w : World) (hB : Below w0.heap.size w0 w) (ho0 : Kd.R k37 37 w w0.heap.size P0_ u9000_ l0) (h : laws_markPlaceS.f k l0 a1 = some (r1, r2)) :
  Calls Try.prog 32 #[u9000_, .int .i64 a1] w fun e w' => e = .returned (.int .i64 r1) ∧ Kd.R k37 37 w' w0.heap.size (fun k_ => (P0_ k_ ∨ w.heap.size ≤ k_)) u9000_ r2 ∧ Below w0.heap.size w0 w' ∧ Kept w w' (fun k_ => P0_ k_) := by
 have HO0 := Az.mk (show Kd.R k37 37 w w0.heap.size (fun k_ => (P0_ k_ ∨ w.heap.size ≤ k_)) u9000_ l0 from Kd.R_mono ho0 (fun k_ hk => (.inl hk)))
 have HK := Az.mk (Kept.refl w (fun k_ => P0_ k_))
 have HW0 := Az.mk hB.size
 have HB := Az.mk hB
 clear hB
 have H : (laws_markPlaceS.l0 k l0 a1 0) = some (r1, r2) := h
 clear h
 have H' := Az.mk H
 clear H
 go_enter Try.func32, Try.ntmps32
 go_wp2
 go_loopg [1, 5] k (fun kq v1 v5 w' => ∃ (x0_1 : List (S37)) (x1_1 : Int) (x5_1 : Int), v1 = .int .i64 x1_1 ∧ v5 = .int .i64 x5_1 ∧ Az (laws_markPlaceS.l0 kq x0_1 x1_1 x5_1 = some (r1, r2)) ∧ Az (kq ≤ k) ∧ Az (Kd.R k37 37 w' w0.heap.size (fun k_ => (P0_ k_ ∨ w.heap.size ≤ k_)) u9000_ x0_1) ∧ Az (Kept w w' (fun k_ => P0_ k_)) ∧ Az (Below w0.heap.size w0 w'))
 case atStart => exact ⟨(l0), (a1), (0), (by first | rfl | (simp; done) | (simp [*]; done)), (by first | rfl | (simp; done) | (simp [*]; done)), H', ⟨Nat.le_refl _⟩, ⟨by (with_reducible repeat (first | apply Kd.R_alloc | apply Kd.R_drewN | apply Kd.R_drew)); exact HO0.out⟩, ⟨by repeat (first | (with_reducible first | exact HK.out | apply Kept.alloc | apply Kept.drewN | apply Kept.drew) | exact HK.out)⟩, ⟨by repeat (first | (with_reducible first | exact HB.out | apply zq2 | apply zq1 | apply zqd) | exact HB.out)⟩⟩
 case round =>
  clear H'
  try clear p2
  obtain ⟨x0_1, x1_1, x5_1, rfl, rfl, HA, HK1, HO_0, HK, HB⟩ := hrel
  cases gk with
  | zero => exact absurd HA.out (by simp [laws_markPlaceS.l0])
  | succ k1 =>
   have H := HA.out
   clear HA
   simp only [laws_markPlaceS.l0] at H
   by_cases c3 : x5_1 < (x0_1.length : Int)
   ·rw [if_pos c3] at H
    have c3b0 : decide (x5_1 < (x0_1.length : Int)) = true := decide_eq_true c3
    clear c3
    by_cases c4 : 0 ≤ x5_1
    ·rw [if_pos c4] at H
     have c4b0 : decide (0 ≤ x5_1) = true := decide_eq_true c4
     clear c4
     obtain ⟨y363, hy363⟩ : ∃ y_ : List (S37), y_ = (x0_1.set (x5_1 : Int).toNat (⟨x1_1, (rd_T37 x0_1 x5_1).f1⟩ : S37)) := ⟨_, rfl⟩
     replace H : (laws_markPlaceS.l0 k1 (y363.set (x5_1 : Int).toNat (⟨(rd_T37 y363 x5_1).f0, wrap64 (x1_1 + 1)⟩ : S37)) (wrap64 ((wrap64 (x1_1 + 1)) + 1)) (wrap64 (x5_1 + 1))) = some (r1, r2) := by first | (rw [hy363]; with_reducible exact H) | (have H2_ := (Option.bind_some _ _).symm.trans H; rw [hy363]; with_reducible exact H2_) | (have H2_ := (Option.bind_some _ _).symm.trans H; with_reducible exact H2_) | with_reducible exact H | (rw [hy363]; exact H) | exact H
     have Ny363 := Az.mk hy363
     clear hy363
     obtain ⟨y364, hy364⟩ : ∃ y_ : List (S37), y_ = (y363.set (x5_1 : Int).toNat (⟨(rd_T37 y363 x5_1).f0, wrap64 (x1_1 + 1)⟩ : S37)) := ⟨_, rfl⟩
     replace H : (laws_markPlaceS.l0 k1 y364 (wrap64 ((wrap64 (x1_1 + 1)) + 1)) (wrap64 (x5_1 + 1))) = some (r1, r2) := by first | (rw [hy364]; with_reducible exact H) | (have H2_ := (Option.bind_some _ _).symm.trans H; rw [hy364]; with_reducible exact H2_) | (have H2_ := (Option.bind_some _ _).symm.trans H; with_reducible exact H2_) | with_reducible exact H | (rw [hy364]; exact H) | exact H
     have Ny364 := Az.mk hy364
     clear hy364
     have H' := Az.mk H
     clear H
     obtain ⟨Ao7, co7, eo7⟩ := Kd.R_slice HO_0.out
     subst eo7
     have p5 : 0 ≤ (x5_1 : Int) := of_decide_eq_true (by first | (with_reducible assumption) | assumption)
     have q5 : (x5_1 : Int) < ((x0_1.length : Int) : Int) := of_decide_eq_true (by first | (with_reducible assumption) | assumption)
     obtain ⟨go5, co5, eo5, gb5, gl5, cl5, HG5⟩ := Kd.R_form HO_0.out (by omega)
     (first | cases eo5 | (injection eo5 with ea_ en_ ec_; (first | subst ea_ | (injection ea_ with ea_; subst ea_)); subst ec_; clear en_))
     have GB5 := Az.mk gb5
     have GG5 := Az.mk HG5
     clear gb5 gl5 HG5
     have HMgo5 := Az.mk (show (P0_ go5 ∨ w.heap.size ≤ go5) from (HO_0.out.1 _ rfl))
     obtain ⟨ce5, hcl5, hM5, hcc5, hfr5⟩ := Kd.R_elem HO_0.out z37 (x5_1 : Int) p5 q5
     obtain rfl := k37_openM hM5
     have hx5_0 : wr.cell? ⟨go5, (x5_1 : Int).toNat * 2, none⟩ = some (.int .i64 ((rd_T37 x0_1 x5_1).f0)) := hcc5 0 _ rfl
     have hx5_1 : wr.cell? ⟨go5, (x5_1 : Int).toNat * 2 + 1, none⟩ = some (.int .i64 ((rd_T37 x0_1 x5_1).f1)) := hcc5 1 _ rfl
     have hf5_0 : wr.frozen? ⟨go5, (x5_1 : Int).toNat * 2, none⟩ = false := hfr5 0
     have hf5_1 : wr.frozen? ⟨go5, (x5_1 : Int).toNat * 2 + 1, none⟩ = false := hfr5 1
     clear hcl5 hcc5 hfr5 hM5
     replace p5 := eq_true p5
     replace q5 := eq_true q5
     have HX8 := Az.mk (show Kd.R k37 37 wr w0.heap.size (fun k_ => (P0_ k_ ∨ w.heap.size ≤ k_)) (.slice (some ⟨go5, 0, none⟩) x0_1.length co7) x0_1 from (by (with_reducible repeat (first | apply Kd.R_alloc | apply Kd.R_drewN | apply Kd.R_drew)); exact HO_0.out))
     obtain ⟨ce8, hcl8, hM8, hcc8, hfr8⟩ := Kd.R_elem HX8.out z37 (x5_1 : Int) (of_decide_eq_true (by first | (with_reducible assumption) | assumption)) (by have h_ : (x5_1 : Int) < ((x0_1.length : Int) : Int) := of_decide_eq_true (by first | (with_reducible assumption) | assumption); first | exact h_ | (have e_ := (Kd.R_reads' HO_0.out).1; omega) | simpa using h_)
     obtain rfl := k37_openM hM8
     have HP8 := Kd.R_seg HX8.out (x5_1 : Int) (of_decide_eq_true (by first | (with_reducible assumption) | assumption)) (by have h_ : (x5_1 : Int) < ((x0_1.length : Int) : Int) := of_decide_eq_true (by first | (with_reducible assumption) | assumption); first | exact h_ | (have e_ := (Kd.R_reads' HO_0.out).1; omega) | simpa using h_) (seg := [.int .i64 x1_1]) (j := 0) hcl8 hcc8 (show 1 ≤ 2 from by decide) (x' := (⟨x1_1, (rd_T37 x0_1 x5_1).f1⟩ : S37)) (k37_mkM _ _ _ (⟨x1_1, (rd_T37 x0_1 x5_1).f1⟩ : S37) ) (fun _ hk => hk)
     have hx8_0 := hcc8 0 _ rfl
     (try simp only [show (k37).sz = 2 from rfl, Nat.mul_one, Nat.add_zero] at hx8_0)
     have hf8_0 := hfr8 0
     (try simp only [show (k37).sz = 2 from rfl, Nat.mul_one, Nat.add_zero] at hf8_0)
     clear hcl8 hcc8 hfr8 hM8
     go_wp2_with (first | ((with_reducible refine gate_store (t := 3) (p := 16) rfl ?_); refine store_event (t := 3) (p := 16) (v := ?vo_w9) (w1 := (wr.setCell ⟨go5, (x5_1 : Int).toNat * 2, none⟩ (.int .i64 x1_1))) ?hg ?ho ?hn ?hr ?_; (case ho => rfl); (case hg => rfl); (case hn => rfl); (case hr => first | (go_simp; done) | (go_simp; rfl)); intro w9 hw; have hg : wr.grownBy w9 (some go5) := (by rw [hw]; exact HP8.2); have hp_ : Kd.R k37 37 w9 w0.heap.size (fun k_ => (P0_ k_ ∨ w.heap.size ≤ k_)) (.slice (some ⟨go5, 0, none⟩) x0_1.length co7) y363 := (by rw [hw, Ny363.out]; exact HP8.1); clear HP8; have n0_ := Az.mk (hp_); have n1_ := Az.mk ((by rw [hw]; exact zq3 (HB.out) GB5.out : Below w0.heap.size w0 w9)); have n2_ := Az.mk (Kept.of_grown (S := (fun k_ => P0_ k_)) hg (by repeat (first | (with_reducible first | exact HK.out | apply Kept.alloc | apply Kept.drewN | apply Kept.drew) | exact HK.out)) (fun k_ e_ => (HO_0.out.1 k_ e_))); clear HO_0; clear HB; clear HK; have HO_0 := n0_; have HB := n1_; have HK := n2_; clear n0_ n1_ n2_; clear hg hw hp_; have p6 : 0 ≤ (x5_1 : Int) := of_decide_eq_true (by first | (with_reducible assumption) | assumption); have q6 : (x5_1 : Int) < ((x0_1.length : Int) : Int) := of_decide_eq_true (by first | (with_reducible assumption) | assumption); obtain ⟨ce6, hcl6, hM6, hcc6, hfr6⟩ := Kd.R_elem HO_0.out z37 (x5_1 : Int) p6 q6; obtain rfl := k37_openM hM6; have hx6_0 : w9.cell? ⟨go5, (x5_1 : Int).toNat * 2, none⟩ = some (.int .i64 ((rd_T37 y363 x5_1).f0)) := hcc6 0 _ rfl; have hx6_1 : w9.cell? ⟨go5, (x5_1 : Int).toNat * 2 + 1, none⟩ = some (.int .i64 ((rd_T37 y363 x5_1).f1)) := hcc6 1 _ rfl; have hf6_0 : w9.frozen? ⟨go5, (x5_1 : Int).toNat * 2, none⟩ = false := hfr6 0; have hf6_1 : w9.frozen? ⟨go5, (x5_1 : Int).toNat * 2 + 1, none⟩ = false := hfr6 1; clear hcl6 hcc6 hfr6 hM6; replace p6 := eq_true p6; replace q6 := eq_true q6; have HX10 := Az.mk (show Kd.R k37 37 w9 w0.heap.size (fun k_ => (P0_ k_ ∨ w.heap.size ≤ k_)) (.slice (some ⟨go5, 0, none⟩) x0_1.length co7) y363 from (by (with_reducible repeat (first | apply Kd.R_alloc | apply Kd.R_drewN | apply Kd.R_drew)); exact HO_0.out)); obtain ⟨ce10, hcl10, hM10, hcc10, hfr10⟩ := Kd.R_elem HX10.out z37 (x5_1 : Int) (of_decide_eq_true (by first | (with_reducible assumption) | assumption)) (by have h_ : (x5_1 : Int) < ((x0_1.length : Int) : Int) := of_decide_eq_true (by first | (with_reducible assumption) | assumption); first | exact h_ | (have e_ := (Kd.R_reads' HO_0.out).1; omega) | simpa using h_); obtain rfl := k37_openM hM10; have HP10 := Kd.R_seg HX10.out (x5_1 : Int) (of_decide_eq_true (by first | (with_reducible assumption) | assumption)) (by have h_ : (x5_1 : Int) < ((x0_1.length : Int) : Int) := of_decide_eq_true (by first | (with_reducible assumption) | assumption); first | exact h_ | (have e_ := (Kd.R_reads' HO_0.out).1; omega) | simpa using h_) (seg := [.int .i64 (wrap64 (x1_1 + 1))]) (j := 1) hcl10 hcc10 (show 2 ≤ 2 from by decide) (x' := (⟨(rd_T37 y363 x5_1).f0, wrap64 (x1_1 + 1)⟩ : S37)) (k37_mkM _ _ _ (⟨(rd_T37 y363 x5_1).f0, wrap64 (x1_1 + 1)⟩ : S37) ) (fun _ hk => hk); have hx10_1 := hcc10 1 _ rfl; (try simp only [show (k37).sz = 2 from rfl, Nat.mul_one, Nat.add_zero] at hx10_1); have hf10_1 := hfr10 1; (try simp only [show (k37).sz = 2 from rfl, Nat.mul_one, Nat.add_zero] at hf10_1); clear hcl10 hcc10 hfr10 hM10) | ((with_reducible refine gate_store (t := 3) (p := 23) rfl ?_); refine store_event (t := 3) (p := 23) (v := ?vo_w11) (w1 := (w9.setCell ⟨go5, (x5_1 : Int).toNat * 2 + 1, none⟩ (.int .i64 (wrap64 (x1_1 + 1))))) ?hg ?ho ?hn ?hr ?_; (case ho => rfl); (case hg => rfl); (case hn => rfl); (case hr => first | (go_simp; done) | (go_simp; rfl)); intro w11 hw; have hg : w9.grownBy w11 (some go5) := (by rw [hw]; exact HP10.2); have hp_ : Kd.R k37 37 w11 w0.heap.size (fun k_ => (P0_ k_ ∨ w.heap.size ≤ k_)) (.slice (some ⟨go5, 0, none⟩) x0_1.length co7) y364 := (by rw [hw, Ny364.out]; exact HP10.1); clear HP10; have n0_ := Az.mk (hp_); have n1_ := Az.mk ((by rw [hw]; exact zq3 (HB.out) GB5.out : Below w0.heap.size w0 w11)); have n2_ := Az.mk (Kept.of_grown (S := (fun k_ => P0_ k_)) hg (by repeat (first | (with_reducible first | exact HK.out | apply Kept.alloc | apply Kept.drewN | apply Kept.drew) | exact HK.out)) (fun k_ e_ => (HO_0.out.1 k_ e_))); clear HO_0; clear HB; clear HK; have HO_0 := n0_; have HB := n1_; have HK := n2_; clear n0_ n1_ n2_; clear hg hw hp_))
     go_roundg k1
     case measure => have := HK1.out; omega
     case rel => exact ⟨(y364), (wrap64 ((wrap64 (x1_1 + 1)) + 1)), (wrap64 (x5_1 + 1)), (by first | rfl | (simp; done) | (simp [*]; done)), (by first | rfl | (simp; done) | (simp [*]; done)), H', ⟨by have := HK1.out; omega⟩, ⟨by (with_reducible repeat (first | apply Kd.R_alloc | apply Kd.R_drewN | apply Kd.R_drew)); exact HO_0.out⟩, ⟨by repeat (first | (with_reducible first | exact HK.out | apply Kept.alloc | apply Kept.drewN | apply Kept.drew) | exact HK.out)⟩, ⟨by repeat (first | (with_reducible first | exact HB.out | apply zq2 | apply zq1 | apply zqd) | exact HB.out)⟩⟩
    ·rw [if_neg c4] at H
     exact absurd H (by simp)
   ·rw [if_neg c3] at H
    have c3b0 : decide (x5_1 < (x0_1.length : Int)) = false := decide_eq_false c3
    clear c3
    simp only [Option.some.injEq, Prod.mk.injEq] at H
    obtain ⟨rfl, rfl⟩ := H
    obtain ⟨Ao12, co12, eo12⟩ := Kd.R_slice HO_0.out
    subst eo12
    go_wp2
    go_ret
    exact ⟨by first | rfl | (simp [errW_none, errW_some] <;> rfl) | (simp [*, errW_none, errW_some] <;> rfl), by (with_reducible repeat (first | apply Kd.R_alloc | apply Kd.R_drewN | apply Kd.R_drew)); exact HO_0.out, by repeat (first | (with_reducible first | exact HB.out | apply zq2 | apply zq1 | apply zqd) | exact HB.out), by repeat (first | (with_reducible first | exact HK.out | apply Kept.alloc | apply Kept.drewN | apply Kept.drew) | exact HK.out)⟩
end Go.Proofs.Ytkoimmeghdbodaa.Print
namespace Go.Proofs.Ytkoimmeghdbodaa.Print
open Go.RowKit Go.Proofs.YtkoimmeghdbodaaW.PrintWords Go.Proofs.YtkoimmeghdbodaaW.PrintLast Go.Proofs.YtkoimmeghdbodaaW.PrintMore
attribute [local go_sem] max2_int min2_int max_two min_two max_three min_three max_four min_four   -- for this text's walks alone
set_option linter.unusedVariables false
set_option linter.unusedSimpArgs false
def laws_heldPlaceS.l0 : Nat → List (S37) → Int → Int → Option (Int)
 | 0, _, _, _ => none
 | k + 1, x0, x1, x5 => if x5 < (x0.length : Int) then (if 0 ≤ x5 then (if ((rd_T37 x0 x5).f0) = x1 then (if ((rd_T37 x0 x5).f1) = (wrap64 (x1 + 1)) then (laws_heldPlaceS.l0 k x0 (wrap64 ((wrap64 (x1 + 1)) + 1)) (wrap64 (x5 + 1))) else (some (-1))) else (some (-1))) else (none)) else (some x1)
def laws_heldPlaceS.f (k : Nat) (l0 : List (S37)) (a1 : Int) : Option (Int) := laws_heldPlaceS.l0 k l0 a1 0
set_option maxHeartbeats 8000000 in
set_option maxRecDepth 100000 in
theorem laws_heldPlaceS.calls (k : Nat) (A0 : Option Addr) (c0 : Nat) (l0 : List (S37)) (a1 : Int) (r : Int) (w : World) (hr0 : Kd.C k37 w A0 l0.length l0) (hc0 : l0.length ≤ c0) (h : laws_heldPlaceS.f k l0 a1 = some r) :
  Calls Try.prog 46 #[.slice A0 l0.length c0, .int .i64 a1] w fun e w' => e = .returned (.int .i64 r) ∧ Drawn0 w w' := by
 have HR0 := Az.mk hr0
 have HC0 := Az.mk hc0
 clear hr0 hc0
 have H : (laws_heldPlaceS.l0 k l0 a1 0) = some r := h
 clear h
 have H' := Az.mk H
 clear H
 go_enter Try.func46, Try.ntmps46
 go_wp2
 go_loopg [1, 5] k (fun kq v1 v5 w' => ∃ (x1_1 : Int) (x5_1 : Int), v1 = .int .i64 x1_1 ∧ v5 = .int .i64 x5_1 ∧ Az (laws_heldPlaceS.l0 kq l0 x1_1 x5_1 = some r) ∧ Az (kq ≤ k) ∧ Drawn0 w w')
 case atStart => exact ⟨(a1), (0), (by first | rfl | (simp; done) | (simp [*]; done)), (by first | rfl | (simp; done) | (simp [*]; done)), H', ⟨Nat.le_refl _⟩, by repeat (first | exact Drawn0.refl _ | apply Drawn0.step)⟩
 case round =>
  clear H'
  try clear p2
  obtain ⟨x1_1, x5_1, rfl, rfl, HA, HK1, ⟨m1, rfl⟩⟩ := hrel
  cases gk with
  | zero => exact absurd HA.out (by simp [laws_heldPlaceS.l0])
  | succ k1 =>
   have H := HA.out
   clear HA
   simp only [laws_heldPlaceS.l0] at H
   by_cases c3 : x5_1 < (l0.length : Int)
   ·rw [if_pos c3] at H
    have c3b0 : decide (x5_1 < (l0.length : Int)) = true := decide_eq_true c3
    clear c3
    by_cases c4 : 0 ≤ x5_1
    ·rw [if_pos c4] at H
     have c4b0 : decide (0 ≤ x5_1) = true := decide_eq_true c4
     clear c4
     by_cases c5 : ((rd_T37 l0 x5_1).f0) = x1_1
     ·rw [if_pos c5] at H
      have c5b0 : (((rd_T37 l0 x5_1).f0) == x1_1) = true := beq_iff_eq.mpr c5
      have c5b1 : (((rd_T37 l0 x5_1).f0) != x1_1) = false := bne_eq_false_iff_eq.mpr c5
      clear c5
      by_cases c6 : ((rd_T37 l0 x5_1).f1) = (wrap64 (x1_1 + 1))
      ·rw [if_pos c6] at H
       have c6b0 : (((rd_T37 l0 x5_1).f1) == (wrap64 (x1_1 + 1))) = true := beq_iff_eq.mpr c6
       have c6b1 : (((rd_T37 l0 x5_1).f1) != (wrap64 (x1_1 + 1))) = false := bne_eq_false_iff_eq.mpr c6
       clear c6
       have H' := Az.mk H
       clear H
       have p368 : 0 ≤ (x5_1 : Int) := of_decide_eq_true (by first | (with_reducible assumption) | assumption)
       have q368 : x5_1 < (l0.length : Int) := of_decide_eq_true (by first | (with_reducible assumption) | assumption)
       obtain ⟨ad368, e368, hx368_0, hx368_1⟩ := at_T37 HR0.out x5_1 p368 q368
       cases e368
       replace p368 := eq_true p368
       replace q368 := eq_true q368
       have p369 : 0 ≤ (x5_1 : Int) := of_decide_eq_true (by first | (with_reducible assumption) | assumption)
       have q369 : x5_1 < (l0.length : Int) := of_decide_eq_true (by first | (with_reducible assumption) | assumption)
       obtain ⟨ad369, e369, hx369_0, hx369_1⟩ := at_T37 HR0.out x5_1 p369 q369
       obtain rfl : ad368 = ad369 := (by injection e369)
       replace p369 := eq_true p369
       replace q369 := eq_true q369
       go_wp2
       go_roundg k1
       case measure => have := HK1.out; omega
       case rel => exact ⟨(wrap64 ((wrap64 (x1_1 + 1)) + 1)), (wrap64 (x5_1 + 1)), (by first | rfl | (simp; done) | (simp [*]; done)), (by first | rfl | (simp; done) | (simp [*]; done)), H', ⟨by have := HK1.out; omega⟩, by repeat (first | exact Drawn0.refl _ | apply Drawn0.step)⟩
      ·rw [if_neg c6] at H
       have c6b0 : (((rd_T37 l0 x5_1).f1) == (wrap64 (x1_1 + 1))) = false := beq_eq_false_iff_ne.mpr c6
       have c6b1 : (((rd_T37 l0 x5_1).f1) != (wrap64 (x1_1 + 1))) = true := bne_iff_ne.mpr c6
       obtain rfl := Option.some.inj H
       have p368 : 0 ≤ (x5_1 : Int) := of_decide_eq_true (by first | (with_reducible assumption) | assumption)
       have q368 : x5_1 < (l0.length : Int) := of_decide_eq_true (by first | (with_reducible assumption) | assumption)
       obtain ⟨ad368, e368, hx368_0, hx368_1⟩ := at_T37 HR0.out x5_1 p368 q368
       cases e368
       replace p368 := eq_true p368
       replace q368 := eq_true q368
       have p369 : 0 ≤ (x5_1 : Int) := of_decide_eq_true (by first | (with_reducible assumption) | assumption)
       have q369 : x5_1 < (l0.length : Int) := of_decide_eq_true (by first | (with_reducible assumption) | assumption)
       obtain ⟨ad369, e369, hx369_0, hx369_1⟩ := at_T37 HR0.out x5_1 p369 q369
       obtain rfl : ad368 = ad369 := (by injection e369)
       replace p369 := eq_true p369
       replace q369 := eq_true q369
       go_wp2
       go_ret
       exact ⟨by first | rfl | (simp; done) | (simp [*]; done), by repeat (first | exact Drawn0.refl _ | apply Drawn0.step)⟩
     ·rw [if_neg c5] at H
      have c5b0 : (((rd_T37 l0 x5_1).f0) == x1_1) = false := beq_eq_false_iff_ne.mpr c5
      have c5b1 : (((rd_T37 l0 x5_1).f0) != x1_1) = true := bne_iff_ne.mpr c5
      obtain rfl := Option.some.inj H
      have p368 : 0 ≤ (x5_1 : Int) := of_decide_eq_true (by first | (with_reducible assumption) | assumption)
      have q368 : x5_1 < (l0.length : Int) := of_decide_eq_true (by first | (with_reducible assumption) | assumption)
      obtain ⟨ad368, e368, hx368_0, hx368_1⟩ := at_T37 HR0.out x5_1 p368 q368
      cases e368
      replace p368 := eq_true p368
      replace q368 := eq_true q368
      go_wp2
      go_ret
      exact ⟨by first | rfl | (simp; done) | (simp [*]; done), by repeat (first | exact Drawn0.refl _ | apply Drawn0.step)⟩
    ·rw [if_neg c4] at H
     exact absurd H (by simp)
   ·rw [if_neg c3] at H
    have c3b0 : decide (x5_1 < (l0.length : Int)) = false := decide_eq_false c3
    clear c3
    obtain rfl := Option.some.inj H
    go_wp2
    go_ret
    exact ⟨by first | rfl | (simp; done) | (simp [*]; done), by repeat (first | exact Drawn0.refl _ | apply Drawn0.step)⟩
end Go.Proofs.Ytkoimmeghdbodaa.Print
namespace Go.Proofs.Ytkoimmeghdbodaa.Pure
open Go.RowKit Go.Proofs.Ytkoimmeghdbodaa.Print Go.Proofs.YtkoimmeghdbodaaW.PrintWords
def mkd (l : List S37) (i : Nat) : List S37 := (List.range i).map (fun (j : Nat) => (⟨2 * (j : Int) + 1, 2 * (j : Int) + 2⟩ : S37)) ++ l.drop i
theorem mkd_length (l : List S37) (i : Nat) (h : i ≤ l.length) : (mkd l i).length = l.length := by simp [mkd]; omega
theorem mkd_set (l : List S37) (i : Nat) (h : i < l.length) : (mkd l i).set i (⟨2 * (i : Int) + 1, 2 * (i : Int) + 2⟩ : S37) = mkd l (i + 1) := by
  have hl : ((List.range i).map (fun (j : Nat) => (⟨2 * (j : Int) + 1, 2 * (j : Int) + 2⟩ : S37))).length = i := by simp
  unfold mkd
  rw [List.set_append_right _ _ (by omega), hl, Nat.sub_self, List.drop_eq_getElem_cons h, List.set_cons_zero, List.range_succ]
  simp
theorem mkd_at (l : List S37) (i : Nat) (h : i < l.length) : plAt (mkd l l.length) i = (⟨2 * (i : Int) + 1, 2 * (i : Int) + 2⟩ : S37) := by
  simp [mkd, plAt, List.getD, h]
theorem markPlaceS_l0 (l : List S37) (hl : l.length ≤ 1048576) (d : Nat) : ∀ i : Nat, i + d = l.length →
    Ev (fun k => laws_markPlaceS.l0 k (mkd l i) (2 * (i : Int) + 1) (i : Int)) (2 * (l.length : Int) + 1, mkd l l.length) := by
  induction d with
  | zero =>
    intro i hi
    have hil : i = l.length := by omega
    subst hil
    have hz := mkd_length l l.length (Nat.le_refl _)
    refine Ev.next ?_
    simp only [laws_markPlaceS.l0]
    exact Ev.neg (by omega) (Ev.ret rfl)
  | succ d ih =>
    intro i hi
    have hz := mkd_length l i (by omega)
    have e : wrap64 ((i : Int) + 1) = ((i + 1 : Nat) : Int) := by rw [wrap_ok (by omega)]; omega
    have e1 : wrap64 (2 * (i : Int) + 1 + 1) = 2 * (i : Int) + 2 := by rw [wrap_ok (by omega)]; omega
    have e2 : wrap64 (2 * (i : Int) + 2 + 1) = 2 * ((i + 1 : Nat) : Int) + 1 := by rw [wrap_ok (by omega)]; omega
    have hih := ih (i + 1) (by omega)
    rw [← mkd_set l i (by omega)] at hih
    refine Ev.next ?_
    simp only [laws_markPlaceS.l0, e, e1, e2, rd37_nat, Int.toNat_natCast]
    clear e e1 e2
    refine Ev.pos (by omega) (Ev.pos (by omega) (Ev.take rfl ?_))
    have hat : plAt ((mkd l i).set i (⟨2 * (i : Int) + 1, (plAt (mkd l i) i).f1⟩ : S37)) i = (⟨2 * (i : Int) + 1, (plAt (mkd l i) i).f1⟩ : S37) := by
      unfold plAt
      rw [List.getD, List.getElem?_set_self (by omega)]
      rfl
    rw [hat, List.set_set]
    exact hih
theorem markPlaceS_ev (l : List S37) (hl : l.length ≤ 1048576) : Ev (fun k => laws_markPlaceS.f k l 1) (2 * (l.length : Int) + 1, mkd l l.length) := by
  have h := markPlaceS_l0 l hl l.length 0 (Nat.zero_add _)
  simp only [mkd, List.range_zero, List.map_nil, List.nil_append, List.drop_zero] at h
  exact h
theorem heldPlaceS_l0 (l : List S37) (hl : l.length ≤ 1048576) (d : Nat) : ∀ i : Nat, i + d = l.length →
    Ev (fun k => laws_heldPlaceS.l0 k (mkd l l.length) (2 * (i : Int) + 1) (i : Int)) (2 * (l.length : Int) + 1) := by
  have hz := mkd_length l l.length (Nat.le_refl _)
  induction d with
  | zero =>
    intro i hi
    have hil : i = l.length := by omega
    subst hil
    refine Ev.next ?_
    simp only [laws_heldPlaceS.l0]
    exact Ev.neg (by omega) (Ev.ret rfl)
  | succ d ih =>
    intro i hi
    have e : wrap64 ((i : Int) + 1) = ((i + 1 : Nat) : Int) := by rw [wrap_ok (by omega)]; omega
    have e1 : wrap64 (2 * (i : Int) + 1 + 1) = 2 * (i : Int) + 2 := by rw [wrap_ok (by omega)]; omega
    have e2 : wrap64 (2 * (i : Int) + 2 + 1) = 2 * ((i + 1 : Nat) : Int) + 1 := by rw [wrap_ok (by omega)]; omega
    have hih := ih (i + 1) (by omega)
    refine Ev.next ?_
    simp only [laws_heldPlaceS.l0, e, e1, e2, rd37_nat, mkd_at l i (by omega)]
    clear e e1 e2
    exact Ev.pos (by omega) (Ev.pos (by omega) (Ev.pos trivial (Ev.pos trivial hih)))
theorem heldPlaceS_ev (l : List S37) (hl : l.length ≤ 1048576) : Ev (fun k => laws_heldPlaceS.f k (mkd l l.length) 1) (2 * (l.length : Int) + 1) := by
  have h := heldPlaceS_l0 l hl l.length 0 (Nat.zero_add _)
  exact h
end Go.Proofs.Ytkoimmeghdbodaa.Pure
