/- Proved: the reader of a code picks a number below n, and draws a text that is no longer than asked. Conditions: the code's bytes are bytes; the reader is near its begin. -/
import Derived.Test.YtoelfgkigbfieaaDoorTText
import Derived.Test.YtoelfgkigbfieaaDoorPrint10
namespace Go.Proofs.YtoelfgkigbfieaaDoor.Pure
open Go.RowKit Go.Proofs.YtoelfgkigbfieaaDoor.Print Go.Proofs.YtoelfgkigbfieaaDoorW.PrintWords Go.Proofs.YtoelfgkigbfieaaDoorW.PrintLast
set_option linter.unusedSimpArgs false

/-- A code: bytes, not too many. -/
structure Code (b : List Int) : Prop where
  byte : ∀ x ∈ b, 0 ≤ x ∧ x < 256
  len : b.length ≤ 2000

theorem tmod_bd {x n : Int} (hx : 0 ≤ x) (hn : 0 < n) : 0 ≤ Int.tmod x n ∧ Int.tmod x n < n :=
  ⟨Int.tmod_nonneg n hx, Int.tmod_lt_of_pos x hn⟩

theorem pick_ev {b : List Int} (hb : Code b) (p n : Int) (hp : 0 ≤ p ∧ p ≤ 1099511627776) (hn : n ≤ 1099511627776) :
    ∃ r, Ev (fun k => spec_l6Rd_pick.f k b p n) (r, p + 1) ∧ 0 ≤ r ∧ (1 ≤ n → r < n) ∧ (n < 1 → r = 0) := by
  have e1 : wrap64 (p + 1) = p + 1 := wrap_ok (by omega)
  have e2 : wrap64 (p + 1 - 1) = p := by rw [wrap_ok (by omega)]; omega
  unfold spec_l6Rd_pick.f
  simp only [e1]
  by_cases h1 : n < 1
  · refine ⟨0, Ev.pos h1 (Ev.next ?_), by omega, by omega, by omega⟩
    simp only [spec_l6Rd_pick.j0]
    exact Ev.pos trivial (Ev.ret rfl)
  · by_cases h0 : (b.length : Int) = 0
    · refine ⟨0, Ev.neg h1 (Ev.next ?_), by omega, by omega, by omega⟩
      simp only [spec_l6Rd_pick.j0]
      exact Ev.pos (by simpa using h0) (Ev.ret rfl)
    · have h0' : ¬ (((b.length : Int) == 0) = true) := by simpa using h0
      have hl : 0 < (b.length : Int) := by omega
      by_cases h2 : p < (b.length : Int)
      · have hr := rd_bd b hb.byte p
        have e3 : wrap64 (rd b p) = rd b p := wrap_ok (by omega)
        have hm := tmod_bd hr.1 (show 0 < n by omega)
        refine ⟨Int.tmod (rd b p) n, Ev.neg h1 (Ev.next ?_), hm.1, fun _ => hm.2, by omega⟩
        simp only [spec_l6Rd_pick.j0, e2, e3]
        exact Ev.neg h0' (Ev.pos h2 (Ev.pos hp.1 (Ev.neg (by omega) (Ev.ret rfl))))
      · have hm1 := tmod_bd hp.1 hl
        have e3 : wrap64 (p * 7) = p * 7 := wrap_ok (by omega)
        have e4 : wrap64 (p * 7 + 3) = p * 7 + 3 := wrap_ok (by omega)
        have hm2 := tmod_bd (x := p * 7 + 3) (by omega) hl
        have hr1 := rd_bd b hb.byte (Int.tmod p (b.length : Int))
        have hr2 := rd_bd b hb.byte (Int.tmod (p * 7 + 3) (b.length : Int))
        generalize hg1 : rd b (Int.tmod p (b.length : Int)) = r1 at hr1
        generalize hg2 : rd b (Int.tmod (p * 7 + 3) (b.length : Int)) = r2 at hr2
        have hd : 0 ≤ Int.tdiv p (b.length : Int) ∧ Int.tdiv p (b.length : Int) ≤ p := by
          rw [Int.tdiv_eq_ediv_of_nonneg hp.1]
          exact ⟨Int.ediv_nonneg hp.1 (by omega), Int.ediv_le_self _ hp.1⟩
        generalize hg3 : Int.tdiv p (b.length : Int) = dd at hd
        have e5 : wrap64 r1 = r1 := wrap_ok (by omega)
        have e6 : wrap64 r2 = r2 := wrap_ok (by omega)
        have e7 : wrap64 (r1 * 131) = r1 * 131 := wrap_ok (by omega)
        have e8 : wrap64 (r2 * 1117) = r2 * 1117 := wrap_ok (by omega)
        have e9 : wrap64 (r1 * 131 + r2 * 1117) = r1 * 131 + r2 * 1117 := wrap_ok (by omega)
        have e10 : wrap64 (p * 29) = p * 29 := wrap_ok (by omega)
        have e11 : wrap64 (r1 * 131 + r2 * 1117 + p * 29) = r1 * 131 + r2 * 1117 + p * 29 := wrap_ok (by omega)
        have e12 : wrap64 dd = dd := wrap_ok (by omega)
        have e13 : wrap64 (dd * 53) = dd * 53 := wrap_ok (by omega)
        obtain ⟨X, hX⟩ : ∃ X, X = r1 * 131 + r2 * 1117 + p * 29 + dd * 53 := ⟨_, rfl⟩
        have hXb : 0 ≤ X ∧ X < 4611686018427387904 := by omega
        have e14 : wrap64 X = X := wrap_ok (by omega)
        have hdX : 0 ≤ Int.tdiv X 64 ∧ Int.tdiv X 64 < 4611686018427387904 := by
          rw [Int.tdiv_eq_ediv_of_nonneg hXb.1]
          omega
        have e15 : wrap64 (Int.tdiv X 64) = Int.tdiv X 64 := wrap_ok (by omega)
        have hx := xor64_bd X (Int.tdiv X 64) hXb hdX
        have hm := tmod_bd hx.1 (show 0 < n by omega)
        refine ⟨Int.tmod (Go.bits .xor .i64 X (Int.tdiv X 64)) n, Ev.neg h1 (Ev.next ?_), hm.1, fun _ => hm.2, by omega⟩
        simp only [spec_l6Rd_pick.j0, e2, e3, e4, hg1, hg2, hg3, e5, e6, e7, e8, e9, e10, e11, e12, e13, ← hX, e14, e15]
        exact Ev.neg h0' (Ev.neg h2 (Ev.neg h0 (Ev.pos hm1.1 (Ev.pos hm1.2 (Ev.pos hm2.1 (Ev.pos hm2.2 (Ev.neg (by omega) (Ev.ret rfl))))))))

theorem open_ev (l : List Int) (h : ∀ x ∈ l, (Lit.int .u8 x).wf = true) : ∃ b, spec_l6Open.f l = some (b, 0) ∧ Code b := by
  have hb := wf_u8 h
  unfold spec_l6Open.f
  by_cases h1 : (l.length : Int) > 2000
  · rw [if_pos h1, if_pos (by omega)]
    exact ⟨_, rfl, fun x hx => hb x (List.mem_of_mem_take hx), by rw [List.length_take]; omega⟩
  · rw [if_neg h1]
    exact ⟨_, rfl, hb, by omega⟩

theorem text_l0_ev {b : List Int} (hb : Code b) (d : Nat) : ∀ (xs : List Int) (p : Int), xs.length + d ≤ 100 → 0 ≤ p → p + 2 * d ≤ 1099511627776 →
    ∃ (t : ByteArray) (q : Int), Ev (fun k => spec_l71Text.l0 k xs (d : Int) b p) (t, q) ∧ t.size = xs.length + d ∧ p ≤ q ∧ q ≤ p + 2 * d := by
  induction d with
  | zero =>
    intro xs p _ _ _
    refine ⟨strOfNums xs, p, Ev.next ?_, by rw [strOfNums_size]; omega, by omega, by omega⟩
    simp only [spec_l71Text.l0]
    exact Ev.neg (by simp) (Ev.ret rfl)
  | succ d ih =>
    intro xs p hx hp hp2
    obtain ⟨r1, h1, h1a, h1b, _⟩ := pick_ev hb p 6 (by omega) (by omega)
    obtain ⟨r2, h2, h2a, h2b, _⟩ := pick_ev hb (p + 1) 3 (by omega) (by omega)
    obtain ⟨t, q, h3, h4, h5, h6⟩ := ih (xs ++ [(rd [97, 98, 122, 0, 255, 128] r1 + r2 % 256) % 256]) (p + 1 + 1) (by simp; omega) (by omega) (by omega)
    have e : wrap64 (((d + 1 : Nat) : Int) - 1) = (d : Int) := by rw [wrap_ok (by omega)]; omega
    refine ⟨t, q, Ev.next ?_, by rw [h4]; simp; omega, by omega, by omega⟩
    simp only [spec_l71Text.l0, e]
    refine Ev.pos (by omega) (Ev.take rfl (Ev.bind h1 ?_))
    refine Ev.pos h1a (Ev.pos (by simp; omega) (Ev.bind h2 ?_))
    exact Ev.pos (by omega) h3

theorem text_ev {b : List Int} (hb : Code b) (p most : Int) (hp : 0 ≤ p ∧ p ≤ 1000000000) (hm : 0 ≤ most ∧ most ≤ 50) :
    ∃ (t : ByteArray) (q : Int), Ev (fun k => spec_l71Text.f k b p most) (t, q) ∧ (t.size : Int) ≤ most ∧ p ≤ q ∧ q ≤ p + 2 * most + 1 := by
  have e : wrap64 (most + 1) = most + 1 := wrap_ok (by omega)
  obtain ⟨r, h1, h1a, h1b, _⟩ := pick_ev hb p (most + 1) (by omega) (by omega)
  have h1b := h1b (by omega)
  obtain ⟨m, rfl⟩ := Int.eq_ofNat_of_zero_le h1a
  obtain ⟨t, q, h3, h4, h5, h6⟩ := text_l0_ev hb m [] (p + 1) (by simp; omega) (by omega) (by omega)
  simp only [List.length_nil, Nat.zero_add] at h4
  refine ⟨t, q, ?_, by omega, by omega, by omega⟩
  unfold spec_l71Text.f
  simp only [e]
  exact Ev.bind h1 h3
end Go.Proofs.YtoelfgkigbfieaaDoor.Pure
