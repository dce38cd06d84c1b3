/- Proved: (*impl.Model).block finds a block of a volume by its name. Conditions: each volume has three blocks. -/
import Derived.Test.YtmfehjkcefpeoaaExModelOk
namespace Go.Proofs.Ytmfehjkcefpeoaa.Print
open Go.RowKit Go.Maps Go.WideMaps Go.Proofs.YtmfehjkcefpeoaaW.PrintWords Go.Proofs.YtmfehjkcefpeoaaW.PrintLast Go.Proofs.YtmfehjkcefpeoaaW.PrintMore
set_option linter.unusedVariables false
set_option linter.unusedSimpArgs false

/-! ### the index, asked -/
def lastN (l : List S39) (q : List UInt8) : Nat → Option Nat
  | 0 => none
  | n + 1 => if (l.getD n z39).f0.data.toList = q then some n else lastN l q n
theorem nameK_ne {l : List S39} {n : Nat} {q : List UInt8} (h : ¬ (l.getD n z39).f0.data.toList = q) : nameK l n ≠ .string q := fun e => h (by unfold nameK at e; exact Lit.string.inj e)
theorem nameK_eq {l : List S39} {n : Nat} {q : List UInt8} (h : (l.getD n z39).f0.data.toList = q) : nameK l n = .string q := congrArg Lit.string h
theorem isMap_idx (l : List S39) : ∀ n, Maps.Tidy (idxD l n)
  | 0 => Maps.tidy_empty
  | n + 1 => (isMap_idx l n).put (by exact trivial) _
theorem has_last (l : List S39) (q : List UInt8) : ∀ n, Maps.has (idxD l n) (.string q) = (lastN l q n).isSome
  | 0 => rfl
  | n + 1 => by
    rw [idxD, lastN]
    by_cases e : (l.getD n z39).f0.data.toList = q
    · rw [if_pos e, nameK_eq e, Maps.has_put_same (isMap_idx l n).isMap (by exact trivial)]
      rfl
    · rw [if_neg e, Maps.has_put_other (fun h => nameK_ne e h.symm), has_last l q n]
theorem at_last (l : List S39) (q : List UInt8) (z : DataW Unit) : ∀ (n k : Nat), lastN l q n = some k → (idxD l n).atKey (.string q) z = .lit (.int .i64 (k : Int))
  | 0, k, h => by cases h
  | n + 1, k, h => by
    rw [lastN] at h
    rw [idxD]
    by_cases e : (l.getD n z39).f0.data.toList = q
    · rw [if_pos e] at h
      obtain rfl : n = k := by simpa using h
      rw [nameK_eq e, Maps.atKey_put_same (isMap_idx l n).isMap (by exact trivial)]
    · rw [if_neg e] at h
      rw [Maps.atKey_put_other (fun h => nameK_ne e h.symm)]
      exact at_last l q z n k h
theorem last_lt (l : List S39) (q : List UInt8) : ∀ (n k : Nat), lastN l q n = some k → k < n
  | 0, k, h => by cases h
  | n + 1, k, h => by
    rw [lastN] at h
    by_cases e : (l.getD n z39).f0.data.toList = q
    · rw [if_pos e] at h
      have : n = k := by simpa using h
      omega
    · rw [if_neg e] at h
      have := last_lt l q n k h
      omega
/-- What is read: a text and a code. -/
def readD (l : List S39) (nm : ByteArray) (a : Int) : ByteArray × Int :=
  match lastN l nm.data.toList l.length with
  | none => ((⟨#[]⟩ : ByteArray), 2)
  | some k => if a < 0 ∨ a ≥ 3 then ((⟨#[]⟩ : ByteArray), 4) else (rdOf ByteArray.empty (l.getD k z39).f1 a, 0)

set_option maxHeartbeats 8000000 in
set_option maxRecDepth 100000 in
theorem block_calls (gm : Nat) (A0 : Option Addr) (c0 : Nat) (l0 : List S39) (nm : ByteArray) (a : Int) (w : World) (hm : w.cell? ⟨gm, 0, none⟩ = some (.slice A0 l0.length c0)) (hr0 : Kd.C k39 w A0 l0.length l0) (hc0 : l0.length ≤ c0) (hS : Short l0) (hn : nm.size ≤ maxLen) (h3 : ∀ x ∈ l0, x.f1.length = 3) :
    Calls Try.prog 26 #[.pointer (some ⟨gm, 0, none⟩), .string nm, .int .i64 a] w fun e w' => ∃ p, e = .returned (.tuple #[.pointer p, .int .i64 (readD l0 nm a).2]) ∧ ((readD l0 nm a).2 = 0 → ∃ ad, p = some ad ∧ w'.cell? ad = some (.string (readD l0 nm a).1)) ∧ Below w.heap.size w w' := by
  have hu29 := Try.underlying29
  have hu39 := Try.underlying39
  have HB := Aside0.mk (Below.refl w.heap.size w)
  have HIX := Aside0.mk (index_calls A0 c0 l0 w hr0 hc0 hS)
  have HKEY := Aside0.mk (keyOf_string_mk (P := Try.prog) (k := 9) (s := nm) Try.underlying9 hn)
  have HR0 := Aside0.mk hr0
  have HH := Aside0.mk (has_last l0 nm.data.toList l0.length)
  clear hr0 hc0 hS hn
  cases hlast : lastN l0 nm.data.toList l0.length with
  | none =>
    have hrd : readD l0 nm a = ((⟨#[]⟩ : ByteArray), 2) := by unfold readD; rw [hlast]
    rw [hlast] at HH
    have hhas : Maps.has (idxD l0 l0.length) (.string nm.data.toList) = false := HH.out
    have HRD := Aside0.mk hrd
    clear hrd h3 hlast
    go_enter Try.func26, Try.ntmps26
    go_wp2_with (first
      | (go_at_call 16; refine HIX.out.mono ?_; rintro e w9 ⟨b, rfl, hbm, hown, hb⟩; have HOW := Aside0.mk hown; have n0_ := Aside0.mk (below_step (by repeat (first | (with_reducible first | exact HB.out | apply below_alloc | apply pw_below_drewN | apply below_drew1) | exact HB.out)) hb); clear HB; have HB := n0_; clear n0_ hb hown hbm)
      | (at_lookup; refine wpList_lookup_own_ok_int _ rfl _ _ 43 rfl 9 3 .i64 mlaw Try.underlying43 Try.underlying3 (mzero _) b l0.length (idxD l0 l0.length) rfl HOW.out _ _ rfl HKEY.out ?_; intro c hat hwc; clear hat hwc)
      | go_in)
    go_ret2
    exact ⟨_, by rw [HRD.out]; rfl, by rw [HRD.out]; intro h; exact absurd h (by decide), (by repeat (first | (with_reducible first | exact HB.out | apply below_alloc | apply pw_below_drewN | apply below_drew1) | exact HB.out))⟩
  | some k =>
    have hk := last_lt _ _ _ _ hlast
    have hat0 := at_last l0 nm.data.toList (.lit (.int .i64 0)) l0.length k hlast
    rw [hlast] at HH
    have hhas : Maps.has (idxD l0 l0.length) (.string nm.data.toList) = true := HH.out
    have HAT := Aside0.mk (fun (c : Int) (h : (idxD l0 l0.length).atKey (.string nm.data.toList) (.lit (.int .i64 0)) = .lit (.int .i64 c)) => (show c = (k : Int) by rw [hat0] at h; cases h; rfl))
    have hrd : readD l0 nm a = if a < 0 ∨ a ≥ 3 then ((⟨#[]⟩ : ByteArray), 4) else (rdOf ByteArray.empty (l0.getD k z39).f1 a, 0) := by unfold readD; rw [hlast]
    clear hat0 hlast
    by_cases c1 : a < 0
    · rw [if_pos (Or.inl c1)] at hrd
      have HRD := Aside0.mk hrd
      have c1b : decide (a < 0) = true := decide_eq_true c1
      clear hrd h3 hk c1
      go_enter Try.func26, Try.ntmps26
      go_wp2_with (first
        | (go_at_call 16; refine HIX.out.mono ?_; rintro e w9 ⟨b, rfl, hbm, hown, hb⟩; have HOW := Aside0.mk hown; have n0_ := Aside0.mk (below_step (by repeat (first | (with_reducible first | exact HB.out | apply below_alloc | apply pw_below_drewN | apply below_drew1) | exact HB.out)) hb); clear HB; have HB := n0_; clear n0_ hb hown hbm)
        | (at_lookup; refine wpList_lookup_own_ok_int _ rfl _ _ 43 rfl 9 3 .i64 mlaw Try.underlying43 Try.underlying3 (mzero _) b l0.length (idxD l0 l0.length) rfl HOW.out _ _ rfl HKEY.out ?_; intro c hat hwc; obtain rfl := HAT.out c hat; clear hat hwc)
        | go_in)
      go_ret2
      exact ⟨_, by rw [HRD.out]; rfl, by rw [HRD.out]; intro h; exact absurd h (by decide), (by repeat (first | (with_reducible first | exact HB.out | apply below_alloc | apply pw_below_drewN | apply below_drew1) | exact HB.out))⟩
    · have c1b : decide (a < 0) = false := decide_eq_false c1
      by_cases c2 : a ≥ 3
      · rw [if_pos (Or.inr c2)] at hrd
        have HRD := Aside0.mk hrd
        have c2b : decide (a ≥ 3) = true := decide_eq_true c2
        have c2c : decide (3 ≤ a) = true := decide_eq_true c2
        clear hrd h3 hk c1 c2
        go_enter Try.func26, Try.ntmps26
        go_wp2_with (first
          | (go_at_call 16; refine HIX.out.mono ?_; rintro e w9 ⟨b, rfl, hbm, hown, hb⟩; have HOW := Aside0.mk hown; have n0_ := Aside0.mk (below_step (by repeat (first | (with_reducible first | exact HB.out | apply below_alloc | apply pw_below_drewN | apply below_drew1) | exact HB.out)) hb); clear HB; have HB := n0_; clear n0_ hb hown hbm)
          | (at_lookup; refine wpList_lookup_own_ok_int _ rfl _ _ 43 rfl 9 3 .i64 mlaw Try.underlying43 Try.underlying3 (mzero _) b l0.length (idxD l0 l0.length) rfl HOW.out _ _ rfl HKEY.out ?_; intro c hat hwc; obtain rfl := HAT.out c hat; clear hat hwc)
          | go_in)
        go_ret2
        exact ⟨_, by rw [HRD.out]; rfl, by rw [HRD.out]; intro h; exact absurd h (by decide), (by repeat (first | (with_reducible first | exact HB.out | apply below_alloc | apply pw_below_drewN | apply below_drew1) | exact HB.out))⟩
      · rw [if_neg (by omega)] at hrd
        have HRD := Aside0.mk hrd
        have c2b : decide (a ≥ 3) = false := decide_eq_false c2
        have c2c : decide (3 ≤ a) = false := decide_eq_false c2
        have hlen : (l0.getD k z39).f1.length = 3 := h3 _ (by rw [List.getD, List.getElem?_eq_getElem hk]; exact List.getElem_mem hk)
        have p1 : (0 : Int) ≤ (k : Int) := by omega
        have q1 : (k : Int) < (l0.length : Int) := by omega
        obtain ⟨ad, A1, c1_, e1, hx_0, hx_1, hl1, hi1⟩ := at_T39 HR0.out (k : Int) p1 q1
        cases e1
        simp only [Int.toNat_natCast, rd_T39] at hx_0 hx_1 hl1 hi1
        have p2 : (0 : Int) ≤ a := by omega
        have q2 : a < ((l0.getD k z39).f1.length : Int) := by omega
        obtain ⟨ad2, e2, hy_0⟩ := Kd.at_string hi1 a p2 q2
        cases e2
        obtain ⟨x, hE⟩ : ∃ x, x = l0.getD k z39 := ⟨_, rfl⟩
        rw [← hE] at hx_0 hx_1 hy_0 q2 HRD
        have HL := Aside0.mk (show x.f1.length = 3 by rw [hE]; exact hlen)
        have HX := Aside0.mk hx_1
        have HM := Aside0.mk hm
        have HY := Aside0.mk hy_0
        replace p1 := eq_true p1
        replace q1 := eq_true q1
        replace p2 := eq_true p2
        replace q2 := eq_true q2
        clear hrd h3 hlen hE c1 c2 hi1 hl1 hx_0 hx_1 hy_0 hk
        go_enter Try.func26, Try.ntmps26
        go_wp2_with (first
          | (go_at_call 16; refine HIX.out.mono ?_; rintro e w9 ⟨b, rfl, hbm, hown, hb⟩; have HOW := Aside0.mk hown; have hx_1 := (hb.cell (World.block_lt_of_cell? _ _ HX.out)).trans HX.out; have hm_1 := (hb.cell (World.block_lt_of_cell? _ _ HM.out)).trans HM.out; have HY1 := Aside0.mk ((hb.cell (World.block_lt_of_cell? _ _ HY.out)).trans HY.out); have n0_ := Aside0.mk (below_step (by repeat (first | (with_reducible first | exact HB.out | apply below_alloc | apply pw_below_drewN | apply below_drew1) | exact HB.out)) hb); clear HB; have HB := n0_; clear n0_ hb hown hbm)
          | (at_lookup; refine wpList_lookup_own_ok_int _ rfl _ _ 43 rfl 9 3 .i64 mlaw Try.underlying43 Try.underlying3 (mzero _) b l0.length (idxD l0 l0.length) rfl HOW.out _ _ rfl HKEY.out ?_; intro c hat hwc; obtain rfl := HAT.out c hat; clear hat hwc)
          | go_in)
        go_ret2
        exact ⟨_, by rw [HRD.out]; rfl, fun _ => ⟨_, rfl, by rw [HRD.out]; exact HY1.out⟩, (by repeat (first | (with_reducible first | exact HB.out | apply below_alloc | apply pw_below_drewN | apply below_drew1) | exact HB.out))⟩
end Go.Proofs.Ytmfehjkcefpeoaa.Print
