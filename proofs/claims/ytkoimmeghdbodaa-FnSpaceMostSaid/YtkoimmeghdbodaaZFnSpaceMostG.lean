/- Proved, with what follows on it: the row of the law FnSpaceMost. Conditions: the row's alone. Texts of this session and words that the kit's print laid for this seat, merged and cut by shrink.py, a program of this session. -/
import Derived.Test.YtkoimmeghdbodaaZFnSpaceMostF
set_option linter.unusedVariables false
set_option linter.unusedSimpArgs false
namespace Go.Proofs.Ytkoimmeghdbodaa.Print
open Go.RowKit Go.Lib Go.Maps Go.WideMaps Go.Proofs.YtkoimmeghdbodaaW.PrintWords Go.Proofs.YtkoimmeghdbodaaW.PrintLast Go.Proofs.YtkoimmeghdbodaaW.PrintMore Go.Proofs.Ytkoimmeghdbodaa.Pure
theorem Gm.grown {w w1 : World} {B b n : Nat} {D : DataW Value} {V : Nat → Value} {L : Nat → List S37} (h : Gm w B b n D V L) {row : Option Nat} (hg : w.grownBy w1 row) (hr : ∀ k, row = some k → k ≠ b ∧ ∀ d, d < 4 → (V d).ownBlock ≠ some k) : Gm w1 B b n D V L :=
  ⟨h.own.kept hg (fun e => (hr b e.symm).1 rfl), h.at_, fun d hd => Kd.R_step (h.row d hd) (fun k hk hlt => hg.block k hlt (fun e => (hr k e.symm).2 d hd hk.symm)), h.apart⟩
theorem Gm.lower {w : World} {B B' b n : Nat} {D : DataW Value} {V : Nat → Value} {L : Nat → List S37} (h : Gm w B b n D V L) (hb : B' ≤ B) : Gm w B' b n D V L :=
  ⟨h.own, h.at_, fun d hd => Kd.R_lower (h.row d hd) hb, h.apart⟩
theorem Gm.drop {w w1 : World} {B b n : Nat} {D : DataW Value} {V : Nat → Value} {L : Nat → List S37} (h : Gm w B b n D V L) {d : Nat} (hd : d < 4) (ho : w1.ownsMap Try.prog 3 RE b n (D.del (kI d))) (hg : w.grownBy w1 (some b)) : Gm w1 B b n (D.del (kI d)) (upd V d (.slice none 0 0)) (upd L d []) := by
  refine ⟨ho, fun e he => ?_, fun e he => ?_, fun e f he hf hne k hk => ?_⟩
  · unfold upd
    by_cases c : e = d
    · rw [if_pos c, c, Maps.atKey_del_same]
      rfl
    · rw [if_neg c, Maps.atKey_del_other (kI_ne c), h.at_ e he]
  · unfold upd
    by_cases c : e = d
    · rw [if_pos c, if_pos c]
      exact Kd.R_nil _ _ _ _ _
    · rw [if_neg c, if_neg c]
      exact Kd.R_step (h.row e he) (fun k hk hlt => hg.block k hlt (fun e2 => h.ne he (by rw [← hk]; exact e2.symm)))
  · unfold upd at hk ⊢
    by_cases c : e = d
    · rw [if_pos c] at hk
      simp [Value.ownBlock] at hk
    · rw [if_neg c] at hk
      by_cases c2 : f = d
      · rw [if_pos c2]
        simp [Value.ownBlock]
      · rw [if_neg c2]
        exact h.apart e f he hf hne k hk
def bestOf (L : Nat → List S37) : Nat → Nat
  | 0 => 0
  | d + 1 => if (L (bestOf L d)).length < (L d).length then d else bestOf L d
theorem bestOf_lt (L : Nat → List S37) (d : Nat) : bestOf L (d + 1) < d + 1 := by
  induction d with
  | zero =>
    show (if (L (bestOf L 0)).length < (L 0).length then 0 else bestOf L 0) < 1
    by_cases h : (L (bestOf L 0)).length < (L 0).length
    · rw [if_pos h]; omega
    · rw [if_neg h]; simp [bestOf]
  | succ d ih =>
    show (if (L (bestOf L (d + 1))).length < (L (d + 1)).length then d + 1 else bestOf L (d + 1)) < d + 2
    by_cases h : (L (bestOf L (d + 1))).length < (L (d + 1)).length
    · rw [if_pos h]; omega
    · rw [if_neg h]; omega
def takeG (nn : Nat) : Nat → (Nat → List S37) → List S37 → List S37 × Bool
  | 0, _, out => (out, true)
  | c + 1, L, out => if (L (bestOf L nn)).length = 0 then ([], false) else takeG nn c (upd L (bestOf L nn) []) (out ++ [(L (bestOf L nn)).getD 0 z37])
def takeI (n txa txb cols : Int) (la lb : List S65) : List S37 × Bool := if (rootB n txa la && (rootB n txb lb && (decide (1 ≤ cols) && decide (cols ≤ n)))) = true then takeG n.toNat cols.toNat (Lst (rootPl n txa la ++ rootPl n txb lb) n.toNat 0) [] else ([], false)
set_option maxHeartbeats 16000000 in
set_option maxRecDepth 100000 in
theorem spaceTake_call (n txa txb cols : Int) (Aa Ab : Option Addr) (ca cb : Nat) (la lb : List S65) (w : World)
    (hra : Kd.C k65 w Aa la.length la) (hca : la.length ≤ ca) (hsa : ∀ x ∈ la, ∀ y ∈ x.f1, y.f2.length ≤ 1048576)
    (hrb : Kd.C k65 w Ab lb.length lb) (hcb : lb.length ≤ cb) (hsb : ∀ x ∈ lb, ∀ y ∈ x.f1, y.f2.length ≤ 1048576) :
    Calls Try.prog 51 #[.int .i64 n, .agg #[.int .i64 txa, .slice Aa la.length ca], .agg #[.int .i64 txb, .slice Ab lb.length cb], .int .i64 cols] w fun e w' => ∃ v, e = .returned (.tuple #[v, .bool (takeI n txa txb cols la lb).2]) ∧ Kd.R k37 37 w' w.heap.size (fun _ => True) v (takeI n txa txb cols la lb).1 ∧ Below w.heap.size w w' := by
  have hu37 := Try.underlying37
  have hu57 := Try.underlying57
  have small : ∀ (tx : Int) (l : List S65), (∀ x ∈ l, ∀ y ∈ x.f1, y.f2.length ≤ 1048576) → impl_RootOk.f n tx l = some (rootB n tx l) := fun tx l h => by
    unfold impl_RootOk.f
    rw [if_pos]
    exact List.all_eq_true.2 fun x hx => List.all_eq_true.2 fun y hy => decide_eq_true (h x hx y hy)
  have HROa := Az.mk (fun (W : World) (hb : Below w.heap.size w W) => impl_RootOk.calls n txa Aa ca la (rootB n txa la) W (Kd.C_below hra hb) hca (small txa la hsa))
  have HROb := Az.mk (fun (W : World) (hb : Below w.heap.size w W) => impl_RootOk.calls n txb Ab cb lb (rootB n txb lb) W (Kd.C_below hrb hb) hcb (small txb lb hsb))
  have b1 : Blk (w.alloc (.cells #[.int .i64 txa, .slice Aa la.length ca] 57)) w.heap.size #[.int .i64 txa, .slice Aa la.length ca] 57 := Blk.made _ _ _
  have b2 := Blk.made (w.alloc (.cells #[.int .i64 txa, .slice Aa la.length ca] 57)) #[.int .i64 txb, .slice Ab lb.length cb] 57
  rw [World.size_alloc] at b2
  have b1 := b1.alloc (.cells #[.int .i64 txb, .slice Ab lb.length cb] 57)
  have hB0 : Below w.heap.size w ((w.alloc (.cells #[.int .i64 txa, .slice Aa la.length ca] 57)).alloc (.cells #[.int .i64 txb, .slice Ab lb.length cb] 57)) := by
    have h1 : Below w.heap.size w (w.alloc (.cells #[.int .i64 txa, .slice Aa la.length ca] 57)) := (Below.refl w.heap.size w).alloc (Nat.le_refl _) _
    exact h1.alloc (by simp) _
  have BA := Az.mk b1
  have BB := Az.mk b2
  have HB := Az.mk hB0
  have hca_0 := (BA.out.cell 0).trans rfl
  have hca_1 := (BA.out.cell 1).trans rfl
  have hcb_0 := (BB.out.cell 0).trans rfl
  have hcb_1 := (BB.out.cell 1).trans rfl
  have tk0 : True := trivial
  clear b1 b2 hB0 small
  have hsp : takeI n txa txb cols la lb = if (rootB n txa la && (rootB n txb lb && (decide (1 ≤ cols) && decide (cols ≤ n)))) = true then takeG n.toNat cols.toNat (Lst (rootPl n txa la ++ rootPl n txb lb) n.toNat 0) [] else ([], false) := rfl
  generalize takeI n txa txb cols la lb = res at hsp ⊢
  cases ea : rootB n txa la with
  | false =>
    rw [ea] at HROa hsp
    have HE : Az (res = ([], false)) := ⟨by rw [hsp]; rfl⟩
    clear hra hrb hca hcb hsa hsb hsp ea
    go_enter Try.func51, Try.ntmps51
    go_wp2_with (first | (go_at_call 38; have _tk := tk0; refine (HROa.out _ HB.out).mono ?_; rintro e w12 ⟨rfl, hb⟩; have BA2 := Az.mk (BA.out.below hb); have BB2 := Az.mk (BB.out.below hb); have HB2 := Az.mk (HB.out.trans (hb.mono HB.out.size)); clear BA BB HB hca_0 hca_1 hcb_0 hcb_1; have BA := BA2; have BB := BB2; have HB := HB2; clear BA2 BB2 HB2; have hca_0 := (BA.out.cell 0).trans rfl; have hca_1 := (BA.out.cell 1).trans rfl; have hcb_0 := (BB.out.cell 0).trans rfl; have hcb_1 := (BB.out.cell 1).trans rfl; clear hb; clear tk0 _tk; have tk1 : True := trivial) | go_in)
    go_ret2
    exact ⟨.slice none 0 0, by rw [HE.out]; rfl, by rw [HE.out]; exact Kd.R_nil _ _ _ _ _, HB.out⟩
  | true =>
    rw [ea] at HROa hsp
    cases eb : rootB n txb lb with
    | false =>
      rw [eb] at HROb hsp
      have HE : Az (res = ([], false)) := ⟨by rw [hsp]; rfl⟩
      clear hra hrb hca hcb hsa hsb hsp ea eb
      go_enter Try.func51, Try.ntmps51
      go_wp2_with (first | (go_at_call 38; have _tk := tk0; refine (HROa.out _ HB.out).mono ?_; rintro e w12 ⟨rfl, hb⟩; have BA2 := Az.mk (BA.out.below hb); have BB2 := Az.mk (BB.out.below hb); have HB2 := Az.mk (HB.out.trans (hb.mono HB.out.size)); clear BA BB HB hca_0 hca_1 hcb_0 hcb_1; have BA := BA2; have BB := BB2; have HB := HB2; clear BA2 BB2 HB2; have hca_0 := (BA.out.cell 0).trans rfl; have hca_1 := (BA.out.cell 1).trans rfl; have hcb_0 := (BB.out.cell 0).trans rfl; have hcb_1 := (BB.out.cell 1).trans rfl; clear hb; clear tk0 _tk; have tk1 : True := trivial) | (go_at_call 38; have _tk := tk1; refine (HROb.out _ HB.out).mono ?_; rintro e w17 ⟨rfl, hb⟩; have BA2 := Az.mk (BA.out.below hb); have BB2 := Az.mk (BB.out.below hb); have HB2 := Az.mk (HB.out.trans (hb.mono HB.out.size)); clear BA BB HB hca_0 hca_1 hcb_0 hcb_1; have BA := BA2; have BB := BB2; have HB := HB2; clear BA2 BB2 HB2; have hca_0 := (BA.out.cell 0).trans rfl; have hca_1 := (BA.out.cell 1).trans rfl; have hcb_0 := (BB.out.cell 0).trans rfl; have hcb_1 := (BB.out.cell 1).trans rfl; clear hb; clear tk1 _tk; have tk2 : True := trivial) | go_in)
      go_ret2
      exact ⟨.slice none 0 0, by rw [HE.out]; rfl, by rw [HE.out]; exact Kd.R_nil _ _ _ _ _, HB.out⟩
    | true =>
      rw [eb] at HROb hsp
      by_cases k1 : 1 ≤ cols
      · rw [decide_eq_true k1] at hsp
        have k1b : decide (cols < 1) = false := decide_eq_false (by omega)
        by_cases k2 : cols ≤ n
        · rw [decide_eq_true k2] at hsp
          have k2b : decide (cols > n) = false := decide_eq_false (by omega)
          have k2c : decide (n < cols) = false := decide_eq_false (by omega)
          have sa := rootPl_small ea
          have sb := rootPl_small eb
          obtain ⟨nn, hnn⟩ := Int.eq_ofNat_of_zero_le (show 0 ≤ n by omega)
          obtain ⟨cc, hcc⟩ := Int.eq_ofNat_of_zero_le (show 0 ≤ cols by omega)
          have hn4 : nn ≤ 4 := by omega
          have HFR := Az.mk (fun (W : World) (hb : Below w.heap.size w W) => free_call nn txa txb Aa Ab ca cb la lb W hn4 (Kd.C_below hra hb) hca hsa (Kd.C_below hrb hb) hcb hsb n hnn (by omega))
          obtain ⟨U, hU⟩ : ∃ U, U = rootPl n txa la ++ rootPl n txb lb := ⟨_, rfl⟩
          rw [← hU] at hsp HFR
          have HE : Az (res = takeG nn cc (Lst U nn 0) []) := ⟨by rw [hsp, hnn, hcc]; rfl⟩
          have HNN := Az.mk hnn
          have HCC := Az.mk hcc
          have HN4 := Az.mk hn4
          have HN1 : Az (1 ≤ nn) := ⟨by omega⟩
          have HCN : Az (cc ≤ nn) := ⟨by omega⟩
          clear hra hrb hca hcb hsa hsb hsp ea eb sa sb hnn hn4 hU hcc k1 k2
          go_enter Try.func51, Try.ntmps51
          go_wp2_with (first | (go_at_call 38; have _tk := tk0; refine (HROa.out _ HB.out).mono ?_; rintro e w12 ⟨rfl, hb⟩; have BA2 := Az.mk (BA.out.below hb); have BB2 := Az.mk (BB.out.below hb); have HB2 := Az.mk (HB.out.trans (hb.mono HB.out.size)); clear BA BB HB hca_0 hca_1 hcb_0 hcb_1; have BA := BA2; have BB := BB2; have HB := HB2; clear BA2 BB2 HB2; have hca_0 := (BA.out.cell 0).trans rfl; have hca_1 := (BA.out.cell 1).trans rfl; have hcb_0 := (BB.out.cell 0).trans rfl; have hcb_1 := (BB.out.cell 1).trans rfl; clear hb; clear tk0 _tk; have tk1 : True := trivial) | (go_at_call 38; have _tk := tk1; refine (HROb.out _ HB.out).mono ?_; rintro e w17 ⟨rfl, hb⟩; have BA2 := Az.mk (BA.out.below hb); have BB2 := Az.mk (BB.out.below hb); have HB2 := Az.mk (HB.out.trans (hb.mono HB.out.size)); clear BA BB HB hca_0 hca_1 hcb_0 hcb_1; have BA := BA2; have BB := BB2; have HB := HB2; clear BA2 BB2 HB2; have hca_0 := (BA.out.cell 0).trans rfl; have hca_1 := (BA.out.cell 1).trans rfl; have hcb_0 := (BB.out.cell 0).trans rfl; have hcb_1 := (BB.out.cell 1).trans rfl; clear hb; clear tk1 _tk; have tk2 : True := trivial) | (go_at_call 90; refine (HFR.out _ HB.out).mono ?_; rintro e w36 ⟨b, m, D, V, rfl, hbb, hG, hb⟩; have HG := Az.mk (hG.lower HB.out.size); have HBB := Az.mk (Nat.le_trans HB.out.size hbb); have BA2 := Az.mk (BA.out.below hb); have BB2 := Az.mk (BB.out.below hb); have HB2 := Az.mk (HB.out.trans (hb.mono HB.out.size)); clear BA BB HB hca_0 hca_1 hcb_0 hcb_1; have BA := BA2; have BB := BB2; have HB := HB2; clear BA2 BB2 HB2; have hca_0 := (BA.out.cell 0).trans rfl; have hca_1 := (BA.out.cell 1).trans rfl; have hcb_0 := (BB.out.cell 0).trans rfl; have hcb_1 := (BB.out.cell 1).trans rfl; clear hb hG hbb) | go_in)
          have HBL := Az.mk HG.out.own.lt
          have HVL0 : Az (∀ e, e < 4 → ∀ k, (V e).ownBlock = some k → k < w36.heap.size) := ⟨fun e he k hk => Kd.R_lt (HG.out.row e he) k hk⟩
          have HLL0 : Az (∀ e, (Lst U nn 0 e).length ≤ 12) := ⟨fun e => by
            unfold Lst
            by_cases h1 : e < nn
            · rw [if_pos h1]; exact freeP_len _ _ _
            · rw [if_neg h1]
              by_cases h2 : e = nn
              · rw [if_pos h2]; simp [freeP]
              · rw [if_neg h2]; simp⟩
          clear hca_0 hca_1 hcb_0 hcb_1 k1b k2b k2c
          go_loopg [11, 38] cc (fun kq v11 v38 wr => ∃ (c : Nat) (out : List S37) (L : Nat → List S37) (m : Nat) (D : DataW Value) (V : Nat → Value), v38 = .int .i64 (c : Int) ∧ Az (c + kq = cc) ∧ Az (out.length = c) ∧ Az (takeG nn (cc - c) L out = res) ∧ Az (∀ e, (L e).length ≤ 12) ∧ Az (Gm wr w.heap.size b m D V L) ∧ Az (∀ e, e < 4 → ∀ k, (V e).ownBlock = some k → k < w36.heap.size) ∧ Az (Kd.R k37 37 wr w.heap.size (fun k => w36.heap.size ≤ k) v11 out) ∧ Az (w36.heap.size ≤ wr.heap.size) ∧ Az (Below w.heap.size w wr))
          case atStart => exact ⟨0, [], _, m, D, V, rfl, ⟨Nat.zero_add _⟩, ⟨rfl⟩, ⟨HE.out.symm⟩, HLL0, HG, HVL0, ⟨Kd.R_nil _ _ _ _ _⟩, ⟨Nat.le_refl _⟩, HB⟩
          case round =>
            clear HG HVL0 HLL0 HB BA BB HE
            obtain ⟨c, out, L, m, D, V, rfl, HI, HOL, HT, HLL, HG, HVL, HR, HSZ, HB⟩ := hrel
            by_cases e1 : c < cc
            · have e1b : decide ((c : Int) < cols) = true := decide_eq_true (by rw [HCC.out]; omega)
              have HE1 := Az.mk e1
              have HWc : Az (wrap64 ((c : Int) + 1) = ((c + 1 : Nat) : Int)) := ⟨by rw [Pure.wrap_ok (by have := HCN.out; have := HN4.out; omega)]; omega⟩
              obtain ⟨go, hgo⟩ : ∃ go, go = gk := ⟨_, rfl⟩
              subst hgo
              obtain ⟨wo, hwo⟩ : ∃ wo, wo = wr := ⟨_, rfl⟩
              subst hwo
              clear e1
              go_wp2
              go_loopg [12, 41] nn (fun kq v12 v41 wr => ∃ (d : Nat), v41 = .int .i64 (d : Int) ∧ v12 = .int .i64 ((bestOf L d : Nat) : Int) ∧ Az (d + kq = nn) ∧ wr = wo)
              case atStart => exact ⟨0, rfl, rfl, ⟨Nat.zero_add _⟩, rfl⟩
              case round =>
                obtain ⟨d, rfl, rfl, HJ, rfl⟩ := hrel
                by_cases e2 : d < nn
                · have e2b : decide ((d : Int) < n) = true := decide_eq_true (by rw [HNN.out]; omega)
                  have HE2 := Az.mk e2
                  have HWd : Az (wrap64 ((d : Int) + 1) = ((d + 1 : Nat) : Int)) := ⟨by rw [Pure.wrap_ok (by have := HN4.out; omega)]; omega⟩
                  have hd4 : d < 4 := by have := HN4.out; omega
                  have hb4 : bestOf L d < 4 := by
                    cases d with
                    | zero => simp [bestOf]
                    | succ d => have := bestOf_lt L d; omega
                  obtain ⟨e0, hE0⟩ : ∃ e0, e0 = bestOf L d := ⟨_, rfl⟩
                  rw [← hE0] at hb4
                  obtain ⟨A1, c1, hV1⟩ := Kd.R_slice (HG.out.row d hd4)
                  obtain ⟨A2, c2, hV2⟩ := Kd.R_slice (HG.out.row e0 hb4)
                  have HV1 := Az.mk ((HG.out.at_ d hd4).trans (by rw [hV1]))
                  have HV2 := Az.mk ((HG.out.at_ e0 hb4).trans (by rw [hV2]))
                  have HK1 := Az.mk (kI_key (d := d) (by omega))
                  have HK2 := Az.mk (kI_key (d := e0) (by omega))
                  have HST : Az (bestOf L (d + 1) = if (L e0).length < (L d).length then d else e0) := ⟨by rw [hE0]; rfl⟩
                  rw [← hE0]
                  have HE0 := Az.mk hE0
                  have tkA : True := trivial
                  clear hV1 hV2 hd4 hb4 hE0 e2
                  by_cases hlt : (L e0).length < (L d).length
                  · have HS2 : Az (bestOf L (d + 1) = d) := ⟨by rw [HST.out, if_pos hlt]⟩
                    have hlt2 : decide (((L d).length : Int) > ((L e0).length : Int)) = true := decide_eq_true (by omega)
                    go_wp2_with (first | (at_lookup; have _tk := tkA; refine lookup_one rfl _ _ 108 rfl 3 27 ilaw Try.underlying108 RE (szero _) zS [] rfl b m D rfl HG.out.own (.int .i64 ((d : Nat) : Int)) (kI d) rfl HK1.out (.slice A1 (L d).length c1) (fun v qs h => re_inv h HV1.out) ?_; clear tkA _tk; have tkB : True := trivial) | (at_lookup; have _tk := tkB; refine lookup_one rfl _ _ 108 rfl 3 27 ilaw Try.underlying108 RE (szero _) zS [] rfl b m D rfl HG.out.own (.int .i64 ((e0 : Nat) : Int)) (kI e0) rfl HK2.out (.slice A2 (L e0).length c2) (fun v qs h => re_inv h HV2.out) ?_; clear tkB _tk; have tkC : True := trivial) | go_in)
                    go_roundg (nn - (d + 1))
                    case measure => have := HJ.out; have := HE2.out; omega
                    case rel => exact ⟨d + 1, by rw [← HWd.out], by rw [HS2.out], ⟨by have := HE2.out; omega⟩, rfl⟩
                  · have HS2 : Az (bestOf L (d + 1) = e0) := ⟨by rw [HST.out, if_neg hlt]⟩
                    have hlt2 : decide (((L d).length : Int) > ((L e0).length : Int)) = false := decide_eq_false (by omega)
                    go_wp2_with (first | (at_lookup; have _tk := tkA; refine lookup_one rfl _ _ 108 rfl 3 27 ilaw Try.underlying108 RE (szero _) zS [] rfl b m D rfl HG.out.own (.int .i64 ((d : Nat) : Int)) (kI d) rfl HK1.out (.slice A1 (L d).length c1) (fun v qs h => re_inv h HV1.out) ?_; clear tkA _tk; have tkB : True := trivial) | (at_lookup; have _tk := tkB; refine lookup_one rfl _ _ 108 rfl 3 27 ilaw Try.underlying108 RE (szero _) zS [] rfl b m D rfl HG.out.own (.int .i64 ((e0 : Nat) : Int)) (kI e0) rfl HK2.out (.slice A2 (L e0).length c2) (fun v qs h => re_inv h HV2.out) ?_; clear tkB _tk; have tkC : True := trivial) | go_in)
                    go_roundg (nn - (d + 1))
                    case measure => have := HJ.out; have := HE2.out; omega
                    case rel => exact ⟨d + 1, by rw [← HWd.out], by rw [HS2.out], ⟨by have := HE2.out; omega⟩, rfl⟩
                · have e2b : decide ((d : Int) < n) = false := decide_eq_false (by rw [HNN.out]; omega)
                  have hd : d = nn := by have := HJ.out; omega
                  subst hd
                  have hb4 : bestOf L d < 4 := by
                    cases d with
                    | zero => simp [bestOf]
                    | succ d => have := bestOf_lt L d; have := HN4.out; omega
                  have hT := HT.out
                  obtain ⟨q, hq⟩ : ∃ q, cc - c = q + 1 := ⟨cc - c - 1, by have := HE1.out; omega⟩
                  rw [hq] at hT
                  unfold takeG at hT
                  obtain ⟨e0, hE0⟩ : ∃ e0, e0 = bestOf L d := ⟨_, rfl⟩
                  rw [← hE0] at hb4 hT ⊢
                  have HE4 := Az.mk hb4
                  have HKE := Az.mk (kI_key (d := e0) (by omega))
                  have tkA : True := trivial
                  clear hE0 e2
                  by_cases hz : (L e0).length = 0
                  · rw [if_pos hz] at hT
                    obtain ⟨A2, c2, hV2⟩ := Kd.R_slice (HG.out.row e0 hb4)
                    have HV2 := Az.mk ((HG.out.at_ e0 hb4).trans (by rw [hV2]))
                    have HTT := Az.mk hT
                    have hz2 : decide (((L e0).length : Int) = 0) = true := decide_eq_true (by omega)
                    have hz3 : (((L e0).length : Int) == 0) = true := by rw [beq_iff_eq]; omega
                    clear hV2 hT hb4
                    go_wp2_with (first | (at_lookup; have _tk := tkA; refine lookup_one rfl _ _ 108 rfl 3 27 ilaw Try.underlying108 RE (szero _) zS [] rfl b m D rfl HG.out.own (.int .i64 ((e0 : Nat) : Int)) (kI e0) rfl HKE.out (.slice A2 (L e0).length c2) (fun v qs h => re_inv h HV2.out) ?_; clear tkA _tk; have tkB : True := trivial) | go_in)
                    go_ret2
                    exact ⟨.slice none 0 0, by rw [← HTT.out]; rfl, by rw [← HTT.out]; exact Kd.R_nil _ _ _ _ _, HB.out⟩
                  · rw [if_neg hz] at hT
                    obtain ⟨g, cap, hV2, hgB, hcap, hmx, hRow⟩ := rowB_of_R (HG.out.row e0 hb4) (by omega)
                    have HV2 := Az.mk ((HG.out.at_ e0 hb4).trans (by rw [hV2]))
                    obtain ⟨p, hp⟩ : ∃ p, p = (L e0).getD 0 z37 := ⟨_, rfl⟩
                    have hx0 := hRow.cell0 (i := 0) (by simp; omega)
                    have hx1 := hRow.cell1 (i := 0) (by simp; omega)
                    have ep : (L e0).toArray[0]! = p := by
                      rw [hp, getElem!_pos _ 0 (by simp; omega)]
                      simp [List.getD, show 0 < (L e0).length by omega]
                    rw [ep] at hx0 hx1
                    rw [← hp] at hT
                    have HTT := Az.mk hT
                    have hz2 : decide (((L e0).length : Int) = 0) = false := decide_eq_false (by omega)
                    have hz3 : (((L e0).length : Int) == 0) = false := by rw [beq_eq_false_iff_ne]; omega
                    have p0 := eq_true (show (0 : Int) ≤ 0 by omega)
                    have q0 := eq_true (show (0 : Int) < ((L e0).length : Int) by omega)
                    have HLN : Az (out.length ≤ 1000) := ⟨by have := HOL.out; have := HE1.out; have := HCN.out; have := HN4.out; omega⟩
                    have HQ := Az.mk hq
                    simp only [Nat.zero_mul, Nat.zero_add] at hx0 hx1
                    clear hV2 hT hgB hcap hmx hRow hp ep hq hb4
                    go_wp2_with (first | (at_lookup; have _tk := tkA; refine lookup_one rfl _ _ 108 rfl 3 27 ilaw Try.underlying108 RE (szero _) zS [] rfl b m D rfl HG.out.own (.int .i64 ((e0 : Nat) : Int)) (kI e0) rfl HKE.out (.slice (some ⟨g, 0, none⟩) (L e0).length cap) (fun v qs h => re_inv h HV2.out) ?_; clear tkA _tk; have tkB : True := trivial) | (at_lookup; have _tk := tkB; refine lookup_one rfl _ _ 108 rfl 3 27 ilaw Try.underlying108 RE (szero _) zS [] rfl b m D rfl HG.out.own (.int .i64 ((e0 : Nat) : Int)) (kI e0) rfl HKE.out (.slice (some ⟨g, 0, none⟩) (L e0).length cap) (fun v qs h => re_inv h HV2.out) ?_; clear tkB _tk; have tkC : True := trivial) | ((with_reducible refine zqg (N := 67) rfl ?_); refine Kd.R_append k37 (w0 := w) w.heap.size rfl (.tmp 60) (.tmp 66) 27 37 (.agg #[.int .i64 0, .int .i64 0]) 16 rfl Try.underlying27 info37 rfl (by decide) (by omega) u11 out p [.int .i64 p.f0, .int .i64 p.f1] (fun k => w36.heap.size ≤ k) (fun _ => False) rfl rfl (k37_mkM _ _ _ p) (fun _ hk => hk.elim) (fun k hk => Nat.le_trans HSZ.out hk) HR.out HB.out HB.out.size (by have := HLN.out; omega) ?_; intro v1 w1 hR1 hB1 hg1 hat1; have R1 := Az.mk hR1; have B1w := Az.mk hB1; have G1 := Az.mk hg1; have HG1 := Az.mk (HG.out.grown hg1 (fun k hk => ⟨fun e => by have := HR.out.1 k hk; have := HBL.out; omega, fun e he hk2 => by have := HR.out.1 k hk; have := HVL.out e he k hk2; omega⟩)); clear hR1 hB1 hg1 hat1) | (refine wpList_delete_own _ rfl _ _ 108 3 rfl 27 ilaw Try.underlying108 RE b m D rfl HG1.out.own (.int .i64 ((e0 : Nat) : Int)) (kI e0) rfl HKE.out ?_; intro w2 hown2 hturn2; have O2 := Az.mk hown2; have G2 := Az.mk hturn2.grown; clear hown2 hturn2) | go_in)
                    have HG2 := Az.mk (HG1.out.drop HE4.out O2.out G2.out)
                    have HVL2 : Az (∀ e, e < 4 → ∀ k, (upd V e0 (.slice none 0 0) e).ownBlock = some k → k < w36.heap.size) := ⟨fun e he k hk => by
                      unfold upd at hk
                      by_cases c9 : e = e0
                      · rw [if_pos c9] at hk; simp [Value.ownBlock] at hk
                      · rw [if_neg c9] at hk; exact HVL.out e he k hk⟩
                    have HLL2 : Az (∀ e, (upd L e0 [] e).length ≤ 12) := ⟨fun e => by
                      unfold upd
                      by_cases c9 : e = e0
                      · rw [if_pos c9]; simp
                      · rw [if_neg c9]; exact HLL.out e⟩
                    have HB2 : Az (Below w.heap.size w w2) := ⟨B1w.out.grown G2.out B1w.out.size (fun k hk => by cases hk; exact HBB.out)⟩
                    have HSZ2 : Az (w36.heap.size ≤ w2.heap.size) := ⟨Nat.le_trans HSZ.out (Nat.le_trans G1.out.size G2.out.size)⟩
                    have HR2 : Az (Kd.R k37 37 w2 w.heap.size (fun k => w36.heap.size ≤ k) v1 (out ++ [p])) := ⟨Kd.R_step R1.out (fun k hk hlt => G2.out.block k hlt (fun e => by cases e; have := HBL.out; omega))⟩
                    clear R1 B1w G1 O2 G2 HG1
                    go_wp2
                    go_roundg (cc - (c + 1))
                    case measure => have := HI.out; have := HE1.out; omega
                    case rel => exact ⟨c + 1, out ++ [p], upd L e0 [], m, _, _, by rw [← HWc.out], ⟨by have := HE1.out; omega⟩, ⟨by rw [List.length_append, HOL.out]; rfl⟩, ⟨by rw [show cc - (c + 1) = q by have := HQ.out; omega]; exact HTT.out⟩, HLL2, HG2, HVL2, HR2, HSZ2, HB2⟩
            · have e1b : decide ((c : Int) < cols) = false := decide_eq_false (by rw [HCC.out]; omega)
              have hc : c = cc := by have := HI.out; omega
              subst hc
              have hT := HT.out
              rw [Nat.sub_self] at hT
              have HTT : Az ((out, true) = res) := ⟨hT⟩
              clear hT
              go_wp2
              go_ret2
              exact ⟨u11, by rw [← HTT.out]; rfl, by rw [← HTT.out]; exact Kd.R_mono HR.out (fun _ _ => trivial), HB.out⟩
        · rw [decide_eq_false k2] at hsp
          have k2b : decide (cols > n) = true := decide_eq_true (by omega)
          have k2c : decide (n < cols) = true := decide_eq_true (by omega)
          have HE : Az (res = ([], false)) := ⟨by rw [hsp]; rfl⟩
          clear hra hrb hca hcb hsa hsb hsp ea eb k1
          go_enter Try.func51, Try.ntmps51
          go_wp2_with (first | (go_at_call 38; have _tk := tk0; refine (HROa.out _ HB.out).mono ?_; rintro e w12 ⟨rfl, hb⟩; have BA2 := Az.mk (BA.out.below hb); have BB2 := Az.mk (BB.out.below hb); have HB2 := Az.mk (HB.out.trans (hb.mono HB.out.size)); clear BA BB HB hca_0 hca_1 hcb_0 hcb_1; have BA := BA2; have BB := BB2; have HB := HB2; clear BA2 BB2 HB2; have hca_0 := (BA.out.cell 0).trans rfl; have hca_1 := (BA.out.cell 1).trans rfl; have hcb_0 := (BB.out.cell 0).trans rfl; have hcb_1 := (BB.out.cell 1).trans rfl; clear hb; clear tk0 _tk; have tk1 : True := trivial) | (go_at_call 38; have _tk := tk1; refine (HROb.out _ HB.out).mono ?_; rintro e w17 ⟨rfl, hb⟩; have BA2 := Az.mk (BA.out.below hb); have BB2 := Az.mk (BB.out.below hb); have HB2 := Az.mk (HB.out.trans (hb.mono HB.out.size)); clear BA BB HB hca_0 hca_1 hcb_0 hcb_1; have BA := BA2; have BB := BB2; have HB := HB2; clear BA2 BB2 HB2; have hca_0 := (BA.out.cell 0).trans rfl; have hca_1 := (BA.out.cell 1).trans rfl; have hcb_0 := (BB.out.cell 0).trans rfl; have hcb_1 := (BB.out.cell 1).trans rfl; clear hb; clear tk1 _tk; have tk2 : True := trivial) | go_in)
          go_ret2
          exact ⟨.slice none 0 0, by rw [HE.out]; rfl, by rw [HE.out]; exact Kd.R_nil _ _ _ _ _, HB.out⟩
      · rw [decide_eq_false k1] at hsp
        have k1b : decide (cols < 1) = true := decide_eq_true (by omega)
        have HE : Az (res = ([], false)) := ⟨by rw [hsp]; rfl⟩
        clear hra hrb hca hcb hsa hsb hsp ea eb
        go_enter Try.func51, Try.ntmps51
        go_wp2_with (first | (go_at_call 38; have _tk := tk0; refine (HROa.out _ HB.out).mono ?_; rintro e w12 ⟨rfl, hb⟩; have BA2 := Az.mk (BA.out.below hb); have BB2 := Az.mk (BB.out.below hb); have HB2 := Az.mk (HB.out.trans (hb.mono HB.out.size)); clear BA BB HB hca_0 hca_1 hcb_0 hcb_1; have BA := BA2; have BB := BB2; have HB := HB2; clear BA2 BB2 HB2; have hca_0 := (BA.out.cell 0).trans rfl; have hca_1 := (BA.out.cell 1).trans rfl; have hcb_0 := (BB.out.cell 0).trans rfl; have hcb_1 := (BB.out.cell 1).trans rfl; clear hb; clear tk0 _tk; have tk1 : True := trivial) | (go_at_call 38; have _tk := tk1; refine (HROb.out _ HB.out).mono ?_; rintro e w17 ⟨rfl, hb⟩; have BA2 := Az.mk (BA.out.below hb); have BB2 := Az.mk (BB.out.below hb); have HB2 := Az.mk (HB.out.trans (hb.mono HB.out.size)); clear BA BB HB hca_0 hca_1 hcb_0 hcb_1; have BA := BA2; have BB := BB2; have HB := HB2; clear BA2 BB2 HB2; have hca_0 := (BA.out.cell 0).trans rfl; have hca_1 := (BA.out.cell 1).trans rfl; have hcb_0 := (BB.out.cell 0).trans rfl; have hcb_1 := (BB.out.cell 1).trans rfl; clear hb; clear tk1 _tk; have tk2 : True := trivial) | go_in)
        go_ret2
        exact ⟨.slice none 0 0, by rw [HE.out]; rfl, by rw [HE.out]; exact Kd.R_nil _ _ _ _ _, HB.out⟩
end Go.Proofs.Ytkoimmeghdbodaa.Print
namespace Go.Proofs.Ytkoimmeghdbodaa.Print
open Go.RowKit Go.Proofs.YtkoimmeghdbodaaW.PrintWords Go.Proofs.YtkoimmeghdbodaaW.PrintLast Go.Proofs.YtkoimmeghdbodaaW.PrintMore
attribute [local go_sem] max2_int min2_int max_two min_two max_three min_three max_four min_four
def spec_l12Count.l0 : Nat → List (S37) → Int → Int → Int → Int → Int → Option (Int × Int × Int)
 | 0, _, _, _, _, _, _ => none
 | k + 1, x0, x1, x6, x8, x680000, x680001 => if x8 < (x0.length : Int) then (if 0 ≤ x8 then (if ((rd_T37 x0 x8).f0) = x1 then (if x6 = 0 then (spec_l12Count.l0 k x0 x1 (wrap64 (x6 + 1)) (wrap64 (x8 + 1)) ((rd_T37 x0 x8).f0) ((rd_T37 x0 x8).f1)) else (spec_l12Count.l0 k x0 x1 (wrap64 (x6 + 1)) (wrap64 (x8 + 1)) x680000 x680001)) else (spec_l12Count.l0 k x0 x1 x6 (wrap64 (x8 + 1)) x680000 x680001)) else (none)) else (some (x6, x680000, x680001))
def spec_l12Count.f (k : Nat) (l0 : List (S37)) (a1 : Int) : Option (Int × Int × Int) := spec_l12Count.l0 k l0 a1 0 0 0 0
set_option maxHeartbeats 8000000 in
set_option maxRecDepth 100000 in
theorem spec_l12Count.calls (k : Nat) (A0 : Option Addr) (c0 : Nat) (l0 : List (S37)) (a1 : Int) (r1 : Int) (r2 : Int) (r3 : Int) (w : World) (hr0 : Kd.C k37 w A0 l0.length l0) (hc0 : l0.length ≤ c0) (h : spec_l12Count.f k l0 a1 = some (r1, r2, r3)) :
  Calls Try.prog 118 #[.slice A0 l0.length c0, .int .i64 a1] w fun e w' => e = .returned (.tuple #[.int .i64 r1, .agg #[.int .i64 r2, .int .i64 r3]]) ∧ Below w.heap.size w w' := by
 have hu37 := Try.underlying37
 have HR0 := Az.mk hr0
 have HC0 := Az.mk hc0
 clear hr0 hc0
 have HB := Az.mk (Below.refl w.heap.size w)
 have H : (spec_l12Count.l0 k l0 a1 0 0 0 0) = some (r1, r2, r3) := h
 clear h
 have H' := Az.mk H
 clear H
 go_enter Try.func118, Try.ntmps118
 go_wp2_with (first | ((with_reducible refine zqg (N := 5) rfl ?_); refine zqb ?hg (N := 5) ?hd (cs := #[.int .i64 0, .int .i64 0]) (t := 37) ?hr ?_; (case hd => rfl); (case hg => rfl); (case hr => first | (go_simp; done) | (go_simp; rfl)); intro gb678 hg w3 hbox hb; have n0_ := Az.mk (below_step zB hb); have n1_ := Az.mk (hbox); have n2_ := Az.mk ((by rw [hg]; exact (below_size zB) : w.heap.size ≤ gb678)); have n3_ := Az.mk ((by rw [hg]; exact (below_size zB) : w.heap.size ≤ gb678)); clear HB; have HB := n0_; have BK678 := n1_; have GW678 := n2_; have GE678 := n3_; clear n0_ n1_ n2_ n3_; clear hb hbox hg) | ((with_reducible refine zqg (N := 7) rfl ?_); refine zqb ?hg (N := 7) ?hd (cs := #[.int .i64 0, .int .i64 0]) (t := 37) ?hr ?_; (case hd => rfl); (case hg => rfl); (case hr => first | (go_simp; done) | (go_simp; rfl)); intro gb679 hg w4 hbox hb; have n0_ := Az.mk (blk_below (g := gb678) (o := .cells #[.int .i64 0, .int .i64 0] 37 (0, 0)) (by (with_reducible repeat (first | refine zq6 ?_ _ | refine zq8 ?_ | refine zq7 ?_ _)); exact BK678.out) hb); have n1_ := Az.mk (below_step (by repeat (first | (with_reducible first | exact HB.out | apply zq2 | apply zq1 | apply zqd | refine zq3 ?_ GE678.out) | exact HB.out)) hb); have n2_ := Az.mk (hbox); have n3_ := Az.mk ((by rw [hg]; exact (below_size (by repeat (first | (with_reducible first | exact HB.out | apply zq2 | apply zq1 | apply zqd | refine zq3 ?_ GE678.out) | exact HB.out))) : w.heap.size ≤ gb679)); have n4_ := Az.mk ((by rw [hg]; exact (below_size (by repeat (first | (with_reducible first | exact HB.out | apply zq2 | apply zq1 | apply zqd | refine zq3 ?_ GE678.out) | exact HB.out))) : w.heap.size ≤ gb679)); have n5_ := Az.mk ((by rw [hg]; exact Nat.ne_of_lt (blk_lt (g := gb678) (o := .cells #[.int .i64 0, .int .i64 0] 37 (0, 0)) (by (with_reducible repeat (first | refine zq6 ?_ _ | refine zq8 ?_ | refine zq7 ?_ _)); exact BK678.out)) : gb678 ≠ gb679)); have n6_ := Az.mk ((by rw [hg]; exact Nat.ne_of_gt (blk_lt (g := gb678) (o := .cells #[.int .i64 0, .int .i64 0] 37 (0, 0)) (by (with_reducible repeat (first | refine zq6 ?_ _ | refine zq8 ?_ | refine zq7 ?_ _)); exact BK678.out)) : gb679 ≠ gb678)); clear BK678; clear HB; have BK678 := n0_; have HB := n1_; have BK679 := n2_; have GW679 := n3_; have GE679 := n4_; have NB678_679 := n5_; have NB679_678 := n6_; clear n0_ n1_ n2_ n3_ n4_ n5_ n6_; clear hb hbox hg; have hnb5 := NB679_678.out; have hnc5 := NB678_679.out; have hcz6_0 : w4.cell? ⟨gb679, 0, none⟩ = some (.int .i64 0) := (zq4 BK679.out 0).trans rfl; have hcz6_1 : w4.cell? ⟨gb679, 1, none⟩ = some (.int .i64 0) := (zq4 BK679.out 1).trans rfl; have hfz6_0 := zq5 BK679.out 0; have hfz6_1 := zq5 BK679.out 1))
 go_loopg [6, 8] k (fun kq v6 v8 w' => ∃ (x6_1 : Int) (x8_1 : Int) (x680000_1 : Int) (x680001_1 : Int), v6 = .int .i64 x6_1 ∧ v8 = .int .i64 x8_1 ∧ Az (spec_l12Count.l0 kq l0 a1 x6_1 x8_1 x680000_1 x680001_1 = some (r1, r2, r3)) ∧ Az (kq ≤ k) ∧ Az (w'.heap[gb678]? = some (.cells #[.int .i64 0, .int .i64 0] 37 (0, 0))) ∧ Az (w'.heap[gb679]? = some (.cells #[.int .i64 x680000_1, .int .i64 x680001_1] 37 (0, 0))) ∧ Az (Below w.heap.size w w'))
 case atStart => exact ⟨(0), (0), (0), (0), (by first | rfl | (simp; done) | (simp [*]; done)), (by first | rfl | (simp; done) | (simp [*]; done)), H', ⟨Nat.le_refl _⟩, ⟨by (with_reducible repeat (first | refine zq6 ?_ _ | refine zq8 ?_ | refine zq7 ?_ _)); refine blk_far ?_ NB678_679.out _; (with_reducible repeat (first | refine zq6 ?_ _ | refine zq8 ?_ | refine zq7 ?_ _)); refine blk_far ?_ NB678_679.out _; (with_reducible repeat (first | refine zq6 ?_ _ | refine zq8 ?_ | refine zq7 ?_ _)); exact BK678.out⟩, ⟨by (with_reducible repeat (first | refine zq6 ?_ _ | refine zq8 ?_ | refine zq7 ?_ _)); refine blk_put (cs := #[.int .i64 0, .int .i64 0]) ?_ 1 _ rfl; (with_reducible repeat (first | refine zq6 ?_ _ | refine zq8 ?_ | refine zq7 ?_ _)); refine blk_put (cs := #[.int .i64 0, .int .i64 0]) ?_ 0 _ rfl; (with_reducible repeat (first | refine zq6 ?_ _ | refine zq8 ?_ | refine zq7 ?_ _)); exact BK679.out⟩, ⟨by repeat (first | (with_reducible first | exact HB.out | apply zq2 | apply zq1 | apply zqd | refine zq3 ?_ GE678.out | refine zq3 ?_ GE679.out) | exact HB.out)⟩⟩
 case round =>
  clear H'
  try clear c1
  try clear p2
  try clear c5
  try clear hcz6_0
  try clear hcz6_1
  try clear hfz6_0
  try clear hfz6_1
  obtain ⟨x6_1, x8_1, x680000_1, x680001_1, rfl, rfl, HA, HK1, BK678, BK679, HB⟩ := hrel
  cases gk with
  | zero => exact absurd HA.out (by simp [spec_l12Count.l0])
  | succ k1 =>
   have H := HA.out
   clear HA
   simp only [spec_l12Count.l0] at H
   by_cases c7 : x8_1 < (l0.length : Int)
   ·rw [if_pos c7] at H
    have c7b0 : decide (x8_1 < (l0.length : Int)) = true := decide_eq_true c7
    clear c7
    by_cases c8 : 0 ≤ x8_1
    ·rw [if_pos c8] at H
     have c8b0 : decide (0 ≤ x8_1) = true := decide_eq_true c8
     clear c8
     by_cases c9 : ((rd_T37 l0 x8_1).f0) = a1
     ·rw [if_pos c9] at H
      have c9b0 : (((rd_T37 l0 x8_1).f0) == a1) = true := beq_iff_eq.mpr c9
      have c9b1 : (((rd_T37 l0 x8_1).f0) != a1) = false := bne_eq_false_iff_eq.mpr c9
      clear c9
      by_cases c10 : x6_1 = 0
      ·rw [if_pos c10] at H
       have c10b0 : (x6_1 == 0) = true := beq_iff_eq.mpr c10
       have c10b1 : (x6_1 != 0) = false := bne_eq_false_iff_eq.mpr c10
       clear c10
       have H' := Az.mk H
       clear H
       have p680 : 0 ≤ (x8_1 : Int) := of_decide_eq_true (by first | (with_reducible assumption) | assumption)
       have q680 : x8_1 < (l0.length : Int) := of_decide_eq_true (by first | (with_reducible assumption) | assumption)
       obtain ⟨ad680, e680, hx680_0, hx680_1⟩ := at_T37 HR0.out x8_1 p680 q680
       cases e680
       replace hx680_0 := (HB.out.cell (World.block_lt_of_cell? w _ hx680_0)).trans hx680_0
       replace hx680_1 := (HB.out.cell (World.block_lt_of_cell? w _ hx680_1)).trans hx680_1
       replace p680 := eq_true p680
       replace q680 := eq_true q680
       have p681 : 0 ≤ (x8_1 : Int) := of_decide_eq_true (by first | (with_reducible assumption) | assumption)
       have q681 : x8_1 < (l0.length : Int) := of_decide_eq_true (by first | (with_reducible assumption) | assumption)
       obtain ⟨ad681, e681, hx681_0, hx681_1⟩ := at_T37 HR0.out x8_1 p681 q681
       obtain rfl : ad680 = ad681 := (by injection e681)
       replace hx681_0 := (HB.out.cell (World.block_lt_of_cell? w _ hx681_0)).trans hx681_0
       replace hx681_1 := (HB.out.cell (World.block_lt_of_cell? w _ hx681_1)).trans hx681_1
       replace p681 := eq_true p681
       replace q681 := eq_true q681
       have hnb11 := NB679_678.out
       have hnc11 := NB678_679.out
       have hcz12_0 : wr.cell? ⟨gb679, 0, none⟩ = some (.int .i64 x680000_1) := (zq4 BK679.out 0).trans rfl
       have hcz12_1 : wr.cell? ⟨gb679, 1, none⟩ = some (.int .i64 x680001_1) := (zq4 BK679.out 1).trans rfl
       have hfz12_0 := zq5 BK679.out 0
       have hfz12_1 := zq5 BK679.out 1
       go_wp2
       go_roundg k1
       case measure => have := HK1.out; omega
       case rel => exact ⟨(wrap64 (x6_1 + 1)), (wrap64 (x8_1 + 1)), ((rd_T37 l0 x8_1).f0), ((rd_T37 l0 x8_1).f1), (by first | rfl | (simp; done) | (simp [*]; done)), (by first | rfl | (simp; done) | (simp [*]; done)), H', ⟨by have := HK1.out; omega⟩, ⟨by (with_reducible repeat (first | refine zq6 ?_ _ | refine zq8 ?_ | refine zq7 ?_ _)); refine blk_far ?_ NB678_679.out _; (with_reducible repeat (first | refine zq6 ?_ _ | refine zq8 ?_ | refine zq7 ?_ _)); refine blk_far ?_ NB678_679.out _; (with_reducible repeat (first | refine zq6 ?_ _ | refine zq8 ?_ | refine zq7 ?_ _)); exact BK678.out⟩, ⟨by (with_reducible repeat (first | refine zq6 ?_ _ | refine zq8 ?_ | refine zq7 ?_ _)); refine blk_put (cs := #[.int .i64 ((rd_T37 l0 x8_1).f0), .int .i64 x680001_1]) ?_ 1 _ rfl; (with_reducible repeat (first | refine zq6 ?_ _ | refine zq8 ?_ | refine zq7 ?_ _)); refine blk_put (cs := #[.int .i64 x680000_1, .int .i64 x680001_1]) ?_ 0 _ rfl; (with_reducible repeat (first | refine zq6 ?_ _ | refine zq8 ?_ | refine zq7 ?_ _)); exact BK679.out⟩, ⟨by repeat (first | (with_reducible first | exact HB.out | apply zq2 | apply zq1 | apply zqd | refine zq3 ?_ GE678.out | refine zq3 ?_ GE679.out) | exact HB.out)⟩⟩
      ·rw [if_neg c10] at H
       have c10b0 : (x6_1 == 0) = false := beq_eq_false_iff_ne.mpr c10
       have c10b1 : (x6_1 != 0) = true := bne_iff_ne.mpr c10
       have H' := Az.mk H
       clear H
       have p680 : 0 ≤ (x8_1 : Int) := of_decide_eq_true (by first | (with_reducible assumption) | assumption)
       have q680 : x8_1 < (l0.length : Int) := of_decide_eq_true (by first | (with_reducible assumption) | assumption)
       obtain ⟨ad680, e680, hx680_0, hx680_1⟩ := at_T37 HR0.out x8_1 p680 q680
       cases e680
       replace hx680_0 := (HB.out.cell (World.block_lt_of_cell? w _ hx680_0)).trans hx680_0
       replace hx680_1 := (HB.out.cell (World.block_lt_of_cell? w _ hx680_1)).trans hx680_1
       replace p680 := eq_true p680
       replace q680 := eq_true q680
       go_wp2
       go_roundg k1
       case measure => have := HK1.out; omega
       case rel => exact ⟨(wrap64 (x6_1 + 1)), (wrap64 (x8_1 + 1)), (x680000_1), (x680001_1), (by first | rfl | (simp; done) | (simp [*]; done)), (by first | rfl | (simp; done) | (simp [*]; done)), H', ⟨by have := HK1.out; omega⟩, ⟨by (with_reducible repeat (first | refine zq6 ?_ _ | refine zq8 ?_ | refine zq7 ?_ _)); exact BK678.out⟩, ⟨by (with_reducible repeat (first | refine zq6 ?_ _ | refine zq8 ?_ | refine zq7 ?_ _)); exact BK679.out⟩, ⟨by repeat (first | (with_reducible first | exact HB.out | apply zq2 | apply zq1 | apply zqd | refine zq3 ?_ GE678.out | refine zq3 ?_ GE679.out) | exact HB.out)⟩⟩
     ·rw [if_neg c9] at H
      have c9b0 : (((rd_T37 l0 x8_1).f0) == a1) = false := beq_eq_false_iff_ne.mpr c9
      have c9b1 : (((rd_T37 l0 x8_1).f0) != a1) = true := bne_iff_ne.mpr c9
      have H' := Az.mk H
      clear H
      have p680 : 0 ≤ (x8_1 : Int) := of_decide_eq_true (by first | (with_reducible assumption) | assumption)
      have q680 : x8_1 < (l0.length : Int) := of_decide_eq_true (by first | (with_reducible assumption) | assumption)
      obtain ⟨ad680, e680, hx680_0, hx680_1⟩ := at_T37 HR0.out x8_1 p680 q680
      cases e680
      replace hx680_0 := (HB.out.cell (World.block_lt_of_cell? w _ hx680_0)).trans hx680_0
      replace hx680_1 := (HB.out.cell (World.block_lt_of_cell? w _ hx680_1)).trans hx680_1
      replace p680 := eq_true p680
      replace q680 := eq_true q680
      go_wp2
      go_roundg k1
      case measure => have := HK1.out; omega
      case rel => exact ⟨(x6_1), (wrap64 (x8_1 + 1)), (x680000_1), (x680001_1), (by first | rfl | (simp; done) | (simp [*]; done)), (by first | rfl | (simp; done) | (simp [*]; done)), H', ⟨by have := HK1.out; omega⟩, ⟨by (with_reducible repeat (first | refine zq6 ?_ _ | refine zq8 ?_ | refine zq7 ?_ _)); exact BK678.out⟩, ⟨by (with_reducible repeat (first | refine zq6 ?_ _ | refine zq8 ?_ | refine zq7 ?_ _)); exact BK679.out⟩, ⟨by repeat (first | (with_reducible first | exact HB.out | apply zq2 | apply zq1 | apply zqd | refine zq3 ?_ GE678.out | refine zq3 ?_ GE679.out) | exact HB.out)⟩⟩
    ·rw [if_neg c8] at H
     exact absurd H (by simp)
   ·rw [if_neg c7] at H
    have c7b0 : decide (x8_1 < (l0.length : Int)) = false := decide_eq_false c7
    clear c7
    simp only [Option.some.injEq, Prod.mk.injEq] at H
    obtain ⟨rfl, rfl, rfl⟩ := H
    try go_wp2
    have n0_ := Az.mk (zq8 BK678.out)
    have n1_ := Az.mk (zq8 BK679.out)
    have n2_ := Az.mk (zqd HB.out)
    clear BK678
    clear BK679
    clear HB
    have BK678 := n0_
    have BK679 := n1_
    have HB := n2_
    clear n0_ n1_ n2_
    refine start_ (n := 4) (S := fun w' => w'.cell? ⟨gb679, 0, none⟩ = some (.int .i64 x680000_1) ∧ w'.cell? ⟨gb679, 1, none⟩ = some (.int .i64 x680001_1)) (ds := []) (bm 4 0) (by kernel_rfl) rfl rfl ⟨(zq4 BK679.out 0).trans rfl, (zq4 BK679.out 1).trans rfl⟩ (fun hHeld => ?_)
    generalize wr.drew = w13 at BK678 BK679 HB hHeld ⊢
    refine zP 0 (some 31) (bm 4 1) ?_
    refine zP 2 (some 4) (bm 4 5) ?_
    refine zU 1 (some 32) (bm 4 7) rfl hHeld (Or.inl ⟨by rfl, by rintro w' ⟨s0, s1⟩; go_simp; with_reducible rfl⟩) ?_
    refine one_ (i := 3) (N := none) (bm 4 15) rfl rfl (by kernel_rfl) (by decide) (fun K hK => ?_)
    have hs14 : w13.cell? ⟨gb678, 0, none⟩ = some (.int .i64 0) := (zq4 BK678.out 0).trans rfl
    have hfs14 := zq5 BK678.out 0
    have hns14_1 := NB679_678.out
    have hms14_1 := NB678_679.out
    have hs15 : w13.cell? ⟨gb678, 1, none⟩ = some (.int .i64 0) := (zq4 BK678.out 1).trans rfl
    have hfs15 := zq5 BK678.out 1
    have hns15_1 := NB679_678.out
    have hms15_1 := NB678_679.out
    refine skip_ (w1 := ?_) (by rfl) rfl ?_ ?_
    rotate_left
    ·go_simp
     rfl
    refine hK.out _ _ ⟨((cell_far (p := ⟨gb678, _, none⟩) NB679_678.out _).trans (((cell_far (p := ⟨gb678, _, none⟩) NB679_678.out _).trans (hHeld.1)))), ((cell_far (p := ⟨gb678, _, none⟩) NB679_678.out _).trans (((cell_far (p := ⟨gb678, _, none⟩) NB679_678.out _).trans (hHeld.2))))⟩ (fun hHeld => ?_)
    clear hK K
    refine done_ (by kernel_rfl) ?_
    try go_wp2
    refine bodyPost_ret (results_tc rfl _ _ gb678 37 #[.int .i64 x680000_1, .int .i64 x680001_1] (0, 0) _ rfl (by (with_reducible repeat (first | refine zq6 ?_ _ | refine zq8 ?_ | refine zq7 ?_ _)); refine blk_put (cs := #[.int .i64 x680000_1, .int .i64 0]) ?_ 1 _ rfl; (with_reducible repeat (first | refine zq6 ?_ _ | refine zq8 ?_ | refine zq7 ?_ _)); refine blk_put (cs := #[.int .i64 0, .int .i64 0]) ?_ 0 _ rfl; (with_reducible repeat (first | refine zq6 ?_ _ | refine zq8 ?_ | refine zq7 ?_ _)); exact BK678.out) Try.underlying37 rfl (by kernel_rfl)) rfl ?_
    exact ⟨by first | rfl | (simp [errW_none, errW_some] <;> rfl) | (simp [*, errW_none, errW_some] <;> rfl), by repeat (first | (with_reducible first | exact HB.out | apply zq2 | apply zq1 | apply zqd | refine zq3 ?_ GE678.out | refine zq3 ?_ GE679.out) | exact HB.out)⟩
end Go.Proofs.Ytkoimmeghdbodaa.Print
namespace Go.Proofs.Ytkoimmeghdbodaa.Print
open Go.RowKit Go.Proofs.YtkoimmeghdbodaaW.PrintWords Go.Proofs.YtkoimmeghdbodaaW.PrintLast Go.Proofs.YtkoimmeghdbodaaW.PrintMore
attribute [local go_sem] max2_int min2_int max_two min_two max_three min_three max_four min_four
mutual
def spec_l12Take.l0 : Nat → Int → List (S37) → Int → List (S37) → List Bool → Option ((List (S37)) × Bool)
 | 0, _, _, _, _, _ => none
 | k + 1, x0, x1, x2, x8, x9 => if (x8.length : Int) < x2 then (spec_l12Take.l1 k x0 x1 x2 x8 x9 (-1) 0 0 0 0) else (some (x8, true))
def spec_l12Take.l1 : Nat → Int → List (S37) → Int → List (S37) → List Bool → Int → Int → Int → Int → Int → Option ((List (S37)) × Bool)
 | 0, _, _, _, _, _, _, _, _, _, _ => none
 | k + 1, x0, x1, x2, x8, x9, x10, x11, x13, x689000, x689001 => if x13 < x0 then ((spec_l12Count.f k x1 x13).bind fun bt689 => (if 0 ≤ x13 then (if x13 < (x9.length : Int) then (if rdOf false x9 x13 = true then (spec_l12Take.l1 k x0 x1 x2 x8 x9 x10 x11 (wrap64 (x13 + 1)) x689000 x689001) else (if bt689.1 > x11 then (spec_l12Take.l1 k x0 x1 x2 x8 x9 x13 bt689.1 (wrap64 (x13 + 1)) bt689.2.1 bt689.2.2) else (spec_l12Take.l1 k x0 x1 x2 x8 x9 x10 x11 (wrap64 (x13 + 1)) x689000 x689001))) else (none)) else (none))) else (if x10 < 0 then (some ((([] : List (S37))), false)) else (if 0 ≤ x10 then (if x10 < (x9.length : Int) then (if x8.length < 8796093022208 then (spec_l12Take.l0 k x0 x1 x2 (x8 ++ [(⟨x689000, x689001⟩ : S37)]) (x9.set (x10 : Int).toNat true)) else (none)) else (none)) else (none)))
end
def spec_l12Take.f (k : Nat) (a0 : Int) (l1 : List (S37)) (a2 : Int) : Option ((List (S37)) × Bool) := if 0 ≤ a0 then (if (a0 : Int).toNat ≤ 281474976710656 then (spec_l12Take.l0 k a0 l1 a2 (([] : List (S37))) (List.replicate (a0 : Int).toNat false)) else (none)) else (none)
set_option maxHeartbeats 8000000 in
set_option maxRecDepth 100000 in
theorem spec_l12Take.calls (k : Nat) (a0 : Int) (A1 : Option Addr) (c1 : Nat) (l1 : List (S37)) (a2 : Int) (r1 : List (S37)) (r2 : Bool) (w : World) (hr1 : Kd.C k37 w A1 l1.length l1) (hc1 : l1.length ≤ c1) (h : spec_l12Take.f k a0 l1 a2 = some (r1, r2)) :
  Calls Try.prog 92 #[.int .i64 a0, .slice A1 l1.length c1, .int .i64 a2] w fun e w' => ∃ v0_ : Value, e = .returned (.tuple #[v0_, .bool r2]) ∧ Kd.R k37 37 w' w.heap.size (fun _ => True) v0_ r1 ∧ Below w.heap.size w w' := by
 have hu37 := Try.underlying37
 have HR1 := Az.mk hr1
 have HC1 := Az.mk hc1
 clear hr1 hc1
 have HB := Az.mk (Below.refl w.heap.size w)
 have H : (if 0 ≤ a0 then (if (a0 : Int).toNat ≤ 281474976710656 then (spec_l12Take.l0 k a0 l1 a2 (([] : List (S37))) (List.replicate (a0 : Int).toNat false)) else (none)) else (none)) = some (r1, r2) := h
 clear h
 obtain ⟨y682, hy682⟩ : ∃ y_ : List (S37), y_ = (([] : List (S37))) := ⟨_, rfl⟩
 replace H : (if 0 ≤ a0 then (if (a0 : Int).toNat ≤ 281474976710656 then (spec_l12Take.l0 k a0 l1 a2 y682 (List.replicate (a0 : Int).toNat false)) else (none)) else (none)) = some (r1, r2) := by first | (rw [hy682]; with_reducible exact H) | (have H2_ := (Option.bind_some _ _).symm.trans H; rw [hy682]; with_reducible exact H2_) | (have H2_ := (Option.bind_some _ _).symm.trans H; with_reducible exact H2_) | with_reducible exact H | (rw [hy682]; exact H) | exact H
 have Ny682 := Az.mk hy682
 clear hy682
 by_cases c4 : 0 ≤ a0
 ·rw [if_pos c4] at H
  have c4b0 := eq_true c4
  have c4b1 : decide (0 ≤ a0) = true := decide_eq_true c4
  clear c4
  by_cases c5 : (a0 : Int).toNat ≤ 281474976710656
  ·rw [if_pos c5] at H
   have c5b0 := eq_true c5
   have c5b1 : decide ((a0 : Int).toNat ≤ 281474976710656) = true := decide_eq_true c5
   clear c5
   obtain ⟨y685, hy685⟩ : ∃ y_ : List Bool, y_ = (List.replicate (a0 : Int).toNat false) := ⟨_, rfl⟩
   replace H : (spec_l12Take.l0 k a0 l1 a2 y682 y685) = some (r1, r2) := by first | (rw [hy685]; with_reducible exact H) | (have H2_ := (Option.bind_some _ _).symm.trans H; rw [hy685]; with_reducible exact H2_) | (have H2_ := (Option.bind_some _ _).symm.trans H; with_reducible exact H2_) | with_reducible exact H | (rw [hy685]; exact H) | exact H
   have Ny685 := Az.mk hy685
   clear hy685
   have H' := Az.mk H
   clear H
   go_enter Try.func92, Try.ntmps92
   go_wp2_with (first | ((with_reducible refine zqg (N := 16) rfl ?_); refine Kd.R_lit k37 _ 37 ?hg (N := 16) ?hd (xs := ([] : List (S37))) (inner := []) (ok := fun _ => True) (okp := fun _ => True) ?hr ?hp (fun _ hk => hk) trivial (Below.refl _ _) (Nat.le_refl _) (by simp) ?_; (case hd => rfl); (case hg => rfl); (case hr => first | (go_simp; done) | (go_simp; rfl)); (case hp => exact (Reps.none _ _)); intro v683 w6 ho7 hb hg_ hnew_; clear hg_ hnew_; (first | rw [← Ny682.out] at ho7 | (simp only [Int.reduceToNat] at ho7; rw [← Ny682.out] at ho7)); have n0_ := Az.mk (Kd.R_lower ho7 (below_size zB)); have n1_ := Az.mk (below_step zB hb); clear HB; have HO684 := n0_; have HB := n1_; clear n0_ n1_; clear hb ho7) | ((with_reducible refine zqg (N := 18) rfl ?_); refine Kd.R_make Kd.bool _ 4 rfl (N := 18) rfl 139 _ _ rfl a0 rfl rfl Try.underlying139 (.bool false) 1 info4 rfl (by decide) (by omega) false (ok := fun _ => True) (okp := fun _ => True) rfl (fun _ hk => hk) trivial (of_decide_eq_true (by first | (with_reducible assumption) | assumption)) (Nat.le_trans (Nat.mul_le_mul_right _ (of_decide_eq_true (by first | (with_reducible assumption) | assumption) : a0.toNat ≤ 281474976710656)) (by omega)) (Below.refl _ _) (Nat.le_refl _) ?_; intro v686 w8 ho9 hb hg_ hnew_; clear hg_ hnew_; (first | rw [← Ny685.out] at ho9 | (simp only [Int.reduceToNat] at ho9; rw [← Ny685.out] at ho9)); have n0_ := Az.mk (Kd.R_below (by (with_reducible repeat (first | apply Kd.R_alloc | apply Kd.R_drewN | apply Kd.R_drew)); exact HO684.out) hb); have n1_ := Az.mk (Kd.R_lower ho9 (below_size zB)); have n2_ := Az.mk (below_step zB hb); clear HO684; clear HB; have HO684 := n0_; have HO687 := n1_; have HB := n2_; clear n0_ n1_ n2_; clear hb ho9))
   go_loopg [8] k (fun kq v8 w' => ∃ (x8_1 : List (S37)) (x9_1 : List Bool), Az (spec_l12Take.l0 kq a0 l1 a2 x8_1 x9_1 = some (r1, r2)) ∧ Az (kq ≤ k) ∧ Az (Kd.R k37 37 w' w.heap.size (fun _ => True) v8 x8_1) ∧ Az (Kd.R Kd.bool 4 w' w.heap.size (fun _ => True) v686 x9_1) ∧ Az (Below w.heap.size w w'))
   case atStart => exact ⟨(y682), (y685), H', ⟨Nat.le_refl _⟩, ⟨by (with_reducible repeat (first | apply Kd.R_alloc | apply Kd.R_drewN | apply Kd.R_drew)); exact HO684.out⟩, ⟨by (with_reducible repeat (first | apply Kd.R_alloc | apply Kd.R_drewN | apply Kd.R_drew)); exact HO687.out⟩, ⟨by repeat (first | (with_reducible first | exact HB.out | apply zq2 | apply zq1 | apply zqd) | exact HB.out)⟩⟩
   case round =>
    clear H'
    try clear c1
    try clear p2
    try clear c4
    try clear c4b0
    try clear c4b1
    try clear c5
    try clear c5b0
    try clear c5b1
    try clear c9
    obtain ⟨x8_1, x9_1, HA, HK1, HO_8, HO_9, HB⟩ := hrel
    cases gk with
    | zero => exact absurd HA.out (by simp [spec_l12Take.l0])
    | succ k1 =>
     have H := HA.out
     clear HA
     simp only [spec_l12Take.l0] at H
     by_cases c10 : (x8_1.length : Int) < a2
     ·rw [if_pos c10] at H
      have c10b0 : decide ((x8_1.length : Int) < a2) = true := decide_eq_true c10
      clear c10
      have H' := Az.mk H
      clear H
      obtain ⟨Ao11, co11, eo11⟩ := Kd.R_slice HO_8.out
      subst eo11
      go_wp2_with (first | ((with_reducible refine zqg (N := 12) rfl ?_); refine zqb ?hg (N := 12) ?hd (cs := #[.int .i64 0, .int .i64 0]) (t := 37) ?hr ?_; (case hd => rfl); (case hg => rfl); (case hr => first | (go_simp; done) | (go_simp; rfl)); intro gb688 hg w12 hbox hb; have n0_ := Az.mk (Kd.R_below (Kd.R_elderB (by (with_reducible repeat (first | apply Kd.R_alloc | apply Kd.R_drewN | apply Kd.R_drew)); exact HO_8.out) gb688 (Nat.le_of_eq hg.symm)) hb); have n1_ := Az.mk (Kd.R_below (by (with_reducible repeat (first | apply Kd.R_alloc | apply Kd.R_drewN | apply Kd.R_drew)); exact HO_9.out) hb); have n2_ := Az.mk (below_step zB hb); have n3_ := Az.mk (hbox); have n4_ := Az.mk ((by rw [hg]; exact (below_size zB) : w.heap.size ≤ gb688)); have n5_ := Az.mk ((by rw [hg]; exact (below_size zB) : w.heap.size ≤ gb688)); clear HO_8; clear HO_9; clear HB; have HO_8 := n0_; have HO_9 := n1_; have HB := n2_; have BK688 := n3_; have GW688 := n4_; have GE688 := n5_; clear n0_ n1_ n2_ n3_ n4_ n5_; clear hb hbox hg; have hcz13_0 : w12.cell? ⟨gb688, 0, none⟩ = some (.int .i64 0) := (zq4 BK688.out 0).trans rfl; have hcz13_1 : w12.cell? ⟨gb688, 1, none⟩ = some (.int .i64 0) := (zq4 BK688.out 1).trans rfl; have hfz13_0 := zq5 BK688.out 0; have hfz13_1 := zq5 BK688.out 1))
      go_loopg [10, 11, 13] k1 (fun kq v10 v11 v13 w' => ∃ (x10_2 : Int) (x11_2 : Int) (x13_2 : Int) (x689000_2 : Int) (x689001_2 : Int), v10 = .int .i64 x10_2 ∧ v11 = .int .i64 x11_2 ∧ v13 = .int .i64 x13_2 ∧ Az (spec_l12Take.l1 kq a0 l1 a2 x8_1 x9_1 x10_2 x11_2 x13_2 x689000_2 x689001_2 = some (r1, r2)) ∧ Az (kq ≤ k1) ∧ Az (Kd.R k37 37 w' w.heap.size (fun k_ => k_ ≠ gb688) (.slice Ao11 x8_1.length co11) x8_1) ∧ Az (Kd.R Kd.bool 4 w' w.heap.size (fun _ => True) v686 x9_1) ∧ Az (w'.heap[gb688]? = some (.cells #[.int .i64 x689000_2, .int .i64 x689001_2] 37 (0, 0))) ∧ Az (Below w.heap.size w w'))
      case atStart => exact ⟨((-1)), (0), (0), (0), (0), (by first | rfl | (simp; done) | (simp [*]; done)), (by first | rfl | (simp; done) | (simp [*]; done)), (by first | rfl | (simp; done) | (simp [*]; done)), H', ⟨Nat.le_refl _⟩, ⟨by (with_reducible repeat (first | apply Kd.R_alloc | apply Kd.R_drewN | apply Kd.R_drew)); exact Kd.R_mono (Kd.R_far (p := ⟨gb688, 1, none⟩) (Kd.R_far (p := ⟨gb688, 0, none⟩) (Kd.R_mono HO_8.out (fun k_ hk => (⟨hk, hk.2⟩ : _ ∧ k_ ≠ gb688))) (fun _ hk => hk.2) (.int .i64 0)) (fun _ hk => hk.2) (.int .i64 0)) (fun _ hk => hk.1.2)⟩, ⟨by (with_reducible repeat (first | apply Kd.R_alloc | apply Kd.R_drewN | apply Kd.R_drew)); exact Kd.R_mono (Kd.R_far (p := ⟨gb688, 1, none⟩) (Kd.R_far (p := ⟨gb688, 0, none⟩) (Kd.R_types HO_9.out BK688.out (by decide)) (fun _ hk => hk.2) (.int .i64 0)) (fun _ hk => hk.2) (.int .i64 0)) (fun _ hk => trivial)⟩, ⟨by (with_reducible repeat (first | refine zq6 ?_ _ | refine zq8 ?_ | refine zq7 ?_ _)); refine blk_put (cs := #[.int .i64 0, .int .i64 0]) ?_ 1 _ rfl; (with_reducible repeat (first | refine zq6 ?_ _ | refine zq8 ?_ | refine zq7 ?_ _)); refine blk_put (cs := #[.int .i64 0, .int .i64 0]) ?_ 0 _ rfl; (with_reducible repeat (first | refine zq6 ?_ _ | refine zq8 ?_ | refine zq7 ?_ _)); exact BK688.out⟩, ⟨by repeat (first | (with_reducible first | exact HB.out | apply zq2 | apply zq1 | apply zqd | refine zq3 ?_ GE688.out) | exact HB.out)⟩⟩
      case round =>
       clear H'
       try clear c1
       try clear p2
       try clear c4
       try clear c4b0
       try clear c4b1
       try clear c5
       try clear c5b0
       try clear c5b1
       try clear c9
       try clear c10
       try clear c10b0
       try clear hcz13_0
       try clear hcz13_1
       try clear hfz13_0
       try clear hfz13_1
       try clear p2
       obtain ⟨x10_2, x11_2, x13_2, x689000_2, x689001_2, rfl, rfl, rfl, HA, HK2, HO_8, HO_9, BK688, HB⟩ := hrel
       cases gk with
       | zero => exact absurd HA.out (by simp [spec_l12Take.l1])
       | succ k2 =>
        have H := HA.out
        clear HA
        simp only [spec_l12Take.l1] at H
        by_cases c14 : x13_2 < a0
        ·rw [if_pos c14] at H
         have c14b0 : decide (x13_2 < a0) = true := decide_eq_true c14
         clear c14
         replace H := Option.bind_eq_some_iff.mp H
         obtain ⟨⟨t689, t690, t691⟩, A150, H⟩ := H
         replace H : (if 0 ≤ x13_2 then (if x13_2 < (x9_1.length : Int) then (if rdOf false x9_1 x13_2 = true then (spec_l12Take.l1 k2 a0 l1 a2 x8_1 x9_1 x10_2 x11_2 (wrap64 (x13_2 + 1)) x689000_2 x689001_2) else (if t689 > x11_2 then (spec_l12Take.l1 k2 a0 l1 a2 x8_1 x9_1 x13_2 t689 (wrap64 (x13_2 + 1)) t690 t691) else (spec_l12Take.l1 k2 a0 l1 a2 x8_1 x9_1 x10_2 x11_2 (wrap64 (x13_2 + 1)) x689000_2 x689001_2))) else (none)) else (none)) = some (r1, r2) := H
         have A15 := Az.mk A150
         clear A150
         by_cases c16 : 0 ≤ x13_2
         ·rw [if_pos c16] at H
          have c16b0 : decide (0 ≤ x13_2) = true := decide_eq_true c16
          clear c16
          by_cases c17 : x13_2 < (x9_1.length : Int)
          ·rw [if_pos c17] at H
           have c17b0 : decide (x13_2 < (x9_1.length : Int)) = true := decide_eq_true c17
           clear c17
           obtain ⟨bq18, hbq18⟩ : ∃ b_ : Bool, b_ = (rdOf false x9_1 x13_2) := ⟨_, rfl⟩
           replace H : (if bq18 = true then (spec_l12Take.l1 k2 a0 l1 a2 x8_1 x9_1 x10_2 x11_2 (wrap64 (x13_2 + 1)) x689000_2 x689001_2) else (if t689 > x11_2 then (spec_l12Take.l1 k2 a0 l1 a2 x8_1 x9_1 x13_2 t689 (wrap64 (x13_2 + 1)) t690 t691) else (spec_l12Take.l1 k2 a0 l1 a2 x8_1 x9_1 x10_2 x11_2 (wrap64 (x13_2 + 1)) x689000_2 x689001_2))) = some (r1, r2) := by rw [← hbq18] at H; exact H
           have Nbq18 := Az.mk hbq18
           clear hbq18
           by_cases c19 : bq18 = true
           ·subst c19
            have H1 : (spec_l12Take.l1 k2 a0 l1 a2 x8_1 x9_1 x10_2 x11_2 (wrap64 (x13_2 + 1)) x689000_2 x689001_2) = some (r1, r2) := by rw [if_pos rfl] at H; exact H
            clear H
            have H := H1
            clear H1
            have H' := Az.mk H
            clear H
            go_wp2_with (first | ((with_reducible refine gate_callee (f := 118) rfl ?_); refine zq9 (some 32) rfl rfl Try.func118 (by kernel_rfl) rfl #[.slice A1 l1.length c1, .int .i64 x13_2] rfl (by (try simp only [List.map_toArray, List.map_cons, List.map_nil]); first | done | rfl | (simp only [List.length_drop, List.length_take]; rfl)) ?_; (with_reducible refine (spec_l12Count.calls k2 _ _ l1 x13_2 t689 t690 t691 _ ?side1 ?side2 A15.out).mono ?_); (case side1 => repeat (first | exact (Kd.C_below HR1.out HB.out) | (with_reducible refine Kd.C_alloc ?_ _) | (with_reducible refine Kd.C_drewN ?_ _) | (with_reducible refine Kd.C_drew ?_))); (case side2 => exact HC1.out); rintro e w20 ⟨rfl, hb⟩; refine ⟨_, rfl, ?_⟩; have n0_ := Az.mk (Kd.R_below (by (with_reducible repeat (first | apply Kd.R_alloc | apply Kd.R_drewN | apply Kd.R_drew)); exact HO_8.out) hb); have n1_ := Az.mk (Kd.R_below (by (with_reducible repeat (first | apply Kd.R_alloc | apply Kd.R_drewN | apply Kd.R_drew)); exact HO_9.out) hb); have n2_ := Az.mk (blk_below (g := gb688) (o := .cells #[.int .i64 x689000_2, .int .i64 x689001_2] 37 (0, 0)) (by (with_reducible repeat (first | refine zq6 ?_ _ | refine zq8 ?_ | refine zq7 ?_ _)); exact BK688.out) hb); have n3_ := Az.mk (below_step (by repeat (first | (with_reducible first | exact HB.out | apply zq2 | apply zq1 | apply zqd | refine zq3 ?_ GE688.out) | exact HB.out)) hb); clear HO_8; clear HO_9; clear BK688; clear HB; have HO_8 := n0_; have HO_9 := n1_; have BK688 := n2_; have HB := n3_; clear n0_ n1_ n2_ n3_; (try clear hb); (try clear hb2); (try clear hk); (try clear hi)) | ((with_reducible refine zqg (N := 15) rfl ?_); refine zqb ?hg (N := 15) ?hd (cs := #[.int .i64 0, .int .i64 0]) (t := 37) ?hr ?_; (case hd => rfl); (case hg => rfl); (case hr => first | (go_simp; done) | (go_simp; rfl)); intro gb692 hg w21 hbox hb; have n0_ := Az.mk (Kd.R_below (Kd.R_elderB (by (with_reducible repeat (first | apply Kd.R_alloc | apply Kd.R_drewN | apply Kd.R_drew)); exact HO_8.out) gb692 (Nat.le_of_eq hg.symm)) hb); have n1_ := Az.mk (Kd.R_below (by (with_reducible repeat (first | apply Kd.R_alloc | apply Kd.R_drewN | apply Kd.R_drew)); exact HO_9.out) hb); have n2_ := Az.mk (blk_below (g := gb688) (o := .cells #[.int .i64 x689000_2, .int .i64 x689001_2] 37 (0, 0)) (by (with_reducible repeat (first | refine zq6 ?_ _ | refine zq8 ?_ | refine zq7 ?_ _)); exact BK688.out) hb); have n3_ := Az.mk (below_step (by repeat (first | (with_reducible first | exact HB.out | apply zq2 | apply zq1 | apply zqd | refine zq3 ?_ GE688.out) | exact HB.out)) hb); have n4_ := Az.mk (hbox); have n5_ := Az.mk ((by rw [hg]; exact (below_size (by repeat (first | (with_reducible first | exact HB.out | apply zq2 | apply zq1 | apply zqd | refine zq3 ?_ GE688.out) | exact HB.out))) : w.heap.size ≤ gb692)); have n6_ := Az.mk ((by rw [hg]; exact (below_size (by repeat (first | (with_reducible first | exact HB.out | apply zq2 | apply zq1 | apply zqd | refine zq3 ?_ GE688.out) | exact HB.out))) : w.heap.size ≤ gb692)); have n7_ := Az.mk ((by rw [hg]; exact Nat.ne_of_lt (blk_lt (g := gb688) (o := .cells #[.int .i64 x689000_2, .int .i64 x689001_2] 37 (0, 0)) (by (with_reducible repeat (first | refine zq6 ?_ _ | refine zq8 ?_ | refine zq7 ?_ _)); exact BK688.out)) : gb688 ≠ gb692)); have n8_ := Az.mk ((by rw [hg]; exact Nat.ne_of_gt (blk_lt (g := gb688) (o := .cells #[.int .i64 x689000_2, .int .i64 x689001_2] 37 (0, 0)) (by (with_reducible repeat (first | refine zq6 ?_ _ | refine zq8 ?_ | refine zq7 ?_ _)); exact BK688.out)) : gb692 ≠ gb688)); clear HO_8; clear HO_9; clear BK688; clear HB; have HO_8 := n0_; have HO_9 := n1_; have BK688 := n2_; have HB := n3_; have BK692 := n4_; have GW692 := n5_; have GE692 := n6_; have NB688_692 := n7_; have NB692_688 := n8_; clear n0_ n1_ n2_ n3_ n4_ n5_ n6_ n7_ n8_; clear hb hbox hg; have hnb22 := NB692_688.out; have hnc22 := NB688_692.out; have hcz23_0 : w21.cell? ⟨gb692, 0, none⟩ = some (.int .i64 0) := (zq4 BK692.out 0).trans rfl; have hcz23_1 : w21.cell? ⟨gb692, 1, none⟩ = some (.int .i64 0) := (zq4 BK692.out 1).trans rfl; have hfz23_0 := zq5 BK692.out 0; have hfz23_1 := zq5 BK692.out 1; obtain ⟨Ao24, co24, eo24⟩ := Kd.R_slice HO_9.out; subst eo24; have p693 : 0 ≤ (x13_2 : Int) := of_decide_eq_true (by first | (with_reducible assumption) | assumption); have q693 : x13_2 < (x9_1.length : Int) := of_decide_eq_true (by first | (with_reducible assumption) | assumption); obtain ⟨ad693, e693, hx693_0⟩ := Kd.at_bool (Kd.R_reads' HO_9.out).2.2 x13_2 p693 q693; (try rw [← Nbq18.out] at hx693_0); cases e693; have hn693_0 : ad693.block ≠ gb692 := Kd.own_blk (Kd.R_ne HO_9.out BK692.out (by decide)); have hn693_1 : ad693.block ≠ gb692 := Kd.own_blk (Kd.R_ne HO_9.out BK692.out (by decide)); replace hx693_0 := (cell_far (p := ⟨gb692, 0, none⟩) (by first | (rw [add_block]; exact hn693_0) | (show (Addr.add _ _).block ≠ _; rw [add_block]; exact hn693_0) | exact hn693_0) (.int .i64 t690)).trans hx693_0; replace hx693_0 := (cell_far (p := ⟨gb692, 1, none⟩) (by first | (rw [add_block]; exact hn693_1) | (show (Addr.add _ _).block ≠ _; rw [add_block]; exact hn693_1) | exact hn693_1) (.int .i64 t691)).trans hx693_0; clear hn693_0; clear hn693_1; replace p693 := eq_true p693; replace q693 := eq_true q693))
            go_roundg k2
            case measure => have := HK1.out; have := HK2.out; omega
            case rel => exact ⟨(x10_2), (x11_2), (wrap64 (x13_2 + 1)), (x689000_2), (x689001_2), (by first | rfl | (simp; done) | (simp [*]; done)), (by first | rfl | (simp; done) | (simp [*]; done)), (by first | rfl | (simp; done) | (simp [*]; done)), H', ⟨by have := HK1.out; have := HK2.out; omega⟩, ⟨by (with_reducible repeat (first | apply Kd.R_alloc | apply Kd.R_drewN | apply Kd.R_drew)); exact Kd.R_mono (Kd.R_far (p := ⟨gb692, 1, none⟩) (Kd.R_far (p := ⟨gb692, 0, none⟩) (Kd.R_mono HO_8.out (fun k_ hk => (⟨hk, hk.2⟩ : _ ∧ k_ ≠ gb692))) (fun _ hk => hk.2) (.int .i64 t690)) (fun _ hk => hk.2) (.int .i64 t691)) (fun _ hk => hk.1.1)⟩, ⟨by (with_reducible repeat (first | apply Kd.R_alloc | apply Kd.R_drewN | apply Kd.R_drew)); exact Kd.R_mono (Kd.R_far (p := ⟨gb692, 1, none⟩) (Kd.R_far (p := ⟨gb692, 0, none⟩) (Kd.R_types HO_9.out BK692.out (by decide)) (fun _ hk => hk.2) (.int .i64 t690)) (fun _ hk => hk.2) (.int .i64 t691)) (fun _ hk => trivial)⟩, ⟨by (with_reducible repeat (first | refine zq6 ?_ _ | refine zq8 ?_ | refine zq7 ?_ _)); refine blk_far ?_ NB688_692.out _; (with_reducible repeat (first | refine zq6 ?_ _ | refine zq8 ?_ | refine zq7 ?_ _)); refine blk_far ?_ NB688_692.out _; (with_reducible repeat (first | refine zq6 ?_ _ | refine zq8 ?_ | refine zq7 ?_ _)); exact BK688.out⟩, ⟨by repeat (first | (with_reducible first | exact HB.out | apply zq2 | apply zq1 | apply zqd | refine zq3 ?_ GE688.out | refine zq3 ?_ GE692.out) | exact HB.out)⟩⟩
           ·replace c19 := Bool.eq_false_iff.mpr c19
            subst c19
            have H1 : (if t689 > x11_2 then (spec_l12Take.l1 k2 a0 l1 a2 x8_1 x9_1 x13_2 t689 (wrap64 (x13_2 + 1)) t690 t691) else (spec_l12Take.l1 k2 a0 l1 a2 x8_1 x9_1 x10_2 x11_2 (wrap64 (x13_2 + 1)) x689000_2 x689001_2)) = some (r1, r2) := by rw [if_neg (show ¬ (false = true) by decide)] at H; exact H
            clear H
            have H := H1
            clear H1
            by_cases c25 : t689 > x11_2
            ·rw [if_pos c25] at H
             have c25b0 : decide (x11_2 < t689) = true := decide_eq_true c25
             clear c25
             have H' := Az.mk H
             clear H
             go_wp2_with (first | ((with_reducible refine gate_callee (f := 118) rfl ?_); refine zq9 (some 32) rfl rfl Try.func118 (by kernel_rfl) rfl #[.slice A1 l1.length c1, .int .i64 x13_2] rfl (by (try simp only [List.map_toArray, List.map_cons, List.map_nil]); first | done | rfl | (simp only [List.length_drop, List.length_take]; rfl)) ?_; (with_reducible refine (spec_l12Count.calls k2 _ _ l1 x13_2 t689 t690 t691 _ ?side1 ?side2 A15.out).mono ?_); (case side1 => repeat (first | exact (Kd.C_below HR1.out HB.out) | (with_reducible refine Kd.C_alloc ?_ _) | (with_reducible refine Kd.C_drewN ?_ _) | (with_reducible refine Kd.C_drew ?_))); (case side2 => exact HC1.out); rintro e w26 ⟨rfl, hb⟩; refine ⟨_, rfl, ?_⟩; have n0_ := Az.mk (Kd.R_below (by (with_reducible repeat (first | apply Kd.R_alloc | apply Kd.R_drewN | apply Kd.R_drew)); exact HO_8.out) hb); have n1_ := Az.mk (Kd.R_below (by (with_reducible repeat (first | apply Kd.R_alloc | apply Kd.R_drewN | apply Kd.R_drew)); exact HO_9.out) hb); have n2_ := Az.mk (blk_below (g := gb688) (o := .cells #[.int .i64 x689000_2, .int .i64 x689001_2] 37 (0, 0)) (by (with_reducible repeat (first | refine zq6 ?_ _ | refine zq8 ?_ | refine zq7 ?_ _)); exact BK688.out) hb); have n3_ := Az.mk (below_step (by repeat (first | (with_reducible first | exact HB.out | apply zq2 | apply zq1 | apply zqd | refine zq3 ?_ GE688.out) | exact HB.out)) hb); clear HO_8; clear HO_9; clear BK688; clear HB; have HO_8 := n0_; have HO_9 := n1_; have BK688 := n2_; have HB := n3_; clear n0_ n1_ n2_ n3_; (try clear hb); (try clear hb2); (try clear hk); (try clear hi)) | ((with_reducible refine zqg (N := 15) rfl ?_); refine zqb ?hg (N := 15) ?hd (cs := #[.int .i64 0, .int .i64 0]) (t := 37) ?hr ?_; (case hd => rfl); (case hg => rfl); (case hr => first | (go_simp; done) | (go_simp; rfl)); intro gb692 hg w27 hbox hb; have n0_ := Az.mk (Kd.R_below (Kd.R_elderB (by (with_reducible repeat (first | apply Kd.R_alloc | apply Kd.R_drewN | apply Kd.R_drew)); exact HO_8.out) gb692 (Nat.le_of_eq hg.symm)) hb); have n1_ := Az.mk (Kd.R_below (by (with_reducible repeat (first | apply Kd.R_alloc | apply Kd.R_drewN | apply Kd.R_drew)); exact HO_9.out) hb); have n2_ := Az.mk (blk_below (g := gb688) (o := .cells #[.int .i64 x689000_2, .int .i64 x689001_2] 37 (0, 0)) (by (with_reducible repeat (first | refine zq6 ?_ _ | refine zq8 ?_ | refine zq7 ?_ _)); exact BK688.out) hb); have n3_ := Az.mk (below_step (by repeat (first | (with_reducible first | exact HB.out | apply zq2 | apply zq1 | apply zqd | refine zq3 ?_ GE688.out) | exact HB.out)) hb); have n4_ := Az.mk (hbox); have n5_ := Az.mk ((by rw [hg]; exact (below_size (by repeat (first | (with_reducible first | exact HB.out | apply zq2 | apply zq1 | apply zqd | refine zq3 ?_ GE688.out) | exact HB.out))) : w.heap.size ≤ gb692)); have n6_ := Az.mk ((by rw [hg]; exact (below_size (by repeat (first | (with_reducible first | exact HB.out | apply zq2 | apply zq1 | apply zqd | refine zq3 ?_ GE688.out) | exact HB.out))) : w.heap.size ≤ gb692)); have n7_ := Az.mk ((by rw [hg]; exact Nat.ne_of_lt (blk_lt (g := gb688) (o := .cells #[.int .i64 x689000_2, .int .i64 x689001_2] 37 (0, 0)) (by (with_reducible repeat (first | refine zq6 ?_ _ | refine zq8 ?_ | refine zq7 ?_ _)); exact BK688.out)) : gb688 ≠ gb692)); have n8_ := Az.mk ((by rw [hg]; exact Nat.ne_of_gt (blk_lt (g := gb688) (o := .cells #[.int .i64 x689000_2, .int .i64 x689001_2] 37 (0, 0)) (by (with_reducible repeat (first | refine zq6 ?_ _ | refine zq8 ?_ | refine zq7 ?_ _)); exact BK688.out)) : gb692 ≠ gb688)); clear HO_8; clear HO_9; clear BK688; clear HB; have HO_8 := n0_; have HO_9 := n1_; have BK688 := n2_; have HB := n3_; have BK692 := n4_; have GW692 := n5_; have GE692 := n6_; have NB688_692 := n7_; have NB692_688 := n8_; clear n0_ n1_ n2_ n3_ n4_ n5_ n6_ n7_ n8_; clear hb hbox hg; have hnb28 := NB692_688.out; have hnc28 := NB688_692.out; have hcz29_0 : w27.cell? ⟨gb692, 0, none⟩ = some (.int .i64 0) := (zq4 BK692.out 0).trans rfl; have hcz29_1 : w27.cell? ⟨gb692, 1, none⟩ = some (.int .i64 0) := (zq4 BK692.out 1).trans rfl; have hfz29_0 := zq5 BK692.out 0; have hfz29_1 := zq5 BK692.out 1; obtain ⟨Ao30, co30, eo30⟩ := Kd.R_slice HO_9.out; subst eo30; have p693 : 0 ≤ (x13_2 : Int) := of_decide_eq_true (by first | (with_reducible assumption) | assumption); have q693 : x13_2 < (x9_1.length : Int) := of_decide_eq_true (by first | (with_reducible assumption) | assumption); obtain ⟨ad693, e693, hx693_0⟩ := Kd.at_bool (Kd.R_reads' HO_9.out).2.2 x13_2 p693 q693; (try rw [← Nbq18.out] at hx693_0); cases e693; have hn693_0 : ad693.block ≠ gb692 := Kd.own_blk (Kd.R_ne HO_9.out BK692.out (by decide)); have hn693_1 : ad693.block ≠ gb692 := Kd.own_blk (Kd.R_ne HO_9.out BK692.out (by decide)); replace hx693_0 := (cell_far (p := ⟨gb692, 0, none⟩) (by first | (rw [add_block]; exact hn693_0) | (show (Addr.add _ _).block ≠ _; rw [add_block]; exact hn693_0) | exact hn693_0) (.int .i64 t690)).trans hx693_0; replace hx693_0 := (cell_far (p := ⟨gb692, 1, none⟩) (by first | (rw [add_block]; exact hn693_1) | (show (Addr.add _ _).block ≠ _; rw [add_block]; exact hn693_1) | exact hn693_1) (.int .i64 t691)).trans hx693_0; clear hn693_0; clear hn693_1; replace p693 := eq_true p693; replace q693 := eq_true q693; have hcz31_0 : w27.cell? ⟨gb688, 0, none⟩ = some (.int .i64 x689000_2) := (zq4 BK688.out 0).trans rfl; have hcz31_1 : w27.cell? ⟨gb688, 1, none⟩ = some (.int .i64 x689001_2) := (zq4 BK688.out 1).trans rfl; have hfz31_0 := zq5 BK688.out 0; have hfz31_1 := zq5 BK688.out 1))
             go_roundg k2
             case measure => have := HK1.out; have := HK2.out; omega
             case rel => exact ⟨(x13_2), (t689), (wrap64 (x13_2 + 1)), (t690), (t691), (by first | rfl | (simp; done) | (simp [*]; done)), (by first | rfl | (simp; done) | (simp [*]; done)), (by first | rfl | (simp; done) | (simp [*]; done)), H', ⟨by have := HK1.out; have := HK2.out; omega⟩, ⟨by (with_reducible repeat (first | apply Kd.R_alloc | apply Kd.R_drewN | apply Kd.R_drew)); exact Kd.R_mono (Kd.R_far (p := ⟨gb688, 1, none⟩) (Kd.R_far (p := ⟨gb688, 0, none⟩) (Kd.R_far (p := ⟨gb692, 1, none⟩) (Kd.R_far (p := ⟨gb692, 0, none⟩) (Kd.R_mono (Kd.R_mono HO_8.out (fun k_ hk => (⟨hk, hk.2⟩ : _ ∧ k_ ≠ gb692))) (fun k_ hk => (⟨hk, hk.1.1⟩ : _ ∧ k_ ≠ gb688))) (fun _ hk => hk.1.2) (.int .i64 t690)) (fun _ hk => hk.1.2) (.int .i64 t691)) (fun _ hk => hk.2) (.int .i64 t690)) (fun _ hk => hk.2) (.int .i64 t691)) (fun _ hk => hk.1.1.1)⟩, ⟨by (with_reducible repeat (first | apply Kd.R_alloc | apply Kd.R_drewN | apply Kd.R_drew)); exact Kd.R_mono (Kd.R_far (p := ⟨gb688, 1, none⟩) (Kd.R_far (p := ⟨gb688, 0, none⟩) (Kd.R_far (p := ⟨gb692, 1, none⟩) (Kd.R_far (p := ⟨gb692, 0, none⟩) (Kd.R_types (Kd.R_types HO_9.out BK692.out (by decide)) BK688.out (by decide)) (fun _ hk => hk.1.2) (.int .i64 t690)) (fun _ hk => hk.1.2) (.int .i64 t691)) (fun _ hk => hk.2) (.int .i64 t690)) (fun _ hk => hk.2) (.int .i64 t691)) (fun _ hk => trivial)⟩, ⟨by (with_reducible repeat (first | refine zq6 ?_ _ | refine zq8 ?_ | refine zq7 ?_ _)); refine blk_put (cs := #[.int .i64 t690, .int .i64 x689001_2]) ?_ 1 _ rfl; (with_reducible repeat (first | refine zq6 ?_ _ | refine zq8 ?_ | refine zq7 ?_ _)); refine blk_put (cs := #[.int .i64 x689000_2, .int .i64 x689001_2]) ?_ 0 _ rfl; (with_reducible repeat (first | refine zq6 ?_ _ | refine zq8 ?_ | refine zq7 ?_ _)); refine blk_far ?_ NB688_692.out _; (with_reducible repeat (first | refine zq6 ?_ _ | refine zq8 ?_ | refine zq7 ?_ _)); refine blk_far ?_ NB688_692.out _; (with_reducible repeat (first | refine zq6 ?_ _ | refine zq8 ?_ | refine zq7 ?_ _)); exact BK688.out⟩, ⟨by repeat (first | (with_reducible first | exact HB.out | apply zq2 | apply zq1 | apply zqd | refine zq3 ?_ GE688.out | refine zq3 ?_ GE692.out) | exact HB.out)⟩⟩
            ·rw [if_neg c25] at H
             have c25b0 : decide (x11_2 < t689) = false := decide_eq_false c25
             clear c25
             have H' := Az.mk H
             clear H
             go_wp2_with (first | ((with_reducible refine gate_callee (f := 118) rfl ?_); refine zq9 (some 32) rfl rfl Try.func118 (by kernel_rfl) rfl #[.slice A1 l1.length c1, .int .i64 x13_2] rfl (by (try simp only [List.map_toArray, List.map_cons, List.map_nil]); first | done | rfl | (simp only [List.length_drop, List.length_take]; rfl)) ?_; (with_reducible refine (spec_l12Count.calls k2 _ _ l1 x13_2 t689 t690 t691 _ ?side1 ?side2 A15.out).mono ?_); (case side1 => repeat (first | exact (Kd.C_below HR1.out HB.out) | (with_reducible refine Kd.C_alloc ?_ _) | (with_reducible refine Kd.C_drewN ?_ _) | (with_reducible refine Kd.C_drew ?_))); (case side2 => exact HC1.out); rintro e w32 ⟨rfl, hb⟩; refine ⟨_, rfl, ?_⟩; have n0_ := Az.mk (Kd.R_below (by (with_reducible repeat (first | apply Kd.R_alloc | apply Kd.R_drewN | apply Kd.R_drew)); exact HO_8.out) hb); have n1_ := Az.mk (Kd.R_below (by (with_reducible repeat (first | apply Kd.R_alloc | apply Kd.R_drewN | apply Kd.R_drew)); exact HO_9.out) hb); have n2_ := Az.mk (blk_below (g := gb688) (o := .cells #[.int .i64 x689000_2, .int .i64 x689001_2] 37 (0, 0)) (by (with_reducible repeat (first | refine zq6 ?_ _ | refine zq8 ?_ | refine zq7 ?_ _)); exact BK688.out) hb); have n3_ := Az.mk (below_step (by repeat (first | (with_reducible first | exact HB.out | apply zq2 | apply zq1 | apply zqd | refine zq3 ?_ GE688.out) | exact HB.out)) hb); clear HO_8; clear HO_9; clear BK688; clear HB; have HO_8 := n0_; have HO_9 := n1_; have BK688 := n2_; have HB := n3_; clear n0_ n1_ n2_ n3_; (try clear hb); (try clear hb2); (try clear hk); (try clear hi)) | ((with_reducible refine zqg (N := 15) rfl ?_); refine zqb ?hg (N := 15) ?hd (cs := #[.int .i64 0, .int .i64 0]) (t := 37) ?hr ?_; (case hd => rfl); (case hg => rfl); (case hr => first | (go_simp; done) | (go_simp; rfl)); intro gb692 hg w33 hbox hb; have n0_ := Az.mk (Kd.R_below (Kd.R_elderB (by (with_reducible repeat (first | apply Kd.R_alloc | apply Kd.R_drewN | apply Kd.R_drew)); exact HO_8.out) gb692 (Nat.le_of_eq hg.symm)) hb); have n1_ := Az.mk (Kd.R_below (by (with_reducible repeat (first | apply Kd.R_alloc | apply Kd.R_drewN | apply Kd.R_drew)); exact HO_9.out) hb); have n2_ := Az.mk (blk_below (g := gb688) (o := .cells #[.int .i64 x689000_2, .int .i64 x689001_2] 37 (0, 0)) (by (with_reducible repeat (first | refine zq6 ?_ _ | refine zq8 ?_ | refine zq7 ?_ _)); exact BK688.out) hb); have n3_ := Az.mk (below_step (by repeat (first | (with_reducible first | exact HB.out | apply zq2 | apply zq1 | apply zqd | refine zq3 ?_ GE688.out) | exact HB.out)) hb); have n4_ := Az.mk (hbox); have n5_ := Az.mk ((by rw [hg]; exact (below_size (by repeat (first | (with_reducible first | exact HB.out | apply zq2 | apply zq1 | apply zqd | refine zq3 ?_ GE688.out) | exact HB.out))) : w.heap.size ≤ gb692)); have n6_ := Az.mk ((by rw [hg]; exact (below_size (by repeat (first | (with_reducible first | exact HB.out | apply zq2 | apply zq1 | apply zqd | refine zq3 ?_ GE688.out) | exact HB.out))) : w.heap.size ≤ gb692)); have n7_ := Az.mk ((by rw [hg]; exact Nat.ne_of_lt (blk_lt (g := gb688) (o := .cells #[.int .i64 x689000_2, .int .i64 x689001_2] 37 (0, 0)) (by (with_reducible repeat (first | refine zq6 ?_ _ | refine zq8 ?_ | refine zq7 ?_ _)); exact BK688.out)) : gb688 ≠ gb692)); have n8_ := Az.mk ((by rw [hg]; exact Nat.ne_of_gt (blk_lt (g := gb688) (o := .cells #[.int .i64 x689000_2, .int .i64 x689001_2] 37 (0, 0)) (by (with_reducible repeat (first | refine zq6 ?_ _ | refine zq8 ?_ | refine zq7 ?_ _)); exact BK688.out)) : gb692 ≠ gb688)); clear HO_8; clear HO_9; clear BK688; clear HB; have HO_8 := n0_; have HO_9 := n1_; have BK688 := n2_; have HB := n3_; have BK692 := n4_; have GW692 := n5_; have GE692 := n6_; have NB688_692 := n7_; have NB692_688 := n8_; clear n0_ n1_ n2_ n3_ n4_ n5_ n6_ n7_ n8_; clear hb hbox hg; have hnb34 := NB692_688.out; have hnc34 := NB688_692.out; have hcz35_0 : w33.cell? ⟨gb692, 0, none⟩ = some (.int .i64 0) := (zq4 BK692.out 0).trans rfl; have hcz35_1 : w33.cell? ⟨gb692, 1, none⟩ = some (.int .i64 0) := (zq4 BK692.out 1).trans rfl; have hfz35_0 := zq5 BK692.out 0; have hfz35_1 := zq5 BK692.out 1; obtain ⟨Ao36, co36, eo36⟩ := Kd.R_slice HO_9.out; subst eo36; have p693 : 0 ≤ (x13_2 : Int) := of_decide_eq_true (by first | (with_reducible assumption) | assumption); have q693 : x13_2 < (x9_1.length : Int) := of_decide_eq_true (by first | (with_reducible assumption) | assumption); obtain ⟨ad693, e693, hx693_0⟩ := Kd.at_bool (Kd.R_reads' HO_9.out).2.2 x13_2 p693 q693; (try rw [← Nbq18.out] at hx693_0); cases e693; have hn693_0 : ad693.block ≠ gb692 := Kd.own_blk (Kd.R_ne HO_9.out BK692.out (by decide)); have hn693_1 : ad693.block ≠ gb692 := Kd.own_blk (Kd.R_ne HO_9.out BK692.out (by decide)); replace hx693_0 := (cell_far (p := ⟨gb692, 0, none⟩) (by first | (rw [add_block]; exact hn693_0) | (show (Addr.add _ _).block ≠ _; rw [add_block]; exact hn693_0) | exact hn693_0) (.int .i64 t690)).trans hx693_0; replace hx693_0 := (cell_far (p := ⟨gb692, 1, none⟩) (by first | (rw [add_block]; exact hn693_1) | (show (Addr.add _ _).block ≠ _; rw [add_block]; exact hn693_1) | exact hn693_1) (.int .i64 t691)).trans hx693_0; clear hn693_0; clear hn693_1; replace p693 := eq_true p693; replace q693 := eq_true q693))
             go_roundg k2
             case measure => have := HK1.out; have := HK2.out; omega
             case rel => exact ⟨(x10_2), (x11_2), (wrap64 (x13_2 + 1)), (x689000_2), (x689001_2), (by first | rfl | (simp; done) | (simp [*]; done)), (by first | rfl | (simp; done) | (simp [*]; done)), (by first | rfl | (simp; done) | (simp [*]; done)), H', ⟨by have := HK1.out; have := HK2.out; omega⟩, ⟨by (with_reducible repeat (first | apply Kd.R_alloc | apply Kd.R_drewN | apply Kd.R_drew)); exact Kd.R_mono (Kd.R_far (p := ⟨gb692, 1, none⟩) (Kd.R_far (p := ⟨gb692, 0, none⟩) (Kd.R_mono HO_8.out (fun k_ hk => (⟨hk, hk.2⟩ : _ ∧ k_ ≠ gb692))) (fun _ hk => hk.2) (.int .i64 t690)) (fun _ hk => hk.2) (.int .i64 t691)) (fun _ hk => hk.1.1)⟩, ⟨by (with_reducible repeat (first | apply Kd.R_alloc | apply Kd.R_drewN | apply Kd.R_drew)); exact Kd.R_mono (Kd.R_far (p := ⟨gb692, 1, none⟩) (Kd.R_far (p := ⟨gb692, 0, none⟩) (Kd.R_types HO_9.out BK692.out (by decide)) (fun _ hk => hk.2) (.int .i64 t690)) (fun _ hk => hk.2) (.int .i64 t691)) (fun _ hk => trivial)⟩, ⟨by (with_reducible repeat (first | refine zq6 ?_ _ | refine zq8 ?_ | refine zq7 ?_ _)); refine blk_far ?_ NB688_692.out _; (with_reducible repeat (first | refine zq6 ?_ _ | refine zq8 ?_ | refine zq7 ?_ _)); refine blk_far ?_ NB688_692.out _; (with_reducible repeat (first | refine zq6 ?_ _ | refine zq8 ?_ | refine zq7 ?_ _)); exact BK688.out⟩, ⟨by repeat (first | (with_reducible first | exact HB.out | apply zq2 | apply zq1 | apply zqd | refine zq3 ?_ GE688.out | refine zq3 ?_ GE692.out) | exact HB.out)⟩⟩
          ·rw [if_neg c17] at H
           exact absurd H (by simp)
         ·rw [if_neg c16] at H
          exact absurd H (by simp)
        ·rw [if_neg c14] at H
         have c14b0 : decide (x13_2 < a0) = false := decide_eq_false c14
         clear c14
         by_cases c37 : x10_2 < 0
         ·rw [if_pos c37] at H
          have c37b0 : decide (x10_2 < 0) = true := decide_eq_true c37
          clear c37
          obtain ⟨y694, hy694⟩ : ∃ y_ : List (S37), y_ = (([] : List (S37))) := ⟨_, rfl⟩
          replace H : (some (y694, false)) = some (r1, r2) := by first | (rw [hy694]; with_reducible exact H) | (have H2_ := (Option.bind_some _ _).symm.trans H; rw [hy694]; with_reducible exact H2_) | (have H2_ := (Option.bind_some _ _).symm.trans H; with_reducible exact H2_) | with_reducible exact H | (rw [hy694]; exact H) | exact H
          have Ny694 := Az.mk hy694
          clear hy694
          simp only [Option.some.injEq, Prod.mk.injEq] at H
          obtain ⟨rfl, rfl⟩ := H
          go_wp2_with (first | ((with_reducible refine zqg (N := 50) rfl ?_); refine Kd.R_lit k37 _ 37 ?hg (N := 50) ?hd (xs := ([] : List (S37))) (inner := []) (ok := fun _ => True) (okp := fun _ => True) ?hr ?hp (fun _ hk => hk) trivial (Below.refl _ _) (Nat.le_refl _) (by simp) ?_; (case hd => rfl); (case hg => rfl); (case hr => first | (go_simp; done) | (go_simp; rfl)); (case hp => exact (Reps.none _ _)); intro v695 w38 ho39 hb hg_ hnew_; clear hg_ hnew_; (first | rw [← Ny694.out] at ho39 | (simp only [Int.reduceToNat] at ho39; rw [← Ny694.out] at ho39)); have n0_ := Az.mk (Kd.R_elder' (by (with_reducible repeat (first | apply Kd.R_alloc | apply Kd.R_drewN | apply Kd.R_drew)); exact HO_8.out) (Kd.R_base ho39) hb); have n1_ := Az.mk (Kd.R_below (by (with_reducible repeat (first | apply Kd.R_alloc | apply Kd.R_drewN | apply Kd.R_drew)); exact HO_9.out) hb); have n2_ := Az.mk (Kd.R_lower (Kd.R_newB (Kd.R_new' ho39 (Kd.R_lt (by (with_reducible repeat (first | apply Kd.R_alloc | apply Kd.R_drewN | apply Kd.R_drew)); exact HO_8.out))) (g := gb688) (o := .cells #[.int .i64 x689000_2, .int .i64 x689001_2] 37 (0, 0)) (by (with_reducible repeat (first | refine zq6 ?_ _ | refine zq8 ?_ | refine zq7 ?_ _)); exact BK688.out)) (below_size (by repeat (first | (with_reducible first | exact HB.out | apply zq2 | apply zq1 | apply zqd | refine zq3 ?_ GE688.out) | exact HB.out)))); have n3_ := Az.mk (blk_below (g := gb688) (o := .cells #[.int .i64 x689000_2, .int .i64 x689001_2] 37 (0, 0)) (by (with_reducible repeat (first | refine zq6 ?_ _ | refine zq8 ?_ | refine zq7 ?_ _)); exact BK688.out) hb); have n4_ := Az.mk (below_step (by repeat (first | (with_reducible first | exact HB.out | apply zq2 | apply zq1 | apply zqd | refine zq3 ?_ GE688.out) | exact HB.out)) hb); clear HO_8; clear HO_9; clear BK688; clear HB; have HO_8 := n0_; have HO_9 := n1_; have HO696 := n2_; have BK688 := n3_; have HB := n4_; clear n0_ n1_ n2_ n3_ n4_; clear hb ho39))
          go_ret2
          exact ⟨_, by first | rfl | (simp [errW_none, errW_some] <;> rfl) | (simp [*, errW_none, errW_some] <;> rfl), by (with_reducible repeat (first | apply Kd.R_alloc | apply Kd.R_drewN | apply Kd.R_drew)); exact Kd.R_mono HO696.out (fun _ hk => trivial), by repeat (first | (with_reducible first | exact HB.out | apply zq2 | apply zq1 | apply zqd | refine zq3 ?_ GE688.out) | exact HB.out)⟩
         ·rw [if_neg c37] at H
          have c37b0 : decide (x10_2 < 0) = false := decide_eq_false c37
          clear c37
          by_cases c40 : 0 ≤ x10_2
          ·rw [if_pos c40] at H
           have c40b0 : decide (0 ≤ x10_2) = true := decide_eq_true c40
           clear c40
           by_cases c41 : x10_2 < (x9_1.length : Int)
           ·rw [if_pos c41] at H
            have c41b0 : decide (x10_2 < (x9_1.length : Int)) = true := decide_eq_true c41
            clear c41
            obtain ⟨y697, hy697⟩ : ∃ y_ : List Bool, y_ = (x9_1.set (x10_2 : Int).toNat true) := ⟨_, rfl⟩
            replace H : (if x8_1.length < 8796093022208 then (spec_l12Take.l0 k2 a0 l1 a2 (x8_1 ++ [(⟨x689000_2, x689001_2⟩ : S37)]) y697) else (none)) = some (r1, r2) := by first | (rw [hy697]; with_reducible exact H) | (have H2_ := (Option.bind_some _ _).symm.trans H; rw [hy697]; with_reducible exact H2_) | (have H2_ := (Option.bind_some _ _).symm.trans H; with_reducible exact H2_) | with_reducible exact H | (rw [hy697]; exact H) | exact H
            have Ny697 := Az.mk hy697
            clear hy697
            by_cases c43 : x8_1.length < 8796093022208
            ·rw [if_pos c43] at H
             have LMc43 := Az.mk c43
             clear c43
             obtain ⟨y698, hy698⟩ : ∃ y_ : List (S37), y_ = (x8_1 ++ [(⟨x689000_2, x689001_2⟩ : S37)]) := ⟨_, rfl⟩
             replace H : (spec_l12Take.l0 k2 a0 l1 a2 y698 y697) = some (r1, r2) := by first | (rw [hy698]; with_reducible exact H) | (have H2_ := (Option.bind_some _ _).symm.trans H; rw [hy698]; with_reducible exact H2_) | (have H2_ := (Option.bind_some _ _).symm.trans H; with_reducible exact H2_) | with_reducible exact H | (rw [hy698]; exact H) | exact H
             have Ny698 := Az.mk hy698
             clear hy698
             have H' := Az.mk H
             clear H
             have p42 : 0 ≤ (x10_2 : Int) := of_decide_eq_true (by first | (with_reducible assumption) | assumption)
             have q42 : (x10_2 : Int) < ((x9_1.length : Int) : Int) := of_decide_eq_true (by first | (with_reducible assumption) | assumption)
             obtain ⟨go42, co42, eo42, gb42, gl42, cl42, HG42⟩ := Kd.R_form HO_9.out (by omega)
             (first | cases eo42 | (injection eo42 with ea_ en_ ec_; (first | subst ea_ | (injection ea_ with ea_; subst ea_)); subst ec_; clear en_))
             have GB42 := Az.mk gb42
             have GG42 := Az.mk HG42
             clear gb42 gl42 HG42
             obtain ⟨hx42_0, hf42_0⟩ := Kd.R_celln false HO_9.out (x10_2 : Int) p42 q42
             replace p42 := eq_true p42
             replace q42 := eq_true q42
             have HP44 := Kd.R_putg HO_9.out (x10_2 : Int) true
             go_wp2_with (first | ((with_reducible refine gate_store (t := 4) (p := 53) rfl ?_); refine store_event (t := 4) (p := 53) (v := ?vo_w45) (w1 := (wr.setCell ⟨go42, (x10_2 : Int).toNat, none⟩ (.bool true))) ?hg ?ho ?hn ?hr ?_; (case ho => rfl); (case hg => rfl); (case hn => rfl); (case hr => first | (go_simp; done) | (go_simp; rfl)); intro w45 hw; have hg : wr.grownBy w45 (some go42) := (by rw [hw]; exact HP44.2); have hp_ : Kd.R Kd.bool 4 w45 w.heap.size (fun _ => True) (.slice (some ⟨go42, 0, none⟩) x9_1.length co42) y697 := (by rw [hw, Ny697.out]; exact HP44.1); clear HP44; have n0_ := Az.mk (Kd.R_over' (v := (.slice (some ⟨go42, 0, none⟩) x9_1.length co42)) (by (with_reducible repeat (first | apply Kd.R_alloc | apply Kd.R_drewN | apply Kd.R_drew)); exact HO_8.out) (Kd.R_typed HO_9.out) (by decide) hg); have n1_ := Az.mk (hp_); have n2_ := Az.mk (blk_grown (g := gb688) (o := .cells #[.int .i64 x689000_2, .int .i64 x689001_2] 37 (0, 0)) (by (with_reducible repeat (first | refine zq6 ?_ _ | refine zq8 ?_ | refine zq7 ?_ _)); exact BK688.out) hg (Kd.R_ne HO_9.out BK688.out (by decide))); have n3_ := Az.mk ((by rw [hw]; exact zq3 (HB.out) GB42.out : Below w.heap.size w w45)); clear HO_8; clear HO_9; clear BK688; clear HB; have HO_8 := n0_; have HO_9 := n1_; have BK688 := n2_; have HB := n3_; clear n0_ n1_ n2_ n3_; clear hg hw hp_; have hcz46_0 : w45.cell? ⟨gb688, 0, none⟩ = some (.int .i64 x689000_2) := (zq4 BK688.out 0).trans rfl; have hcz46_1 : w45.cell? ⟨gb688, 1, none⟩ = some (.int .i64 x689001_2) := (zq4 BK688.out 1).trans rfl; have hfz46_0 := zq5 BK688.out 0; have hfz46_1 := zq5 BK688.out 1) | ((with_reducible refine gate_builtin (b := .append) (xs := #[.tmp 54, .tmp 56]) rfl ?_); at_builtin; refine Kd.R_append k37 (w0 := w) w.heap.size rfl (.tmp 54) (.tmp 56) 27 37 (.agg #[(.int .i64 0), (.int .i64 0)]) 16 rfl Try.underlying27 info37 rfl (by decide) (by omega) (.slice Ao11 x8_1.length co11) x8_1 (⟨x689000_2, x689001_2⟩ : S37) [.int .i64 x689000_2, .int .i64 x689001_2] (fun k_ => k_ ≠ gb688) (fun _ => False) rfl rfl ?aP (fun _ hk => hk.elim) ?aF ?aO ?aB ?aS ?aL ?_; (case aP => exact k37_mkM _ _ _ (⟨x689000_2, x689001_2⟩ : S37)); (case aB => exact (by repeat (first | (with_reducible first | exact HB.out | apply zq2 | apply zq1 | apply zqd | refine zq3 ?_ GE688.out) | exact HB.out))); (case aF => exact (fun k_ hk => Kd.freshB (g := gb688) (o := .cells #[.int .i64 x689000_2, .int .i64 x689001_2] 37 (0, 0)) (by (with_reducible repeat (first | refine zq6 ?_ _ | refine zq8 ?_ | refine zq7 ?_ _)); exact BK688.out) k_ hk)); (case aO => exact (by (with_reducible repeat (first | apply Kd.R_alloc | apply Kd.R_drewN | apply Kd.R_drew)); exact HO_8.out)); (case aS => exact (below_size (by repeat (first | (with_reducible first | exact HB.out | apply zq2 | apply zq1 | apply zqd | refine zq3 ?_ GE688.out) | exact HB.out)))); (case aL => have := LMc43.out; omega); intro v699 w47 ho hb hg hat; rw [← Ny698.out] at ho; have n0_ := Az.mk (Kd.R_over' (by (with_reducible repeat (first | apply Kd.R_alloc | apply Kd.R_drewN | apply Kd.R_drew)); exact HO_9.out) (Kd.R_typed (by (with_reducible repeat (first | apply Kd.R_alloc | apply Kd.R_drewN | apply Kd.R_drew)); exact HO_8.out)) (by decide) hg); have n1_ := Az.mk (blk_grown (g := gb688) (o := .cells #[.int .i64 x689000_2, .int .i64 x689001_2] 37 (0, 0)) (by (with_reducible repeat (first | refine zq6 ?_ _ | refine zq8 ?_ | refine zq7 ?_ _)); exact BK688.out) hg (Kd.R_away HO_8.out (fun _ hk => hk))); have n2_ := Az.mk (hb); have n3_ := Az.mk (ho); clear HO_9; clear BK688; clear HB; clear HO_8; have HO_9 := n0_; have BK688 := n1_; have HB := n2_; have HO700 := n3_; clear n0_ n1_ n2_ n3_; clear ho hb hg hat))
             go_roundg k2
             case measure => have := HK1.out; have := HK2.out; omega
             case rel => exact ⟨(y698), (y697), H', ⟨by have := HK1.out; have := HK2.out; omega⟩, ⟨by (with_reducible repeat (first | apply Kd.R_alloc | apply Kd.R_drewN | apply Kd.R_drew)); exact Kd.R_mono HO700.out (fun _ hk => trivial)⟩, ⟨by (with_reducible repeat (first | apply Kd.R_alloc | apply Kd.R_drewN | apply Kd.R_drew)); exact HO_9.out⟩, ⟨by repeat (first | (with_reducible first | exact HB.out | apply zq2 | apply zq1 | apply zqd | refine zq3 ?_ GE688.out) | exact HB.out)⟩⟩
            ·rw [if_neg c43] at H
             exact absurd H (by simp)
           ·rw [if_neg c41] at H
            exact absurd H (by simp)
          ·rw [if_neg c40] at H
           exact absurd H (by simp)
     ·rw [if_neg c10] at H
      have c10b0 : decide ((x8_1.length : Int) < a2) = false := decide_eq_false c10
      clear c10
      simp only [Option.some.injEq, Prod.mk.injEq] at H
      obtain ⟨rfl, rfl⟩ := H
      obtain ⟨Ao48, co48, eo48⟩ := Kd.R_slice HO_8.out
      subst eo48
      go_wp2
      go_ret2
      exact ⟨_, by first | rfl | (simp [errW_none, errW_some] <;> rfl) | (simp [*, errW_none, errW_some] <;> rfl), by (with_reducible repeat (first | apply Kd.R_alloc | apply Kd.R_drewN | apply Kd.R_drew)); exact HO_8.out, by repeat (first | (with_reducible first | exact HB.out | apply zq2 | apply zq1 | apply zqd) | exact HB.out)⟩
  ·rw [if_neg c5] at H
   exact absurd H (by simp)
 ·rw [if_neg c4] at H
  exact absurd H (by simp)
end Go.Proofs.Ytkoimmeghdbodaa.Print
namespace Go.Proofs.Ytkoimmeghdbodaa.Pure
open Go.RowKit Go.Lib Go.Sort Go.Proofs.Ytkoimmeghdbodaa.Print Go.Proofs.YtkoimmeghdbodaaW.PrintWords Go.Proofs.YtkoimmeghdbodaaW.PrintLast
def onD (d : Int) (x : S37) : Bool := decide (x.f0 = d)
theorem count_l0 (l : List S37) (hl : l.length ≤ 1000) (d : Int) (q : Nat) : ∀ (i n : Nat) (a : S37), i + q = l.length → n ≤ i →
    Ev (fun k => spec_l12Count.l0 k l d (n : Int) (i : Int) a.f0 a.f1) (((n + ((l.drop i).filter (onD d)).length : Nat) : Int), (if n = 0 then ((l.drop i).filter (onD d)).getD 0 a else a).f0, (if n = 0 then ((l.drop i).filter (onD d)).getD 0 a else a).f1) := by
  induction q with
  | zero =>
    intro i n a hi hn
    refine Ev.next ?_
    simp only [spec_l12Count.l0]
    refine Ev.neg (by omega) (Ev.ret ?_)
    rw [List.drop_of_length_le (by omega)]
    simp
  | succ q ih =>
    intro i n a hi hn
    have e : wrap64 ((i : Int) + 1) = ((i + 1 : Nat) : Int) := by rw [wrap_ok (by omega)]; omega
    have e2 : wrap64 ((n : Int) + 1) = ((n + 1 : Nat) : Int) := by rw [wrap_ok (by omega)]; omega
    have hd := drop_getD l z37 i (by omega)
    refine Ev.next ?_
    simp only [spec_l12Count.l0, e, e2, rd37n]
    clear e e2
    refine Ev.pos (by omega) (Ev.pos (by omega) ?_)
    by_cases c : (l.getD i z37).f0 = d
    · have h1 := ih (i + 1) (n + 1)
      refine Ev.pos c ?_
      rw [hd, List.filter_cons_of_pos (by unfold onD; simpa using c)]
      by_cases c2 : n = 0
      · have h := h1 (l.getD i z37) (by omega) (by omega)
        rw [if_neg (by omega)] at h
        rw [if_pos c2, List.length_cons, List.getD_cons_zero, show n + ((List.filter (onD d) (l.drop (i + 1))).length + 1) = n + 1 + (List.filter (onD d) (l.drop (i + 1))).length by omega]
        exact Ev.pos (by omega) h
      · have h := h1 a (by omega) (by omega)
        rw [if_neg (by omega)] at h
        rw [if_neg c2, List.length_cons, show n + ((List.filter (onD d) (l.drop (i + 1))).length + 1) = n + 1 + (List.filter (onD d) (l.drop (i + 1))).length by omega]
        exact Ev.neg (by omega) h
    · refine Ev.neg c ?_
      rw [hd, List.filter_cons_of_neg (by unfold onD; simpa using c)]
      exact ih (i + 1) n a (by omega) (by omega)
theorem count_ev (l : List S37) (hl : l.length ≤ 1000) (d : Int) : Ev (fun k => spec_l12Count.f k l d) (((l.filter (onD d)).length : Int), ((l.filter (onD d)).getD 0 z37).f0, ((l.filter (onD d)).getD 0 z37).f1) := by
  have h := count_l0 l hl d l.length 0 0 z37 (Nat.zero_add _) (Nat.le_refl _)
  rw [if_pos rfl, List.drop_zero, Nat.zero_add] at h
  exact h
theorem freeP_f0 {U : List S37} {e s : Nat} {x : S37} (h : x ∈ freeP U e s) : x.f0 = (e : Int) := by
  unfold freeP at h
  have := (List.mem_filter.1 h).1
  obtain ⟨t, _, rfl⟩ := List.mem_map.1 this
  rfl
theorem flatF_on (U : List S37) (d : Nat) : ∀ nn, (flatF U nn).filter (onD (d : Int)) = if d < nn then freeP U d 12 else [] := by
  intro nn
  induction nn with
  | zero => simp [flatF]
  | succ nn ih =>
    rw [flatF_succ, List.filter_append, ih]
    by_cases h : d = nn
    · subst h
      rw [if_neg (by omega), if_pos (by omega), List.nil_append, List.filter_eq_self.2]
      intro x hx
      unfold onD
      exact decide_eq_true (freeP_f0 hx)
    · have e : (freeP U nn 12).filter (onD (d : Int)) = [] := by
        rw [List.filter_eq_nil_iff]
        intro x hx
        unfold onD
        rw [decide_eq_true_iff, freeP_f0 hx]
        omega
      rw [e, List.append_nil]
      by_cases h2 : d < nn
      · rw [if_pos h2, if_pos (by omega)]
      · rw [if_neg h2, if_neg (by omega)]
def sB (L : Nat → List S37) : Nat → Int × Int × S37
  | 0 => (-1, 0, z37)
  | d + 1 => if ((L d).length : Int) > (sB L d).2.1 then ((d : Int), ((L d).length : Int), (L d).getD 0 z37) else sB L d
def sE (L : Nat → List S37) (b : Nat) : Int × Int × S37 := if (L b).length = 0 then (-1, 0, z37) else ((b : Int), ((L b).length : Int), (L b).getD 0 z37)
theorem sE_len (L : Nat → List S37) (b : Nat) : (sE L b).2.1 = ((L b).length : Int) := by
  unfold sE
  by_cases h : (L b).length = 0
  · rw [if_pos h, h]; rfl
  · rw [if_neg h]
theorem sB_pos (L : Nat → List S37) (d : Nat) : 0 ≤ (sB L d).2.1 := by
  induction d with
  | zero => exact Int.le_refl _
  | succ d ih =>
    unfold sB
    by_cases h : ((L d).length : Int) > (sB L d).2.1
    · rw [if_pos h]; exact Int.natCast_nonneg _
    · rw [if_neg h]; exact ih
theorem sB_eq (L : Nat → List S37) (d : Nat) : sB L (d + 1) = sE L (bestOf L (d + 1)) := by
  induction d with
  | zero =>
    have e : bestOf L (0 + 1) = 0 := by
      show (if (L (bestOf L 0)).length < (L 0).length then 0 else bestOf L 0) = 0
      by_cases h : (L (bestOf L 0)).length < (L 0).length
      · rw [if_pos h]
      · rw [if_neg h]; rfl
    rw [e]
    show (if ((L 0).length : Int) > 0 then (((0 : Nat) : Int), ((L 0).length : Int), (L 0).getD 0 z37) else (-1, 0, z37)) = sE L 0
    unfold sE
    by_cases h : (L 0).length = 0
    · rw [if_neg (by omega), if_pos h]
    · rw [if_pos (by omega), if_neg h]
  | succ d ih =>
    show (if ((L (d + 1)).length : Int) > (sB L (d + 1)).2.1 then (((d + 1 : Nat) : Int), ((L (d + 1)).length : Int), (L (d + 1)).getD 0 z37) else sB L (d + 1)) = sE L (if (L (bestOf L (d + 1))).length < (L (d + 1)).length then d + 1 else bestOf L (d + 1))
    rw [ih, sE_len]
    by_cases h : (L (bestOf L (d + 1))).length < (L (d + 1)).length
    · rw [if_pos (by omega), if_pos h]
      unfold sE
      rw [if_neg (by omega)]
    · rw [if_neg (by omega), if_neg h]
def Lu (U : List S37) (nn : Nat) (us : List Bool) : Nat → List S37 := fun e => if e < nn then (if us.getD e false = true then [] else freeP U e 12) else []
theorem Lu_set (U : List S37) (nn : Nat) (us : List Bool) (hl : us.length = nn) (b : Nat) (hb : b < nn) : upd (Lu U nn us) b [] = Lu U nn (us.set b true) := by
  funext e
  unfold upd Lu
  by_cases c : e = b
  · subst c
    rw [if_pos rfl, if_pos hb, if_pos]
    simp [List.getD, List.getElem?_set, hl, hb]
  · rw [if_neg c]
    by_cases c2 : e < nn
    · rw [if_pos c2, if_pos c2]
      have : (us.set b true).getD e false = us.getD e false := by
        simp only [List.getD, List.getElem?_set]
        rw [if_neg (fun h => c h.symm)]
      rw [this]
    · rw [if_neg c2, if_neg c2]
theorem Lu_none (U : List S37) (nn : Nat) : Lu U nn (List.replicate nn false) = Lst U nn 0 := by
  funext e
  unfold Lu Lst
  by_cases c : e < nn
  · rw [if_pos c, if_pos c, if_neg]
    simp [List.getD, List.getElem?_replicate, c]
  · rw [if_neg c, if_neg c]
    by_cases c2 : e = nn
    · rw [if_pos c2]; simp [freeP]
    · rw [if_neg c2]
theorem rdB (us : List Bool) (d : Nat) : rdOf false us (d : Int) = us.getD d false := by simp [rdOf]
section
variable {U : List S37} {nn : Nat} {n cols : Int} (h4 : nn ≤ 4) (h1 : 1 ≤ nn) (hn : n = (nn : Int))
include h4 h1 hn
theorem take_l1 {out : List S37} {us : List Bool} (hus : us.length = nn) (hout : out.length ≤ 4) {r : List S37 × Bool}
    (h0 : (Lu U nn us (bestOf (Lu U nn us) nn)).length = 0 → r = ([], false))
    (K : (Lu U nn us (bestOf (Lu U nn us) nn)).length ≠ 0 → Ev (fun k => spec_l12Take.l0 k n (flatF U nn) cols (out ++ [(Lu U nn us (bestOf (Lu U nn us) nn)).getD 0 z37]) (us.set (bestOf (Lu U nn us) nn) true)) r) (q : Nat) :
    ∀ d : Nat, d + q = nn → Ev (fun k => spec_l12Take.l1 k n (flatF U nn) cols out us (sB (Lu U nn us) d).1 (sB (Lu U nn us) d).2.1 (d : Int) (sB (Lu U nn us) d).2.2.f0 (sB (Lu U nn us) d).2.2.f1) r := by
  induction q with
  | zero =>
    intro d hd
    have hd : d = nn := by omega
    subst hd
    have hb := bestOf_lt (Lu U d us) (d - 1)
    have hs := sB_eq (Lu U d us) (d - 1)
    rw [show d - 1 + 1 = d by omega] at hs hb
    rw [hs]
    refine Ev.next ?_
    simp only [spec_l12Take.l1]
    refine Ev.neg (by omega) ?_
    unfold sE
    by_cases hz : (Lu U d us (bestOf (Lu U d us) d)).length = 0
    · rw [if_pos hz]
      exact Ev.pos (by decide) (Ev.ret (h0 hz).symm)
    · rw [if_neg hz]
      exact Ev.neg (by omega) (Ev.pos (by omega) (Ev.pos (by omega) (Ev.pos (by omega) (K hz))))
  | succ q ih =>
    intro d hd
    have e : wrap64 ((d : Int) + 1) = ((d + 1 : Nat) : Int) := by rw [wrap_ok (by omega)]; omega
    have hih := ih (d + 1) (by omega)
    have hlen := flatF_len U nn
    have hc := count_ev (flatF U nn) (by omega) (d : Int)
    rw [flatF_on, if_pos (by omega)] at hc
    have hp := sB_pos (Lu U nn us) d
    refine Ev.next ?_
    simp only [spec_l12Take.l1, e, rdB]
    clear e
    refine Ev.pos (by omega) (Ev.bind hc (Ev.pos (by omega) (Ev.pos (by omega) ?_)))
    dsimp only
    unfold sB at hih
    by_cases cu : us.getD d false = true
    · have hL : Lu U nn us d = [] := by unfold Lu; rw [if_pos (by omega), if_pos cu]
      rw [hL, if_neg (by simp only [List.length_nil]; omega)] at hih
      exact Ev.pos cu hih
    · have hL : Lu U nn us d = freeP U d 12 := by unfold Lu; rw [if_pos (by omega), if_neg cu]
      refine Ev.neg cu ?_
      rw [hL] at hih
      by_cases cm : ((freeP U d 12).length : Int) > (sB (Lu U nn us) d).2.1
      · rw [if_pos cm] at hih
        exact Ev.pos cm hih
      · rw [if_neg cm] at hih
        exact Ev.neg cm hih
theorem take_l0 (cc : Nat) (hcc : cc ≤ nn) (hcols : cols = (cc : Int)) (c : Nat) : ∀ (out : List S37) (us : List Bool), us.length = nn → out.length + c = cc →
    Ev (fun k => spec_l12Take.l0 k n (flatF U nn) cols out us) (takeG nn c (Lu U nn us) out) := by
  induction c with
  | zero =>
    intro out us hus ho
    refine Ev.next ?_
    simp only [spec_l12Take.l0]
    exact Ev.neg (by omega) (Ev.ret rfl)
  | succ c ih =>
    intro out us hus ho
    have hb := bestOf_lt (Lu U nn us) (nn - 1)
    rw [show nn - 1 + 1 = nn by omega] at hb
    refine Ev.next ?_
    simp only [spec_l12Take.l0]
    refine Ev.pos (by omega) (take_l1 h4 h1 hn hus (by omega) (fun hz => ?_) (fun hz => ?_) nn 0 (Nat.zero_add _))
    · unfold takeG
      rw [if_pos hz]
    · unfold takeG
      rw [if_neg hz, Lu_set U nn us hus _ hb, show (Lu U nn us (bestOf (Lu U nn us) nn)).getD 0 z37 = (Lu U nn us (bestOf (Lu U nn us) nn)).getD 0 z37 from rfl]
      exact ih _ _ (by rw [List.length_set]; exact hus) (by rw [List.length_append, List.length_singleton]; omega)
theorem take_ev (cc : Nat) (hcc : cc ≤ nn) (hcols : cols = (cc : Int)) : Ev (fun k => spec_l12Take.f k n (flatF U nn) cols) (takeG nn cc (Lst U nn 0) []) := by
  have h := take_l0 (U := U) h4 h1 hn cc hcc hcols cc [] (List.replicate nn false) (by simp) (by simp)
  rw [Lu_none] at h
  unfold spec_l12Take.f
  have e : (n : Int).toNat = nn := by omega
  rw [e]
  exact Ev.pos (by omega) (Ev.pos (by omega) h)
end
end Go.Proofs.Ytkoimmeghdbodaa.Pure
namespace Go.Proofs.Ytkoimmeghdbodaa.Print
open Go.RowKit Go.Lib Go.Maps Go.WideMaps Go.Proofs.YtkoimmeghdbodaaW.PrintWords Go.Proofs.YtkoimmeghdbodaaW.PrintLast Go.Proofs.YtkoimmeghdbodaaW.PrintMore Go.Proofs.Ytkoimmeghdbodaa.Pure
set_option maxHeartbeats 16000000 in
set_option maxRecDepth 100000 in
theorem sTake_call (n txa txb cols : Int) (Aa Ab : Option Addr) (ca cb : Nat) (la lb : List S65) (w : World)
    (hra : Kd.C k65 w Aa la.length la) (hca : la.length ≤ ca) (hFa : FitM la) (hrb : Kd.C k65 w Ab lb.length lb) (hcb : lb.length ≤ cb) (hFb : FitM lb) :
    Calls Try.prog 50 #[.int .i64 n, .agg #[.int .i64 txa, .slice Aa la.length ca], .agg #[.int .i64 txb, .slice Ab lb.length cb], .int .i64 cols] w fun e w' => ∃ v, e = .returned (.tuple #[v, .bool (takeI n txa txb cols la lb).2]) ∧ Kd.R k37 37 w' w.heap.size (fun _ => True) v (takeI n txa txb cols la lb).1 ∧ Below w.heap.size w w' := by
  have hu37 := Try.underlying37
  have hu57 := Try.underlying57
  have HROa := Az.mk (fun (W : World) (hb : Below w.heap.size w W) => sRoot_call n txa Aa ca la W (Kd.C_below hra hb) hca hFa)
  have HROb := Az.mk (fun (W : World) (hb : Below w.heap.size w W) => sRoot_call n txb Ab cb lb W (Kd.C_below hrb hb) hcb hFb)
  have H75 := Az.mk (fun W => spec_l6In.calls cols 1 n (decide (1 ≤ cols ∧ cols ≤ n)) W (l6In_eq _ _ _))
  have b1 : Blk (w.alloc (.cells #[.int .i64 txa, .slice Aa la.length ca] 57)) w.heap.size #[.int .i64 txa, .slice Aa la.length ca] 57 := Blk.made _ _ _
  have b2 := Blk.made (w.alloc (.cells #[.int .i64 txa, .slice Aa la.length ca] 57)) #[.int .i64 txb, .slice Ab lb.length cb] 57
  rw [World.size_alloc] at b2
  have b1 := b1.alloc (.cells #[.int .i64 txb, .slice Ab lb.length cb] 57)
  have hB0 : Below w.heap.size w ((w.alloc (.cells #[.int .i64 txa, .slice Aa la.length ca] 57)).alloc (.cells #[.int .i64 txb, .slice Ab lb.length cb] 57)) := by
    have h1 : Below w.heap.size w (w.alloc (.cells #[.int .i64 txa, .slice Aa la.length ca] 57)) := (Below.refl w.heap.size w).alloc (Nat.le_refl _) _
    exact h1.alloc (by simp) _
  have BA := Az.mk b1
  have BB := Az.mk b2
  have HB := Az.mk hB0
  have hca_0 := (BA.out.cell 0).trans rfl
  have hca_1 := (BA.out.cell 1).trans rfl
  have hcb_0 := (BB.out.cell 0).trans rfl
  have hcb_1 := (BB.out.cell 1).trans rfl
  have tk0 : True := trivial
  clear b1 b2 hB0
  have hsp : takeI n txa txb cols la lb = if (rootB n txa la && (rootB n txb lb && (decide (1 ≤ cols) && decide (cols ≤ n)))) = true then takeG n.toNat cols.toNat (Lst (rootPl n txa la ++ rootPl n txb lb) n.toNat 0) [] else ([], false) := rfl
  generalize takeI n txa txb cols la lb = res at hsp ⊢
  cases ea : rootB n txa la with
  | false =>
    rw [ea] at HROa hsp
    have HE : Az (res = ([], false)) := ⟨by rw [hsp]; rfl⟩
    clear ea H75
    clear hra hrb hca hcb hsp
    go_enter Try.func50, Try.ntmps50
    go_wp2_with (first | (go_at_call 36; have _tk := tk0; refine (HROa.out _ HB.out).mono ?_; rintro e w12 ⟨rfl, hb⟩; have BA2 := Az.mk (BA.out.below hb); have BB2 := Az.mk (BB.out.below hb); have HB2 := Az.mk (HB.out.trans (hb.mono HB.out.size)); clear BA BB HB hca_0 hca_1 hcb_0 hcb_1; have BA := BA2; have BB := BB2; have HB := HB2; clear BA2 BB2 HB2; have hca_0 := (BA.out.cell 0).trans rfl; have hca_1 := (BA.out.cell 1).trans rfl; have hcb_0 := (BB.out.cell 0).trans rfl; have hcb_1 := (BB.out.cell 1).trans rfl; clear hb; clear tk0 _tk; have tk1 : True := trivial) | ((with_reducible refine zqg (N := 26) rfl ?_); refine Kd.R_lit k37 _ 37 ?hg (N := 26) ?hd (xs := ([] : List S37)) (inner := []) (ok := fun _ => True) (okp := fun _ => True) ?hr ?hp (fun _ hk => hk) trivial (Below.refl _ _) (Nat.le_refl _) (by simp) ?_; (case hd => rfl); (case hg => rfl); (case hr => first | (go_simp; done) | (go_simp; rfl)); (case hp => exact (Reps.none _ _)); intro v26 w36 ho27 hb hg_ hnew_; have R26 := Az.mk ho27; have HB2 := Az.mk (HB.out.trans (hb.mono HB.out.size)); have HBZ := Az.mk HB.out.size; clear HB ho27 hb hg_ hnew_; have HB := HB2; clear HB2) | go_in)
    go_ret2
    exact ⟨v26, by rw [HE.out]; rfl, by rw [HE.out]; exact Kd.R_lower R26.out HBZ.out, HB.out⟩
  | true =>
    rw [ea] at HROa hsp
    cases eb : rootB n txb lb with
    | false =>
      rw [eb] at HROb hsp
      have HE : Az (res = ([], false)) := ⟨by rw [hsp]; rfl⟩
      clear ea eb H75
      clear hra hrb hca hcb hsp
      go_enter Try.func50, Try.ntmps50
      go_wp2_with (first | (go_at_call 36; have _tk := tk0; refine (HROa.out _ HB.out).mono ?_; rintro e w12 ⟨rfl, hb⟩; have BA2 := Az.mk (BA.out.below hb); have BB2 := Az.mk (BB.out.below hb); have HB2 := Az.mk (HB.out.trans (hb.mono HB.out.size)); clear BA BB HB hca_0 hca_1 hcb_0 hcb_1; have BA := BA2; have BB := BB2; have HB := HB2; clear BA2 BB2 HB2; have hca_0 := (BA.out.cell 0).trans rfl; have hca_1 := (BA.out.cell 1).trans rfl; have hcb_0 := (BB.out.cell 0).trans rfl; have hcb_1 := (BB.out.cell 1).trans rfl; clear hb; clear tk0 _tk; have tk1 : True := trivial) | (go_at_call 36; have _tk := tk1; refine (HROb.out _ HB.out).mono ?_; rintro e w17 ⟨rfl, hb⟩; have BA2 := Az.mk (BA.out.below hb); have BB2 := Az.mk (BB.out.below hb); have HB2 := Az.mk (HB.out.trans (hb.mono HB.out.size)); clear BA BB HB hca_0 hca_1 hcb_0 hcb_1; have BA := BA2; have BB := BB2; have HB := HB2; clear BA2 BB2 HB2; have hca_0 := (BA.out.cell 0).trans rfl; have hca_1 := (BA.out.cell 1).trans rfl; have hcb_0 := (BB.out.cell 0).trans rfl; have hcb_1 := (BB.out.cell 1).trans rfl; clear hb; clear tk1 _tk; have tk2 : True := trivial) | ((with_reducible refine zqg (N := 26) rfl ?_); refine Kd.R_lit k37 _ 37 ?hg (N := 26) ?hd (xs := ([] : List S37)) (inner := []) (ok := fun _ => True) (okp := fun _ => True) ?hr ?hp (fun _ hk => hk) trivial (Below.refl _ _) (Nat.le_refl _) (by simp) ?_; (case hd => rfl); (case hg => rfl); (case hr => first | (go_simp; done) | (go_simp; rfl)); (case hp => exact (Reps.none _ _)); intro v26 w36 ho27 hb hg_ hnew_; have R26 := Az.mk ho27; have HB2 := Az.mk (HB.out.trans (hb.mono HB.out.size)); have HBZ := Az.mk HB.out.size; clear HB ho27 hb hg_ hnew_; have HB := HB2; clear HB2) | go_in)
      go_ret2
      exact ⟨v26, by rw [HE.out]; rfl, by rw [HE.out]; exact Kd.R_lower R26.out HBZ.out, HB.out⟩
    | true =>
      rw [eb] at HROb hsp
      by_cases k1 : 1 ≤ cols ∧ cols ≤ n
      · rw [decide_eq_true k1] at H75
        rw [decide_eq_true k1.1, decide_eq_true k1.2] at hsp
        have sa := rootPl_small ea
        obtain ⟨nn, hnn⟩ := Int.eq_ofNat_of_zero_le (show 0 ≤ n by omega)
        obtain ⟨cc, hcc⟩ := Int.eq_ofNat_of_zero_le (show 0 ≤ cols by omega)
        have hnt : n.toNat = nn := by omega
        obtain ⟨U, hU⟩ : ∃ U, U = rootPl n txa la ++ rootPl n txb lb := ⟨_, rfl⟩
        obtain ⟨kf, hkf⟩ := Ev.rounds (free_ev ea eb hFa hFb)
        rw [hnt, ← hU] at hkf
        have HFR := Az.mk (fun (W : World) (hb : Below w.heap.size w W) => spec_l12Free.calls kf n txa Aa ca la txb Ab cb lb _ W (Kd.C_below hra hb) hca (Kd.C_below hrb hb) hcb hkf)
        obtain ⟨kt, hkt⟩ := Ev.rounds (take_ev (U := U) (by omega) (by omega) hnn cc (by omega) hcc)
        have HE : Az (res = takeG nn cc (Lst U nn 0) []) := ⟨by rw [hsp, hnt, ← hU, hcc]; rfl⟩
        have HTK := Az.mk (fun (A : Option Addr) (c : Nat) (W : World) (h : Kd.C k37 W A (flatF U nn).length (flatF U nn)) (hl : (flatF U nn).length ≤ c) => spec_l12Take.calls kt n A c (flatF U nn) cols (takeG nn cc (Lst U nn 0) []).1 (takeG nn cc (Lst U nn 0) []).2 W h hl hkt)
        clear hra hrb hca hcb hsp ea eb hkf hkt hFa hFb sa hnn hcc hnt hU k1
        go_enter Try.func50, Try.ntmps50
        go_wp2_with (first | (go_at_call 36; have _tk := tk0; refine (HROa.out _ HB.out).mono ?_; rintro e w12 ⟨rfl, hb⟩; have BA2 := Az.mk (BA.out.below hb); have BB2 := Az.mk (BB.out.below hb); have HB2 := Az.mk (HB.out.trans (hb.mono HB.out.size)); clear BA BB HB hca_0 hca_1 hcb_0 hcb_1; have BA := BA2; have BB := BB2; have HB := HB2; clear BA2 BB2 HB2; have hca_0 := (BA.out.cell 0).trans rfl; have hca_1 := (BA.out.cell 1).trans rfl; have hcb_0 := (BB.out.cell 0).trans rfl; have hcb_1 := (BB.out.cell 1).trans rfl; clear hb; clear tk0 _tk; have tk1 : True := trivial) | (go_at_call 36; have _tk := tk1; refine (HROb.out _ HB.out).mono ?_; rintro e w17 ⟨rfl, hb⟩; have BA2 := Az.mk (BA.out.below hb); have BB2 := Az.mk (BB.out.below hb); have HB2 := Az.mk (HB.out.trans (hb.mono HB.out.size)); clear BA BB HB hca_0 hca_1 hcb_0 hcb_1; have BA := BA2; have BB := BB2; have HB := HB2; clear BA2 BB2 HB2; have hca_0 := (BA.out.cell 0).trans rfl; have hca_1 := (BA.out.cell 1).trans rfl; have hcb_0 := (BB.out.cell 0).trans rfl; have hcb_1 := (BB.out.cell 1).trans rfl; clear hb; clear tk1 _tk; have tk2 : True := trivial) | (go_at_call 75; refine (H75.out _).mono ?_; rintro e w23 ⟨rfl, hd⟩; have hb := hd.below; have BA2 := Az.mk (BA.out.below hb); have BB2 := Az.mk (BB.out.below hb); have HB2 := Az.mk (HB.out.trans (hb.mono HB.out.size)); clear BA BB HB hca_0 hca_1 hcb_0 hcb_1; have BA := BA2; have BB := BB2; have HB := HB2; clear BA2 BB2 HB2; have hca_0 := (BA.out.cell 0).trans rfl; have hca_1 := (BA.out.cell 1).trans rfl; have hcb_0 := (BB.out.cell 0).trans rfl; have hcb_1 := (BB.out.cell 1).trans rfl; clear hb hd) | (go_at_call 91; refine (HFR.out _ HB.out).mono ?_; rintro e w31 ⟨v31, rfl, hR, hb⟩; obtain ⟨A31, c31, rfl, hl, hc⟩ := Kd.R_reads hR; have HR31 := Az.mk hc; have HL31 := Az.mk hl; have HB2 := Az.mk (HB.out.trans (hb.mono HB.out.size)); clear HB hR hb hl hc; have HB := HB2; clear HB2) | (go_at_call 92; refine (HTK.out A31 c31 _ HR31.out HL31.out).mono ?_; rintro e w33 ⟨v, rfl, hR, hb⟩; have R33 := Az.mk hR; have HBZ := Az.mk HB.out.size; have HB2 := Az.mk (HB.out.trans (hb.mono HB.out.size)); clear HB hR hb; have HB := HB2; clear HB2) | go_in)
        go_ret2
        exact ⟨v, by rw [HE.out] <;> rfl, by rw [HE.out]; exact Kd.R_lower R33.out HBZ.out, HB.out⟩
      · rw [decide_eq_false k1] at H75
        have HE : Az (res = ([], false)) := ⟨by
          rw [hsp]
          by_cases k2 : 1 ≤ cols
          · rw [decide_eq_false (show ¬ cols ≤ n from fun h => k1 ⟨k2, h⟩), Bool.and_false]; rfl
          · rw [decide_eq_false k2]; rfl⟩
        clear ea eb k1
        clear hra hrb hca hcb hsp
        go_enter Try.func50, Try.ntmps50
        go_wp2_with (first | (go_at_call 36; have _tk := tk0; refine (HROa.out _ HB.out).mono ?_; rintro e w12 ⟨rfl, hb⟩; have BA2 := Az.mk (BA.out.below hb); have BB2 := Az.mk (BB.out.below hb); have HB2 := Az.mk (HB.out.trans (hb.mono HB.out.size)); clear BA BB HB hca_0 hca_1 hcb_0 hcb_1; have BA := BA2; have BB := BB2; have HB := HB2; clear BA2 BB2 HB2; have hca_0 := (BA.out.cell 0).trans rfl; have hca_1 := (BA.out.cell 1).trans rfl; have hcb_0 := (BB.out.cell 0).trans rfl; have hcb_1 := (BB.out.cell 1).trans rfl; clear hb; clear tk0 _tk; have tk1 : True := trivial) | (go_at_call 36; have _tk := tk1; refine (HROb.out _ HB.out).mono ?_; rintro e w17 ⟨rfl, hb⟩; have BA2 := Az.mk (BA.out.below hb); have BB2 := Az.mk (BB.out.below hb); have HB2 := Az.mk (HB.out.trans (hb.mono HB.out.size)); clear BA BB HB hca_0 hca_1 hcb_0 hcb_1; have BA := BA2; have BB := BB2; have HB := HB2; clear BA2 BB2 HB2; have hca_0 := (BA.out.cell 0).trans rfl; have hca_1 := (BA.out.cell 1).trans rfl; have hcb_0 := (BB.out.cell 0).trans rfl; have hcb_1 := (BB.out.cell 1).trans rfl; clear hb; clear tk1 _tk; have tk2 : True := trivial) | (go_at_call 75; refine (H75.out _).mono ?_; rintro e w23 ⟨rfl, hd⟩; have hb := hd.below; have BA2 := Az.mk (BA.out.below hb); have BB2 := Az.mk (BB.out.below hb); have HB2 := Az.mk (HB.out.trans (hb.mono HB.out.size)); clear BA BB HB hca_0 hca_1 hcb_0 hcb_1; have BA := BA2; have BB := BB2; have HB := HB2; clear BA2 BB2 HB2; have hca_0 := (BA.out.cell 0).trans rfl; have hca_1 := (BA.out.cell 1).trans rfl; have hcb_0 := (BB.out.cell 0).trans rfl; have hcb_1 := (BB.out.cell 1).trans rfl; clear hb hd) | ((with_reducible refine zqg (N := 26) rfl ?_); refine Kd.R_lit k37 _ 37 ?hg (N := 26) ?hd (xs := ([] : List S37)) (inner := []) (ok := fun _ => True) (okp := fun _ => True) ?hr ?hp (fun _ hk => hk) trivial (Below.refl _ _) (Nat.le_refl _) (by simp) ?_; (case hd => rfl); (case hg => rfl); (case hr => first | (go_simp; done) | (go_simp; rfl)); (case hp => exact (Reps.none _ _)); intro v26 w36 ho27 hb hg_ hnew_; have R26 := Az.mk ho27; have HB2 := Az.mk (HB.out.trans (hb.mono HB.out.size)); have HBZ := Az.mk HB.out.size; clear HB ho27 hb hg_ hnew_; have HB := HB2; clear HB2) | go_in)
        go_ret2
        exact ⟨v26, by rw [HE.out]; rfl, by rw [HE.out]; exact Kd.R_lower R26.out HBZ.out, HB.out⟩
end Go.Proofs.Ytkoimmeghdbodaa.Print
namespace Go.Proofs.Ytkoimmeghdbodaa.Hd
open Go.RowKit Go.Proofs.Ytkoimmeghdbodaa.Print Go.Proofs.YtkoimmeghdbodaaW.PrintWords Go.Proofs.YtkoimmeghdbodaaW.PrintLast Go.Proofs.YtkoimmeghdbodaaW.PrintMore Go.Proofs.Ytkoimmeghdbodaa.Pure
theorem takeG_len (nn : Nat) : ∀ (c : Nat) (L : Nat → List S37) (out : List S37), (takeG nn c L out).1.length ≤ out.length + c := by
  intro c
  induction c with
  | zero =>
    intro L out
    exact Nat.le_refl _
  | succ c ih =>
    intro L out
    unfold takeG
    by_cases h : (L (bestOf L nn)).length = 0
    · rw [if_pos h]
      exact Nat.zero_le _
    · rw [if_neg h]
      have := ih (upd L (bestOf L nn) []) (out ++ [(L (bestOf L nn)).getD 0 z37])
      rw [List.length_append, List.length_singleton] at this
      omega
theorem takeI_len (n txa txb cols : Int) (la lb : List S65) {rl : List S37} {rb : Bool} (h : takeI n txa txb cols la lb = (rl, rb)) : rl.length ≤ 1048576 := by
  have e : rl = (takeI n txa txb cols la lb).1 := by rw [h]
  rw [e]
  unfold takeI
  by_cases c : (rootB n txa la && (rootB n txb lb && (decide (1 ≤ cols) && decide (cols ≤ n)))) = true
  · rw [if_pos c]
    have hl := takeG_len n.toNat cols.toNat (Lst (rootPl n txa la ++ rootPl n txb lb) n.toNat 0) []
    simp only [Bool.and_eq_true, decide_eq_true_iff] at c
    have := rootPl_small c.1
    rw [List.length_nil] at hl
    omega
  · rw [if_neg c]
    exact Nat.zero_le _
theorem specTk_call (n txa txb cols : Int) {Da Db : List S65} {rl : List S37} {rb : Bool} (hE : takeI n txa txb cols Da Db = (rl, rb)) (hFa : FitM Da) (hFb : FitM Db) {w : World} {Ma Mb : AC} (ha : RdR w Ma Da) (hb : RdR w Mb Db) {B : Nat} (hB : B ≤ w.heap.size) :
    Calls Try.prog 50 #[.int .i64 n, .agg (cR Ma (txa, Da)), .agg (cR Mb (txb, Db)), .int .i64 cols] w fun e w' => ∃ M', e = .returned (.tuple #[pV M' rl, .bool rb]) ∧ OwP w' B w.heap.size w'.heap.size M' rl ∧ Below w.heap.size w w' := by
  refine (sTake_call n txa txb cols Ma.1 Mb.1 Ma.2 Mb.2 Da Db w ha.2 ha.1 hFa hb.2 hb.1 hFb).mono ?_
  rintro e w' ⟨v, rfl, hR, hb⟩
  rw [hE] at hR
  obtain ⟨M', rfl, hO⟩ := owP_of hB hR
  exact ⟨M', by rw [hE], hO, hb⟩
theorem implTk_call (n txa txb cols : Int) {Da Db : List S65} {rl : List S37} {rb : Bool} (hE : takeI n txa txb cols Da Db = (rl, rb)) (hFa : FitM Da) (hFb : FitM Db) {w : World} {Ma Mb : AC} (ha : RdR w Ma Da) (hb : RdR w Mb Db) {B : Nat} (hB : B ≤ w.heap.size) :
    Calls Try.prog 51 #[.int .i64 n, .agg (cR Ma (txa, Da)), .agg (cR Mb (txb, Db)), .int .i64 cols] w fun e w' => ∃ M', e = .returned (.tuple #[pV M' rl, .bool rb]) ∧ OwP w' B w.heap.size w'.heap.size M' rl ∧ Below w.heap.size w w' := by
  refine (spaceTake_call n txa txb cols Ma.1 Mb.1 Ma.2 Mb.2 Da Db w ha.2 ha.1 hFa.places hb.2 hb.1 hFb.places).mono ?_
  rintro e w' ⟨v, rfl, hR, hb⟩
  rw [hE] at hR
  obtain ⟨M', rfl, hO⟩ := owP_of hB hR
  exact ⟨M', by rw [hE], hO, hb⟩
end Go.Proofs.Ytkoimmeghdbodaa.Hd
namespace Go.Proofs.Ytkoimmeghdbodaa.Print
open Go.RowKit Go.Proofs.YtkoimmeghdbodaaW.PrintWords Go.Proofs.YtkoimmeghdbodaaW.PrintLast Go.Proofs.YtkoimmeghdbodaaW.PrintMore Go.Proofs.Ytkoimmeghdbodaa.Pure
attribute [local go_sem] max2_int min2_int max_two min_two max_three min_three max_four min_four
open Classical in
noncomputable def sRootOk.f (k : Nat) (a0 : Int) (a1_0 : Int) (l1_1 : List S65) : Option Bool := if FitM l1_1 then some (rootB a0 a1_0 l1_1) else none
mutual
def sRPlaces.l0 : Nat → Int → List (S37) → List (S29) → Int → Option ((List (S37)))
  | 0, _, _, _, _ => none
  | k + 1, x0, x5, x6, x7 => if x7 < x0 then (sRPlaces.l1 k x0 x5 x6 x7 0) else (some x5)
def sRPlaces.l1 : Nat → Int → List (S37) → List (S29) → Int → Int → Option ((List (S37)))
  | 0, _, _, _, _, _ => none
  | k + 1, x0, x5, x6, x7, x8 => if x8 < 12 then (sRPlaces.l2 k x0 x5 x6 x7 x8 false 0 0 0 (([(⟨x7, x8⟩ : S37)] : List (S37)))) else (sRPlaces.l0 k x0 x5 x6 (wrap64 (x7 + 1)))
def sRPlaces.l2 : Nat → Int → List (S37) → List (S29) → Int → Int → Bool → Int → Int → Int → List (S37) → Option ((List (S37)))
  | 0, _, _, _, _, _, _, _, _, _, _ => none
  | k + 1, x0, x5, x6, x7, x8, x10, x11, x606000, x606001, x606002 => if x11 < (x6.length : Int) then (if x10 = true then (sRPlaces.l2 k x0 x5 x6 x7 x8 true (wrap64 (x11 + 1)) x606000 x606001 x606002) else (if 0 ≤ x11 then ((spec_l2Meet.f k x606000 x606001 x606002 ((rd_T29 x6 x11).f0) ((rd_T29 x6 x11).f1) ((rd_T29 x6 x11).f2)).bind fun t607 => (sRPlaces.l2 k x0 x5 x6 x7 x8 t607 (wrap64 (x11 + 1)) x606000 x606001 x606002)) else (none))) else (if x10 = true then (if x5.length < 8796093022208 then (sRPlaces.l1 k x0 (x5 ++ [(⟨x7, x8⟩ : S37)]) x6 x7 (wrap64 (x8 + 1))) else (none)) else (sRPlaces.l1 k x0 x5 x6 x7 (wrap64 (x8 + 1))))
end
noncomputable def sRPlaces.f (k : Nat) (a0 : Int) (a1_0 : Int) (l1_1 : List (S65)) : Option ((List (S37))) := (some (([] : List (S37)) : List (S37))).bind fun y595 => ((sRootOk.f k a0 a1_0 l1_1).bind fun t598 => (if t598 = true then ((spec_l2All.f k a1_0 l1_1).bind fun t599 => (sRPlaces.l0 k a0 y595 t599 0)) else (some y595)))
end Go.Proofs.Ytkoimmeghdbodaa.Print
namespace Go.Proofs.Ytkoimmeghdbodaa.Pure
open Go.RowKit Go.Lib Go.Sort Go.Proofs.Ytkoimmeghdbodaa.Print Go.Proofs.YtkoimmeghdbodaaW.PrintWords Go.Proofs.YtkoimmeghdbodaaW.PrintLast
end Go.Proofs.Ytkoimmeghdbodaa.Pure
namespace Go.Proofs.Ytkoimmeghdbodaa.Hd
open Go.RowKit Go.Proofs.Ytkoimmeghdbodaa.Print Go.Proofs.YtkoimmeghdbodaaW.PrintWords Go.Proofs.YtkoimmeghdbodaaW.PrintLast Go.Proofs.YtkoimmeghdbodaaW.PrintMore Go.Proofs.Ytkoimmeghdbodaa.Pure
end Go.Proofs.Ytkoimmeghdbodaa.Hd
namespace Go.Proofs.Ytkoimmeghdbodaa.Hq
open Go.RowKit Go.Proofs.Ytkoimmeghdbodaa.Print Go.Proofs.YtkoimmeghdbodaaW.PrintWords Go.Proofs.YtkoimmeghdbodaaW.PrintLast Go.Proofs.YtkoimmeghdbodaaW.PrintMore Go.Proofs.Ytkoimmeghdbodaa.Pure Go.Proofs.Ytkoimmeghdbodaa.Hd
theorem lpaPl_l0 (l : List S37) (hl : l.length ≤ 1048576) (d : Nat) : ∀ i : Nat, i + d = l.length → Ev (fun k => laws_lpaPlaces.l0 k l l (i : Int)) true := by
  induction d with
  | zero =>
    intro i hi
    refine Ev.next ?_
    simp only [laws_lpaPlaces.l0]
    exact Ev.neg (by omega) (Ev.ret rfl)
  | succ d ih =>
    intro i hi
    have e : wrap64 ((i : Int) + 1) = ((i + 1 : Nat) : Int) := by rw [wrap_ok (by omega)]; omega
    have hih := ih (i + 1) (by omega)
    refine Ev.next ?_
    simp only [laws_lpaPlaces.l0, e]
    clear e
    exact Ev.pos (by omega) (Ev.pos (by omega) (Ev.pos (by omega) (Ev.neg (by simp) hih)))
section
variable {base : Nat} {ws w : World} {L : List Part} {S : Nat → Prop} {wc : World} {B lo hi : Nat} {M M' : AC} {l l' : List S37}
theorem Hq.rdP (h : Hq base ws w L) (i : Nat) (e : L[i]? = some (.set (fun k => lo ≤ k ∧ k < hi) wc)) (O : OwP wc B lo hi M l) : RdP w M l := by
  have := Kd.R_reads' (h.rr i e O)
  exact ⟨this.2.1, this.2.2⟩
theorem lpaPl_call (hl : l.length ≤ 1048576) (e : l' = l) (h : RdP w M l) (h' : RdP w M' l') : Calls Try.prog 28 #[pV M l, pV M' l'] w fun e w' => e = .returned (.bool true) ∧ Below w.heap.size w w' := by
  subst e
  obtain ⟨k, hk⟩ := Ev.rounds (show Ev (fun k => laws_lpaPlaces.f k l' l') true from Ev.pos rfl (lpaPl_l0 l' hl _ 0 (Nat.zero_add _)))
  exact (laws_lpaPlaces.calls k M.1 M.2 l' M'.1 M'.2 l' true w h.2 h.1 h'.2 h'.1 hk).mono fun e w' h => ⟨h.1, h.2.below⟩
end
section
variable {w : World} {n : Int} {M : AC} {B : Nat} {D : List S65} {l : List S37}
variable {ta tb : Int} {Ma Mb : AC} {Da Db : List S65}
theorem implSp_q (e : spaceI n ta tb Da Db = l) (hFa : FitM Da) (hFb : FitM Db) (ha : RdR w Ma Da) (hb : RdR w Mb Db) (hB : B ≤ w.heap.size) : Calls Try.prog 48 #[.int .i64 n, .agg (cR Ma (ta, Da)), .agg (cR Mb (tb, Db))] w fun e w' => ∃ M', e = .returned (pV M' l) ∧ OwP w' B w.heap.size w'.heap.size M' l ∧ Below w.heap.size w w' := e ▸ implSp_call n ta tb hFa hFb ha hb hB
end
end Go.Proofs.Ytkoimmeghdbodaa.Hq
namespace Go.Proofs.Ytkoimmeghdbodaa.Pure
open Go.RowKit Go.Proofs.Ytkoimmeghdbodaa.Print Go.Proofs.YtkoimmeghdbodaaW.PrintWords Go.Proofs.YtkoimmeghdbodaaW.PrintLast
theorem bestOf_max (L : Nat → List S37) : ∀ d e : Nat, e < d → (L e).length ≤ (L (bestOf L d)).length := by
  intro d
  induction d with
  | zero => intro e he; omega
  | succ d ih =>
    intro e he
    unfold bestOf
    by_cases c : (L (bestOf L d)).length < (L d).length
    · rw [if_pos c]
      by_cases h : e = d
      · rw [h]
        exact Nat.le_refl _
      · have := ih e (by omega)
        omega
    · rw [if_neg c]
      by_cases h : e = d
      · rw [h]
        omega
      · exact ih e (by omega)
def rooms (sp : List S37) : Nat → Nat
  | 0 => 0
  | d + 1 => rooms sp d + if sp.any (fun p => decide (p.f0 = (d : Int))) = true then 1 else 0
structure TakeF (n cols : Int) (sp rl : List S37) (rb : Bool) : Prop where
  ok : rb = decide (cols ≤ (rooms sp n.toNat : Int))
  len : rb = true → (rl.length : Int) = cols
  mem : rb = true → ∀ x ∈ rl, x ∈ sp
  far : rb = true → rl.Pairwise (fun x y => x.f0 ≠ y.f0)
end Go.Proofs.Ytkoimmeghdbodaa.Pure
namespace Go.Proofs.Ytkoimmeghdbodaa.Pure
open Go.RowKit Go.Proofs.Ytkoimmeghdbodaa.Print Go.Proofs.YtkoimmeghdbodaaW.PrintWords Go.Proofs.YtkoimmeghdbodaaW.PrintLast
theorem takeG_most (nn : Nat) (h1 : 1 ≤ nn) : ∀ (c : Nat) (L : Nat → List S37) (out : List S37), (∀ d x, x ∈ L d → x.f0 = (d : Int)) → ∀ r, takeG nn c L out = (r, true) →
    ∃ sel : List S37, r = out ++ sel ∧ (∀ x ∈ sel, ∃ d, d < nn ∧ (L d).length ≠ 0 ∧ x = (L d).getD 0 z37) ∧ sel.Pairwise (fun x y => (L y.f0.toNat).length ≤ (L x.f0.toNat).length)
  | 0, L, out, hL, r, h => by
    unfold takeG at h
    injection h with h _
    exact ⟨[], by rw [List.append_nil, h], fun x hx => (by cases hx), List.Pairwise.nil⟩
  | c + 1, L, out, hL, r, h => by
    unfold takeG at h
    by_cases hz : (L (bestOf L nn)).length = 0
    · rw [if_pos hz] at h
      injection h with _ h
      cases h
    · rw [if_neg hz] at h
      have hb : bestOf L nn < nn := by
        cases nn with
        | zero => omega
        | succ m => exact bestOf_lt L m
      have hu : ∀ d, d ≠ bestOf L nn → upd L (bestOf L nn) [] d = L d := fun d hd => by unfold upd; rw [if_neg hd]
      have hu0 : upd L (bestOf L nn) [] (bestOf L nn) = [] := by unfold upd; rw [if_pos rfl]
      have hmem : (L (bestOf L nn)).getD 0 z37 ∈ L (bestOf L nn) := getD_mem (by omega)
      obtain ⟨sel, e, h2, h3⟩ := takeG_most nn h1 c (upd L (bestOf L nn) []) _ (fun d x hx => by
        by_cases c : d = bestOf L nn
        · rw [c, hu0] at hx; cases hx
        · rw [hu d c] at hx; exact hL d x hx) r h
      have h2' : ∀ x ∈ sel, ∃ d, d < nn ∧ d ≠ bestOf L nn ∧ (L d).length ≠ 0 ∧ x = (L d).getD 0 z37 := fun x hx => by
        obtain ⟨d, hd, hn, hx⟩ := h2 x hx
        by_cases c : d = bestOf L nn
        · rw [c, hu0] at hn; exact absurd rfl hn
        · rw [hu d c] at hn hx; exact ⟨d, hd, c, hn, hx⟩
      have hf : ∀ x ∈ sel, x.f0.toNat ≠ bestOf L nn ∧ x.f0.toNat < nn := fun x hx => by
        obtain ⟨d, hd, hne, hn, hx⟩ := h2' x hx
        have : x.f0 = (d : Int) := by rw [hx]; exact hL d _ (getD_mem (by omega))
        rw [this, Int.toNat_natCast]
        exact ⟨hne, hd⟩
      refine ⟨(L (bestOf L nn)).getD 0 z37 :: sel, by rw [e, List.append_assoc]; rfl, fun x hx => ?_, List.pairwise_cons.2 ⟨fun x hx => ?_, ?_⟩⟩
      · rcases List.mem_cons.1 hx with rfl | hx
        · exact ⟨_, hb, hz, rfl⟩
        · obtain ⟨d, hd, _, hn, hx⟩ := h2' x hx
          exact ⟨d, hd, hn, hx⟩
      · rw [hL _ _ hmem, Int.toNat_natCast]
        exact bestOf_max L nn _ (hf x hx).2
      · refine List.Pairwise.imp_of_mem (fun hx hy h => ?_) h3
        rw [hu _ (hf _ hx).1, hu _ (hf _ hy).1] at h
        exact h
theorem freeP_first (U : List S37) (d s : Nat) (y : S37) (hy : y ∈ freeP U d s) : ((freeP U d s).getD 0 z37).f1 ≤ y.f1 := by
  have hp : (freeP U d s).Pairwise (fun x y => x.f1 < y.f1) := by
    unfold freeP
    refine List.Pairwise.filter _ ?_
    rw [List.pairwise_map]
    exact List.pairwise_lt_range.imp (fun {a b} h => by show ((a : Nat) : Int) < ((b : Nat) : Int); omega)
  generalize freeP U d s = l at hy hp
  cases l with
  | nil => cases hy
  | cons a l =>
    show a.f1 ≤ y.f1
    rcases List.mem_cons.1 hy with rfl | hy
    · exact Int.le_refl _
    · have := (List.pairwise_cons.1 hp).1 y hy
      omega
def onL (sp : List S37) (d : Int) : Nat := (sp.filter (onD d)).length
structure MostF (n : Int) (sp rl : List S37) : Prop where
  first : ∀ x ∈ rl, ∀ y ∈ sp, y.f0 = x.f0 → x.f1 ≤ y.f1
  most : rl.Pairwise (fun x y => onL sp y.f0 ≤ onL sp x.f0)
  mem : ∀ x ∈ rl, x ∈ sp
  disk : ∀ y ∈ sp, 0 ≤ y.f0 ∧ y.f0 < n
  small : 3 ≤ n ∧ n ≤ 4
theorem most_facts {n ta tb cols : Int} {Da Db : List S65} {sp rl : List S37} (es : spaceI n ta tb Da Db = sp) (et : takeI n ta tb cols Da Db = (rl, true)) : MostF n sp rl := by
  unfold takeI at et
  by_cases c : (rootB n ta Da && (rootB n tb Db && (decide (1 ≤ cols) && decide (cols ≤ n)))) = true
  · rw [if_pos c] at et
    simp only [Bool.and_eq_true, decide_eq_true_iff] at c
    have hsm := (rootPl_small c.1).2
    have e1 : sp = flatF (rootPl n ta Da ++ rootPl n tb Db) n.toNat := by
      rw [← es]
      unfold spaceI
      rw [c.1, c.2.1, if_pos (by rfl)]
    obtain ⟨sel, h1, h2, h3⟩ := takeG_most n.toNat (by omega) _ _ _ (fun d x hx => by
      unfold Lst at hx
      by_cases c : d < n.toNat
      · rw [if_pos c] at hx; exact freeP_f0 hx
      · rw [if_neg c] at hx
        by_cases c2 : d = n.toNat
        · rw [if_pos c2] at hx; rw [freeP_f0 hx, c2]
        · rw [if_neg c2] at hx; cases hx) rl et
    rw [List.nil_append] at h1
    subst h1
    have hL : ∀ d : Nat, d < n.toNat → sp.filter (onD (d : Int)) = Lst (rootPl n ta Da ++ rootPl n tb Db) n.toNat 0 d := fun d hd => by
      rw [e1, flatF_on, if_pos hd, Lst_done _ hd]
    have hd : ∀ x ∈ rl, ∃ d : Nat, d < n.toNat ∧ x.f0 = (d : Int) ∧ x ∈ freeP (rootPl n ta Da ++ rootPl n tb Db) d 12 ∧ x = (freeP (rootPl n ta Da ++ rootPl n tb Db) d 12).getD 0 z37 := fun x hx => by
      obtain ⟨d, hd, hn, hx⟩ := h2 x hx
      rw [Lst_done _ hd] at hn hx
      have hm : x ∈ freeP (rootPl n ta Da ++ rootPl n tb Db) d 12 := by rw [hx]; exact getD_mem (by omega)
      exact ⟨d, hd, freeP_f0 hm, hm, hx⟩
    refine ⟨fun x hx y hy he => ?_, ?_, fun x hx => ?_, fun y hy => ?_, hsm⟩
    · obtain ⟨d, hdn, h0, hm, hx⟩ := hd x hx
      have hy2 : y ∈ sp.filter (onD (d : Int)) := List.mem_filter.2 ⟨hy, decide_eq_true (he.trans h0)⟩
      rw [hL d hdn, Lst_done _ hdn] at hy2
      rw [hx]
      exact freeP_first _ _ _ _ hy2
    · refine List.Pairwise.imp_of_mem (fun {x y} hx hy h => ?_) h3
      obtain ⟨d, hdn, h0, _⟩ := hd x hx
      obtain ⟨f, hfn, g0, _⟩ := hd y hy
      unfold onL
      rw [h0, g0, hL d hdn, hL f hfn]
      rw [h0, g0, Int.toNat_natCast, Int.toNat_natCast] at h
      exact h
    · obtain ⟨d, hdn, _, hm, _⟩ := hd x hx
      rw [e1]
      exact List.mem_flatMap.2 ⟨d, List.mem_range.2 hdn, hm⟩
    · rw [e1] at hy
      obtain ⟨d, hdn, hy⟩ := List.mem_flatMap.1 hy
      rw [freeP_f0 hy]
      have := List.mem_range.1 hdn
      omega
  · rw [if_neg c] at et
    injection et with _ h
    cases h
theorem most_at {sp l : List S37} (h : l.Pairwise (fun x y => onL sp y.f0 ≤ onL sp x.f0)) {i : Nat} (h1 : 1 ≤ i) (hi : i < l.length) : onL sp (l.getD i z37).f0 ≤ onL sp (l.getD (i - 1) z37).f0 := by
  have h := List.pairwise_iff_getElem.1 h (i - 1) i (by omega) hi (by omega)
  simp only [List.getD, List.getElem?_eq_getElem hi, List.getElem?_eq_getElem (show i - 1 < l.length by omega), Option.getD_some]
  exact h
def cnt (sp : List S37) (m i : Nat) : List Int := (List.range m).map fun d : Nat => ((onL (sp.take i) (d : Int) : Nat) : Int)
theorem cnt_len (sp : List S37) (m i : Nat) : (cnt sp m i).length = m := by simp [cnt]
theorem onL_snoc (sp : List S37) (i : Nat) (hi : i < sp.length) (d : Int) : onL (sp.take (i + 1)) d = onL (sp.take i) d + if (sp.getD i z37).f0 = d then 1 else 0 := by
  unfold onL
  rw [List.take_add_one, List.filter_append, List.length_append, List.getElem?_eq_getElem hi]
  congr 1
  have e : sp.getD i z37 = sp[i] := by simp [List.getD, List.getElem?_eq_getElem hi]
  rw [e]
  by_cases c : sp[i].f0 = d
  · rw [if_pos c, Option.toList_some, List.filter_cons_of_pos (by exact decide_eq_true c)]
    rfl
  · rw [if_neg c, Option.toList_some, List.filter_cons_of_neg (by rw [onD, decide_eq_true_iff]; exact c)]
    rfl
theorem cnt_get (sp : List S37) {m i d : Nat} (hd : d < m) : (cnt sp m i).getD d 0 = (onL (sp.take i) (d : Int) : Int) := by
  unfold cnt
  simp [List.getD, hd]
theorem cnt_at (sp : List S37) (m i k : Nat) (h : k < (cnt sp m i).length) : (cnt sp m i)[k] = ((onL (sp.take i) (k : Int) : Nat) : Int) := by simp [cnt]
theorem cnt_set (sp : List S37) {m i d : Nat} (hi : i < sp.length) (hd : d < m) (hp : (sp.getD i z37).f0 = (d : Int)) : (cnt sp m i).set d ((onL (sp.take i) (d : Int) : Int) + 1) = cnt sp m (i + 1) := by
  refine List.ext_getElem (by simp [cnt]) fun k h1 h2 => ?_
  have hk : k < m := by rw [cnt_len] at h2; exact h2
  rw [List.getElem_set, cnt_at, cnt_at, onL_snoc sp i hi, hp]
  by_cases c : d = k
  · subst c
    rw [if_pos rfl, if_pos rfl]
    omega
  · rw [if_neg c, if_neg (by omega)]
    rfl
theorem onL_le (sp : List S37) (d : Int) : onL sp d ≤ sp.length := List.length_filter_le _ _
end Go.Proofs.Ytkoimmeghdbodaa.Pure
namespace Go.Proofs.Ytkoimmeghdbodaa.Hq
open Go.RowKit Go.Proofs.Ytkoimmeghdbodaa.Print Go.Proofs.YtkoimmeghdbodaaW.PrintWords Go.Proofs.YtkoimmeghdbodaaW.PrintLast Go.Proofs.YtkoimmeghdbodaaW.PrintMore Go.Proofs.Ytkoimmeghdbodaa.Pure Go.Proofs.Ytkoimmeghdbodaa.Hd
theorem size37q : (Try.prog.info? 37).map (·.size) = some 2 := by kernel_rfl
theorem spaceI_len (n ta tb : Int) (Da Db : List S65) : (spaceI n ta tb Da Db).length ≤ 1048576 := by
 unfold spaceI
 by_cases h : (rootB n ta Da && rootB n tb Db) = true
 ·rw [if_pos h]
  have h1 := (rootPl_small (Bool.and_eq_true_iff.1 h).1).2
  have h2 := flatF_len (rootPl n ta Da ++ rootPl n tb Db) n.toNat
  omega
 ·rw [if_neg h]
  exact Nat.zero_le _
theorem cnt_zero (sp : List S37) (m : Nat) : List.replicate m (0 : Int) = cnt sp m 0 := by
 refine List.ext_getElem (by simp [cnt]) fun k h1 h2 => ?_
 rw [cnt_at, List.getElem_replicate]
 simp [onL]
theorem elemI {wo : World} {b : Nat} {S : Nat → Prop} {g n c : Nat} {xs : List Int} (V : (Kd.int .i64).R 3 wo b S (.slice (some ⟨g, 0, none⟩) n c) xs) {e : Nat} (he : e < n) : wo.cell? ⟨g, e, none⟩ = some (.int .i64 (xs.getD e 0)) ∧ wo.frozen? ⟨g, e, none⟩ = false := by
 obtain ⟨cs, hcl, hM, hcc, hfz⟩ := Kd.R_elem V 0 (e : Int) (by omega) (by omega)
 rw [Int.toNat_natCast] at hM hcc hfz
 obtain rfl : cs = [.int .i64 (xs.getD e 0)] := hM
 have h0 := hcc 0 _ rfl
 have f0 := hfz 0
 rw [show e * (Kd.int .i64).sz + 0 = e from Nat.mul_one e] at h0 f0
 exact ⟨h0, f0⟩
section
variable {base : Nat} {ws w : World} {L : List Part} {S : Nat → Prop} {wo : World}
theorem stI_of (H : Hq base ws w L) (j : Nat) (ej : L[j]? = some (.set S wo)) {g n cap e : Nat} {xs : List Int} {v : Int} (V : (Kd.int .i64).R 3 wo base S (.slice (some ⟨g, 0, none⟩) n cap) xs) (he : e < n) :
  Hq base ws (w.setCell ⟨g, e, none⟩ (.int .i64 v)) (L.set j (.set S (w.setCell ⟨g, e, none⟩ (.int .i64 v)))) ∧ (Kd.int .i64).R 3 (w.setCell ⟨g, e, none⟩ (.int .i64 v)) base S (.slice (some ⟨g, 0, none⟩) n cap) (xs.set e v) := by
 have V' := H.rr j ej V
 obtain ⟨c, c1, c2, c3, _⟩ := Kd.R_elem V' 0 (e : Int) (by omega) (by omega)
 obtain rfl : c = [.int .i64 (xs.getD (e : Int).toNat 0)] := c2
 have hs := Kd.R_seg V' (e : Int) (by omega) (by omega) (seg := [.int .i64 v]) (j := 0) c1 c3 (Nat.le_refl _) (x' := v) (okp := fun k => S k ∧ k ≠ g) (show (Kd.int .i64).M _ _ _ v [.int .i64 v] from rfl) (fun k hk => hk)
 rw [Int.toNat_natCast, show e * (Kd.int .i64).sz + 0 = e from Nat.mul_one e] at hs
 exact ⟨H.wrote' j ej (V.1 g (by simp [Value.ownBlock])) hs.2 (setCells_same g [.int .i64 v] e w).2.2.2, hs.1⟩
end
theorem infoI : (Try.prog.info? 3).map (fun i => (i.zero, i.size, i.bytes)) = some (some (.int .i64 0), (Kd.int .i64).sz, 8) := by kernel_rfl
theorem Hq.makeI {ops : Array Oper} {Q : Exit → Act → World → Prop} {rest : List Oper} {o : Oper} {a : Act} {b : Nat} {ws W : World} {L : List Part} (H : Hq b ws W L) {m : Nat} {N : Tmp} {x y : Operand} (hgd : o.guard = none) (hd : o.dst = some N) (ho : o.op = .makeSlice 78 x y) (hx : a.eval x = .int .i64 (m : Int)) (hy : a.eval y = .int .i64 (m : Int)) (hm : 0 < m ∧ m ≤ 100)
  (k : ∀ g c w1, Az (Hq b ws w1 (.set (fun k => k = g) w1 :: L)) → Az ((Kd.int .i64).R 3 w1 b (fun k => k = g) (.slice (some ⟨g, 0, none⟩) m c) (List.replicate m 0)) → wpList Try.prog ops Q rest (a.put o.dst (.slice (some ⟨g, 0, none⟩) m c)) w1) : wpList Try.prog ops Q (o :: rest) a W := by
 refine Kd.R_make (Kd.int .i64) (w0 := ws) b 3 hgd hd 78 _ _ ho (m : Int) hx hy Try.underlying78 (.int .i64 0) 8 infoI rfl (by decide) (by decide) 0 (ok := fun k => W.heap.size ≤ k) (okp := fun _ => False) rfl (fun _ h => h.elim) (Nat.le_refl _) (by omega) (by omega) H.bel H.ge ?_
 intro v1 w1 hr hb hg hf
 rw [Int.toNat_natCast] at hr
 obtain ⟨gb, he, hge⟩ := hf
 obtain ⟨g, c, rfl, _⟩ := Kd.R_form hr (by rw [List.length_replicate]; omega)
 rw [List.length_replicate] at hr ⊢
 obtain rfl : g = gb := by simpa [Value.ownBlock] using he
 obtain ⟨cs, hc⟩ := Kd.R_typed hr g (by simp [Value.ownBlock])
 have hlt : g < w1.heap.size := blk_lt (show Blk w1 g cs 3 from hc)
 have hbw : Below W.heap.size W w1 := ⟨hg.os, hg.tape, hg.output, hg.size, fun k hk => hg.block k hk (by simp)⟩
 exact k g c w1 ⟨H.more (p := .set (fun k => k = g) w1) hbw (fun k hk => by obtain rfl : k = g := hk; exact ⟨hge, hlt⟩) (fun _ _ => rfl)⟩ ⟨Kd.R_mono (Kd.R_tight (rfl : (Kd.int .i64).E = []) hr) (fun k hk => by have h := hk.symm; simpa [Value.ownBlock] using h.symm)⟩
set_option maxHeartbeats 8000000 in
set_option maxRecDepth 100000 in
theorem law_FnSpaceMost (w : World) {A : Option Addr} {c : Nat} {l : List Int} (hC : Kd.C (Kd.int .u8) w A l.length l) (hc : l.length ≤ c) (hw : ∀ x ∈ l, (Lit.int .u8 x).wf = true) : Calls Try.prog 14 #[.slice A l.length c] w fun e w' => e = .returned (.bool true) ∧ Below w.heap.size w w' := by
 have hs57 := size57
 have hs37 := size37q
 have HC := Az.mk hC
 have tk0 : True := trivial
 clear hC
 by_cases hlen : (l.length : Int) > 1048576
 ·have hl1 : decide (1048576 < (l.length : Int)) = true := decide_eq_true hlen
  clear hlen
  go_enter Try.func14, Try.ntmps14
  go_wp2
  go_ret
  exact ⟨rfl, Below.refl _ _⟩
 ·have hl1 : decide (1048576 < (l.length : Int)) = false := decide_eq_false hlen
  clear hlen
  go_enter Try.func14, Try.ntmps14
  go_upto_region 4 with (first | (go_at_call 52; have _tk := tk0; refine (drawTake_call _ HC.out hc hw).mono ?_; rintro e w21 ⟨n, ta, tb, Ma, Mb, Da, Db, cols, rfl, hn, hf, hg, hr, hs, hb⟩; have HN := Az.mk hn; have FVa := Az.mk hf; have FVb := Az.mk hg; have HFa := Az.mk hf.fit; have HFb := Az.mk hg.fit; have HRa := Az.mk hr; have HRb := Az.mk hs; have HB0 := Az.mk hb; have H := Az.mk (Hq.start w21); clear hn hf hg hr hs hb; clear tk0 _tk; have tk1 : True := trivial) | ((with_reducible refine zqg (N := 4) rfl ?_); refine H.out.bx rfl (#[.int .i64 0, .slice none 0 0]) 57 ?hr ?_; (case hr => first | (go_simp; done) | (go_simp; rfl)); intro g4 w4 H1; clear H; have H := H1; clear H1; (try simp only [Act.put, zs1, zs2, zs3])) | ((with_reducible refine zqg (N := 5) rfl ?_); refine H.out.bx rfl (#[.int .i64 0, .slice none 0 0]) 57 ?hr ?_; (case hr => first | (go_simp; done) | (go_simp; rfl)); intro g5 w5 H1; clear H; have H := H1; clear H1; (try simp only [Act.put, zs1, zs2, zs3])) | ((with_reducible refine gate_store (t := 57) (p := 4) rfl ?_); refine H.out.st_row 1 rfl rfl (x := .tmp 4) (y := .tmp 23) rfl rfl rfl (cR Ma (ta, Da)) rfl hs57 rfl (cR_one _ _) ?_; intro ws3_10 H1; clear H; have H := H1; clear H1) | ((with_reducible refine gate_store (t := 57) (p := 5) rfl ?_); refine H.out.st_row 0 rfl rfl (x := .tmp 5) (y := .tmp 24) rfl rfl rfl (cR Mb (tb, Db)) rfl hs57 rfl (cR_one _ _) ?_; intro ws3_11 H1; clear H; have H := H1; clear H1))
  (try simp only [Act.put, zs1, zs2, zs3])
  obtain ⟨rl, rb, hrl⟩ : ∃ rl rb, takeI n ta tb cols Da Db = (rl, rb) := ⟨_, _, rfl⟩
  have HLR := Az.mk (show rl.length ≤ 1048576 from takeI_len n ta tb cols Da Db hrl)
  cases rb with
  | false =>
   have ETk := Az.mk hrl
   clear hrl
   go_wp2_with (first | ((with_reducible refine zqg (N := 28) rfl ?_); refine H.out.ld_row 1 rfl rfl rfl rfl Try.underlying57 rfl hs57 ?_; (try simp only [Act.put, zs1, zs2, zs3])) | ((with_reducible refine zqg (N := 29) rfl ?_); refine H.out.ld_row 0 rfl rfl rfl rfl Try.underlying57 rfl hs57 ?_; (try simp only [Act.put, zs1, zs2, zs3])) | (go_at_call 50; have _tk := tk1; refine (specTk_call n ta tb cols ETk.out HFa.out HFb.out (rdBelow HRa.out H.out.bel) (rdBelow HRb.out H.out.bel) H.out.ge).mono ?_; rintro e w31 ⟨M31, rfl, ho, hb⟩; have O31 := Az.mk ho; have H1 := Az.mk (H.out.made hb); clear ho hb; clear H; have H := H1; clear H1; clear tk1 _tk; have tk2 : True := trivial) | ((with_reducible refine zqg (N := 36) rfl ?_); refine H.out.ld_row 2 rfl rfl rfl rfl Try.underlying57 rfl hs57 ?_; (try simp only [Act.put, zs1, zs2, zs3])) | ((with_reducible refine zqg (N := 37) rfl ?_); refine H.out.ld_row 1 rfl rfl rfl rfl Try.underlying57 rfl hs57 ?_; (try simp only [Act.put, zs1, zs2, zs3])) | (go_at_call 51; have _tk := tk2; refine (implTk_call n ta tb cols ETk.out HFa.out HFb.out (rdBelow HRa.out H.out.bel) (rdBelow HRb.out H.out.bel) H.out.ge).mono ?_; rintro e w39 ⟨M39, rfl, ho, hb⟩; have O39 := Az.mk ho; have H1 := Az.mk (H.out.made hb); clear ho hb; clear H; have H := H1; clear H1; clear tk2 _tk; have tk3 : True := trivial) | (go_at_call 28; have _tk := tk3; refine (lpaPl_call HLR.out rfl (H.out.rdP 0 rfl O39.out) (H.out.rdP 1 rfl O31.out)).mono ?_; rintro e w48 ⟨rfl, hb⟩; have H1 := Az.mk (H.out.step hb); clear hb; clear H; have H := H1; clear H1; clear tk3 _tk; have tk4 : True := trivial) | (go_at_call 28; have _tk := tk4; refine (lpaPl_call HLR.out rfl (H.out.rdP 0 rfl O39.out) (H.out.rdP 1 rfl O31.out)).mono ?_; rintro e w61 ⟨rfl, hb⟩; have H1 := Az.mk (H.out.step hb); clear hb; clear H; have H := H1; clear H1; clear tk4 _tk; have tk5 : True := trivial))
   (try simp only [Act.put, zs1, zs2, zs3])
   go_ret
   exact ⟨rfl, HB0.out.trans (H.out.bel.mono HB0.out.size)⟩
  | true =>
   have ETk := Az.mk hrl
   clear hrl
   obtain ⟨sp, hsp⟩ : ∃ sp, spaceI n ta tb Da Db = sp := ⟨_, rfl⟩
   have Esp := Az.mk hsp
   have HLN := Az.mk (show sp.length ≤ 1048576 from hsp ▸ spaceI_len n ta tb Da Db)
   clear hsp
   have MF := Az.mk (most_facts Esp.out ETk.out)
   go_upto_region 9 with (first | ((with_reducible refine zqg (N := 28) rfl ?_); refine H.out.ld_row 1 rfl rfl rfl rfl Try.underlying57 rfl hs57 ?_; (try simp only [Act.put, zs1, zs2, zs3])) | ((with_reducible refine zqg (N := 29) rfl ?_); refine H.out.ld_row 0 rfl rfl rfl rfl Try.underlying57 rfl hs57 ?_; (try simp only [Act.put, zs1, zs2, zs3])) | (go_at_call 50; have _tk := tk1; refine (specTk_call n ta tb cols ETk.out HFa.out HFb.out (rdBelow HRa.out H.out.bel) (rdBelow HRb.out H.out.bel) H.out.ge).mono ?_; rintro e w31 ⟨M31, rfl, ho, hb⟩; have O31 := Az.mk ho; have H1 := Az.mk (H.out.made hb); clear ho hb; clear H; have H := H1; clear H1; clear tk1 _tk; have tk2 : True := trivial) | ((with_reducible refine zqg (N := 36) rfl ?_); refine H.out.ld_row 2 rfl rfl rfl rfl Try.underlying57 rfl hs57 ?_; (try simp only [Act.put, zs1, zs2, zs3])) | ((with_reducible refine zqg (N := 37) rfl ?_); refine H.out.ld_row 1 rfl rfl rfl rfl Try.underlying57 rfl hs57 ?_; (try simp only [Act.put, zs1, zs2, zs3])) | (go_at_call 51; have _tk := tk2; refine (implTk_call n ta tb cols ETk.out HFa.out HFb.out (rdBelow HRa.out H.out.bel) (rdBelow HRb.out H.out.bel) H.out.ge).mono ?_; rintro e w39 ⟨M39, rfl, ho, hb⟩; have O39 := Az.mk ho; have H1 := Az.mk (H.out.made hb); clear ho hb; clear H; have H := H1; clear H1; clear tk2 _tk; have tk3 : True := trivial) | (go_at_call 28; have _tk := tk3; refine (lpaPl_call HLR.out rfl (H.out.rdP 0 rfl O39.out) (H.out.rdP 1 rfl O31.out)).mono ?_; rintro e w48 ⟨rfl, hb⟩; have H1 := Az.mk (H.out.step hb); clear hb; clear H; have H := H1; clear H1; clear tk3 _tk; have tk4 : True := trivial) | ((with_reducible refine zqg (N := 64) rfl ?_); refine H.out.ld_row 3 rfl rfl rfl rfl Try.underlying57 rfl hs57 ?_; (try simp only [Act.put, zs1, zs2, zs3])) | ((with_reducible refine zqg (N := 65) rfl ?_); refine H.out.ld_row 2 rfl rfl rfl rfl Try.underlying57 rfl hs57 ?_; (try simp only [Act.put, zs1, zs2, zs3])) | (go_at_call 48; have _tk := tk4; refine (implSp_q Esp.out HFa.out HFb.out (rdBelow HRa.out H.out.bel) (rdBelow HRb.out H.out.bel) H.out.ge).mono ?_; rintro e w66 ⟨M66, rfl, ho, hb⟩; have O66 := Az.mk ho; have H1 := Az.mk (H.out.made hb); clear ho hb; clear H; have H := H1; clear H1; clear tk4 _tk; have tk5 : True := trivial))
   (try simp only [Act.put, zs1, zs2, zs3])
   obtain ⟨lo39, hi39, wl39, lo66, hi66, wl66, O39, O66, H⟩ : ∃ lo39 hi39 wl39 lo66 hi66 wl66, Az (OwP wl39 w21.heap.size lo39 hi39 M39 rl) ∧ Az (OwP wl66 w21.heap.size lo66 hi66 M66 sp) ∧ Az (Hq w21.heap.size w21 _ [.set (fun k => lo66 ≤ k ∧ k < hi66) wl66, .set (fun k => lo39 ≤ k ∧ k < hi39) wl39, .box g5 (cR Mb (tb, Db)) 57, .box g4 (cR Ma (ta, Da)) 57]) := ⟨_, _, _, _, _, _, O39, O66, ⟨H.out.sel [0, 1, 3, 4] _ (by decide) rfl⟩⟩
   obtain ⟨Ap, cp⟩ := M39
   obtain ⟨As, cs'⟩ := M66
   simp only [pV]
   obtain ⟨m, hm⟩ : ∃ m : Nat, n = (m : Int) := ⟨n.toNat, by have := HN.out; omega⟩
   subst hm
   have HM4 := Az.mk (show m ≤ 4 by have := HN.out; omega)
   go_upto_region 10 with (first | ((with_reducible refine zqg (N := 68) rfl ?_); refine H.out.makeI (m := m) rfl rfl rfl rfl rfl (by have := HM4.out; have := HN.out; omega) ?_; intro gm cm wm H1 V; clear H; have H := H1; clear H1; (try simp only [Act.put, zs1, zs2, zs3])))
   (try simp only [Act.put, zs1, zs2, zs3])
   have V1 := Az.mk (show (Kd.int .i64).R 3 wm w21.heap.size (fun k => k = gm) (.slice (some ⟨gm, 0, none⟩) m cm) (cnt sp m 0) from cnt_zero sp m ▸ V.out)
   clear V
   have V := V1
   clear V1
   go_wp2
   go_loopg [13] sp.length (fun kq v13 w' => ∃ (i : Nat) (wm : World), v13 = .int .i64 (i : Int) ∧ Az (i + kq = sp.length) ∧ Az ((Kd.int .i64).R 3 wm w21.heap.size (fun k => k = gm) (.slice (some ⟨gm, 0, none⟩) m cm) (cnt sp m i)) ∧ Az (Hq w21.heap.size w21 w' [.set (fun k => k = gm) wm, .set (fun k => lo66 ≤ k ∧ k < hi66) wl66, .set (fun k => lo39 ≤ k ∧ k < hi39) wl39, .box g5 (cR Mb (tb, Db)) 57, .box g4 (cR Ma (ta, Da)) 57]))
   case atStart => exact ⟨0, _, rfl, ⟨Nat.zero_add _⟩, V, ⟨H.out.sel [0, 1, 2, 3, 4] _ (by decide) rfl⟩⟩
   case round =>
    clear H V wm tk5
    obtain ⟨i, wm, rfl, HI, V, H⟩ := hrel
    by_cases hi : i < sp.length
    ·skip
     have c72 : decide (i < sp.length) = true := decide_eq_true (by omega)
     have c72i : decide ((i : Int) < (sp.length : Int)) = true := decide_eq_true (by omega)
     have HE := Az.mk hi
     have HWi : Az (wrap64 ((i : Int) + 1) = ((i + 1 : Nat) : Int)) := ⟨by rw [wrap_ok (by have := HE.out; have := HLN.out; omega)]; omega⟩
     have p1 := eq_true (show (0 : Int) ≤ (i : Int) by omega)
     have q1 := eq_true (show (i : Int) < (sp.length : Int) by omega)
     have q1n := eq_true hi
     obtain ⟨gq, eA, hsq, hq0, hq1⟩ := elem37 (show k37.R 37 wl66 _ _ (.slice As sp.length cs') sp from O66.out) hi
     cases eA
     obtain ⟨p, hp⟩ : ∃ x, x = sp.getD i z37 := ⟨_, rfl⟩
     rw [← hp] at hq0 hq1
     have hdk := MF.out.disk p (by rw [hp]; exact getD_mem hi)
     obtain ⟨e, he⟩ := Int.eq_ofNat_of_zero_le hdk.1
     have hem : e < m := by omega
     rw [he] at hq0
     have p3 := eq_true (show (0 : Int) ≤ (e : Int) by omega)
     have q3 := eq_true (show (e : Int) < (m : Int) by omega)
     have q3n := eq_true hem
     have hcm := elemI V.out hem
     rw [cnt_get sp hem] at hcm
     have hx9 : onL (sp.take i) (e : Int) ≤ 1048576 := Nat.le_trans (onL_le _ _) (Nat.le_trans (List.length_take_le _ _) (by have := HE.out; have := HLN.out; omega))
     have hset := cnt_set sp hi hem (by rw [← hp]; exact he)
     obtain ⟨x, hx⟩ : ∃ x, x = onL (sp.take i) (e : Int) := ⟨_, rfl⟩
     rw [← hx] at hcm hset hx9
     have HX9 := Az.mk hx9
     have HSET := Az.mk hset
     have HSQ := Az.mk hsq
     have HQ0 := Az.mk hq0
     have HCM := Az.mk hcm
     have HEM := Az.mk hem
     clear hx9 hset hsq hq0 hq1 hcm hx hp hdk he hem hi
     obtain ⟨gk9, hg9⟩ : ∃ x, x = gk := ⟨_, rfl⟩
     subst hg9
     go_wp2
     refine start_ (n := 17) (S := fun w' => Hq w21.heap.size w21 w' [.set (fun k => k = gm) wm, .set (fun k => lo66 ≤ k ∧ k < hi66) wl66]) (ds := [16]) (bm 17 0) (by kernel_rfl) rfl rfl (H.out.drew.sel [0, 1] _ (by decide) rfl) (fun hHeld => ?_)
     have H1 := Az.mk H.out.drew
     clear H; have H := H1; clear H1
     generalize World.drew _ = wd13 at hHeld H ⊢
     refine zP 0 (some 75) (bm 17 1) ?_
     refine zP 1 (some 76) (bm 17 3) ?_
     refine zP 2 (some 77) (bm 17 7) ?_
     refine zP 3 (some 78) (bm 17 15) ?_
     refine zP 4 (some 79) (bm 17 31) ?_
     refine zqt (i := 5) (N := some 80) (v := .int .i64 (e : Int)) (a' := ?_) (bm 17 63) rfl rfl (by kernel_rfl) (fun _ _ _ h => h) (Or.inl ⟨by rfl, fun w' s0 => run_c (v := .int .i64 (e : Int)) (s0.cell 1 rfl HSQ.out HQ0.out) rfl rfl Try.underlying3 rfl⟩) hHeld ?_ ?_
     rotate_left
     ·simp only [Act.put, zs1, zs2, zs3, i64_w, i32_w]
      rfl
     refine zP 6 (some 81) (bm 17 127) ?_
     refine zP 7 (some 82) (bm 17 255) ?_
     refine zP 8 (some 83) (bm 17 511) ?_
     refine zP 9 (some 84) (bm 17 1023) ?_
     refine zP 10 (some 85) (bm 17 2047) ?_
     refine zqt (i := 11) (N := some 86) (v := .int .i64 (e : Int)) (a' := ?_) (bm 17 4095) rfl rfl (by kernel_rfl) (fun _ _ _ h => h) (Or.inl ⟨by rfl, fun w' s0 => run_c (v := .int .i64 (e : Int)) (s0.cell 1 rfl HSQ.out HQ0.out) rfl rfl Try.underlying3 rfl⟩) hHeld ?_ ?_
     rotate_left
     ·simp only [Act.put, zs1, zs2, zs3, i64_w, i32_w]
      rfl
     refine zP 12 (some 87) (bm 17 8191) ?_
     refine zqt (i := 13) (N := some 88) (v := .int .i64 (x : Int)) (a' := ?_) (bm 17 16383) rfl rfl (by kernel_rfl) (fun _ _ _ h => h) (Or.inl ⟨by rfl, fun w' s0 => run_c (v := .int .i64 (x : Int)) (s0.cell 0 rfl rfl HCM.out.1) rfl rfl Try.underlying3 rfl⟩) hHeld ?_ ?_
     rotate_left
     ·simp only [Act.put, zs1, zs2, zs3, i64_w, i32_w]
      rfl
     refine zP 14 (some 89) (bm 17 32767) ?_
     refine zP 15 (some 90) (bm 17 65535) ?_
     have hw1 : wrap64 ((x : Int) + 1) = (x : Int) + 1 := wrap_ok (by have := HX9.out; omega)
     try simp only [hw1]
     have hsi := stI_of (v := (x : Int) + 1) H.out 0 rfl V.out HEM.out
     have HC := Az.mk (H.out.cell (v := .int .i64 (x : Int)) 0 rfl rfl HCM.out.1)
     refine last_ (i := 16) (N := none) (bm 17 131071) rfl rfl (by kernel_rfl) (by decide) (fun K hK => ?_)
     refine last_st (by rfl) rfl (run_sc (v := .int .i64 ((x : Int) + 1)) size3q HC.out (H.out.frz 0 rfl rfl HCM.out.2) rfl rfl rfl rfl) ?_
     have H1 := Az.mk hsi.1
     have V1 := Az.mk (HSET.out ▸ hsi.2)
     clear hsi HC hw1
     clear H V; have H := H1; have V := V1; clear H1 V1
     refine hK.out _ _ ?_
     clear hK K
     refine norm_ (a' := ?_) ?_ ?_
     rotate_left
     ·rfl
     refine done_ (by kernel_rfl) ?_
     go_wp2
     obtain ⟨wm9, V, H⟩ : ∃ wm9 : World, Az ((Kd.int .i64).R 3 wm9 w21.heap.size (fun k => k = gm) (.slice (some ⟨gm, 0, none⟩) m cm) (cnt sp m (i + 1))) ∧ Az (Hq w21.heap.size w21 _ [.set (fun k => k = gm) wm9, .set (fun k => lo66 ≤ k ∧ k < hi66) wl66, .set (fun k => lo39 ≤ k ∧ k < hi39) wl39, .box g5 (cR Mb (tb, Db)) 57, .box g4 (cR Ma (ta, Da)) 57]) := ⟨_, V, H⟩
     go_loopg [14] rl.length (fun kq v14 w' => ∃ (j : Nat), v14 = .int .i64 (j : Int) ∧ Az (j + kq = rl.length) ∧ Az (Hq w21.heap.size w21 w' [.set (fun k => k = gm) wm9, .set (fun k => lo66 ≤ k ∧ k < hi66) wl66, .set (fun k => lo39 ≤ k ∧ k < hi39) wl39, .box g5 (cR Mb (tb, Db)) 57, .box g4 (cR Ma (ta, Da)) 57]))
     case atStart => exact ⟨0, rfl, ⟨Nat.zero_add _⟩, H⟩
     case round =>
      clear H
      obtain ⟨j, rfl, HJ, H⟩ := hrel
      by_cases hj : j < rl.length
      ·skip
       have c94 : decide (j < rl.length) = true := decide_eq_true (by omega)
       have c94i : decide ((j : Int) < (rl.length : Int)) = true := decide_eq_true (by omega)
       have HE3 := Az.mk hj
       have HWj : Az (wrap64 ((j : Int) + 1) = ((j + 1 : Nat) : Int)) := ⟨by rw [wrap_ok (by have := HE3.out; have := HLR.out; omega)]; omega⟩
       have p5 := eq_true (show (0 : Int) ≤ (j : Int) by omega)
       have q5 := eq_true (show (j : Int) < (rl.length : Int) by omega)
       have q5n := eq_true hj
       obtain ⟨ada, ea, ha_0, ha_1⟩ := at_T37 (H.out.rdP 1 rfl O66.out).2 (i : Int) (by omega) (by have := HE.out; omega)
       simp only at ea
       cases ea
       simp only [Int.toNat_natCast, rd_T37] at ha_0 ha_1
       obtain ⟨a, ha⟩ : ∃ x, x = sp.getD i z37 := ⟨_, rfl⟩
       rw [← ha] at ha_0 ha_1
       obtain ⟨adb, eb, hb_0, hb_1⟩ := at_T37 (H.out.rdP 2 rfl O39.out).2 (j : Int) (by omega) (by have := HE3.out; omega)
       simp only at eb
       cases eb
       simp only [Int.toNat_natCast, rd_T37] at hb_0 hb_1
       obtain ⟨b, hb⟩ : ∃ x, x = rl.getD j z37 := ⟨_, rfl⟩
       rw [← hb] at hb_0 hb_1
       have hft := MF.out.first b (by rw [hb]; exact getD_mem HE3.out) a (by rw [ha]; exact getD_mem HE.out)
       clear ha hb hj
       obtain ⟨gk8, hg8⟩ : ∃ x, x = gk := ⟨_, rfl⟩
       subst hg8
       go_wp2
       have hS : wr.drew.cell? (Addr.add ⟨gq, 0, none⟩ (i * 2)) = some (.int .i64 a.f0) ∧ wr.drew.cell? ⟨(Addr.add ⟨gq, 0, none⟩ (i * 2)).block, (Addr.add ⟨gq, 0, none⟩ (i * 2)).off + 1, none⟩ = some (.int .i64 a.f1) ∧ wr.drew.cell? (adb.add (j * 2)) = some (.int .i64 b.f0) ∧ wr.drew.cell? ⟨(adb.add (j * 2)).block, (adb.add (j * 2)).off + 1, none⟩ = some (.int .i64 b.f1) := ⟨ha_0, ha_1, hb_0, hb_1⟩
       try simp only [add_plain, Nat.zero_add] at hS
       by_cases hd : a.f0 = b.f0
       ·skip
        have d1 : (a.f0 == b.f0) = true := beq_iff_eq.mpr hd
        have d2 : decide (a.f0 = b.f0) = true := decide_eq_true hd
        have d3 : decide (a.f1 < b.f1) = false := decide_eq_false (by have := hft hd; omega)
        clear hd hft ha_0 ha_1 hb_0 hb_1
        refine start_ (n := 24) (S := fun w' => w'.cell? ⟨gq, i * 2, none⟩ = some (.int .i64 a.f0) ∧ w'.cell? ⟨gq, i * 2 + 1, none⟩ = some (.int .i64 a.f1) ∧ w'.cell? (adb.add (j * 2)) = some (.int .i64 b.f0) ∧ w'.cell? ⟨(adb.add (j * 2)).block, (adb.add (j * 2)).off + 1, none⟩ = some (.int .i64 b.f1)) (ds := []) (bm 24 0) (by kernel_rfl) rfl rfl (hS) (fun hHeld => ?_)
        refine zP 0 (some 97) (bm 24 1) ?_
        refine zP 1 (some 98) (bm 24 3) ?_
        refine zP 2 (some 99) (bm 24 7) ?_
        refine zP 3 (some 100) (bm 24 15) ?_
        refine zP 5 (some 102) (bm 24 47) ?_
        refine zP 6 (some 103) (bm 24 111) ?_
        refine zP 7 (some 104) (bm 24 239) ?_
        refine zP 8 (some 105) (bm 24 495) ?_
        refine zU 4 (some 101) (bm 24 511) rfl hHeld (Or.inl ⟨by rfl, by rintro w' ⟨s0, s1, s2, s3⟩; go_simp; with_reducible rfl⟩) ?_
        refine zU 9 (some 106) (bm 24 1023) rfl hHeld (Or.inl ⟨by rfl, by rintro w' ⟨s0, s1, s2, s3⟩; go_simp; with_reducible rfl⟩) ?_
        refine zP 10 (some 107) (bm 24 2047) ?_
        refine zP 11 (some 108) (bm 24 4095) ?_
        refine zP 12 (some 109) (bm 24 8191) ?_
        refine zP 13 (some 110) (bm 24 16383) ?_
        refine zP 14 (some 111) (bm 24 32767) ?_
        refine zP 15 (some 112) (bm 24 65535) ?_
        refine zP 17 (some 114) (bm 24 196607) ?_
        refine zP 18 (some 115) (bm 24 458751) ?_
        refine zP 19 (some 116) (bm 24 983039) ?_
        refine zP 20 (some 117) (bm 24 2031615) ?_
        refine zU 16 (some 113) (bm 24 2097151) rfl hHeld (Or.inl ⟨by rfl, by rintro w' ⟨s0, s1, s2, s3⟩; go_simp; with_reducible rfl⟩) ?_
        refine zU 21 (some 118) (bm 24 4194303) rfl hHeld (Or.inl ⟨by rfl, by rintro w' ⟨s0, s1, s2, s3⟩; go_simp; with_reducible rfl⟩) ?_
        refine zP 22 (some 119) (bm 24 8388607) ?_
        refine zP 23 (some 120) (bm 24 16777215) ?_
        refine done_ (by kernel_rfl) ?_
        go_wp2
        go_roundg (rl.length - (j + 1))
        case measure => have := HJ.out; have := HE3.out; omega
        case rel => exact ⟨j + 1, by rw [← HWj.out], ⟨by have := HE3.out; omega⟩, ⟨H.out.drew⟩⟩
       ·skip
        have d1 : (a.f0 == b.f0) = false := beq_eq_false_iff_ne.mpr hd
        have d2 : decide (a.f0 = b.f0) = false := decide_eq_false hd
        clear hd hft ha_0 ha_1 hb_0 hb_1
        refine start_ (n := 24) (S := fun w' => w'.cell? ⟨gq, i * 2, none⟩ = some (.int .i64 a.f0) ∧ w'.cell? ⟨gq, i * 2 + 1, none⟩ = some (.int .i64 a.f1) ∧ w'.cell? (adb.add (j * 2)) = some (.int .i64 b.f0) ∧ w'.cell? ⟨(adb.add (j * 2)).block, (adb.add (j * 2)).off + 1, none⟩ = some (.int .i64 b.f1)) (ds := []) (bm 24 0) (by kernel_rfl) rfl rfl (hS) (fun hHeld => ?_)
        refine zP 0 (some 97) (bm 24 1) ?_
        refine zP 1 (some 98) (bm 24 3) ?_
        refine zP 2 (some 99) (bm 24 7) ?_
        refine zP 3 (some 100) (bm 24 15) ?_
        refine zP 5 (some 102) (bm 24 47) ?_
        refine zP 6 (some 103) (bm 24 111) ?_
        refine zP 7 (some 104) (bm 24 239) ?_
        refine zP 8 (some 105) (bm 24 495) ?_
        refine zU 4 (some 101) (bm 24 511) rfl hHeld (Or.inl ⟨by rfl, by rintro w' ⟨s0, s1, s2, s3⟩; go_simp; with_reducible rfl⟩) ?_
        refine zU 9 (some 106) (bm 24 1023) rfl hHeld (Or.inl ⟨by rfl, by rintro w' ⟨s0, s1, s2, s3⟩; go_simp; with_reducible rfl⟩) ?_
        refine zP 10 (some 107) (bm 24 2047) ?_
        refine zP 11 (some 108) (bm 24 4095) ?_
        refine zO 12 (some 109) (bm 24 8191) ?_
        refine zO 13 (some 110) (bm 24 16383) ?_
        refine zO 14 (some 111) (bm 24 32767) ?_
        refine zO 15 (some 112) (bm 24 65535) ?_
        refine zO 16 (some 113) (bm 24 131071) ?_
        refine zO 17 (some 114) (bm 24 262143) ?_
        refine zO 18 (some 115) (bm 24 524287) ?_
        refine zO 19 (some 116) (bm 24 1048575) ?_
        refine zO 20 (some 117) (bm 24 2097151) ?_
        refine zO 21 (some 118) (bm 24 4194303) ?_
        refine zO 22 (some 119) (bm 24 8388607) ?_
        refine zP 23 (some 120) (bm 24 16777215) ?_
        refine done_ (by kernel_rfl) ?_
        go_wp2
        go_roundg (rl.length - (j + 1))
        case measure => have := HJ.out; have := HE3.out; omega
        case rel => exact ⟨j + 1, by rw [← HWj.out], ⟨by have := HE3.out; omega⟩, ⟨H.out.drew⟩⟩
      ·skip
       have c94 : decide (j < rl.length) = false := decide_eq_false (by omega)
       have c94i : decide ((j : Int) < (rl.length : Int)) = false := decide_eq_false (by omega)
       clear hj
       go_wp2
       go_roundg (sp.length - (i + 1))
       case measure => have := HI.out; have := HE.out; omega
       case rel => exact ⟨i + 1, _, by rw [← HWi.out], ⟨by have := HE.out; omega⟩, V, H⟩
    ·skip
     have c72 : decide (i < sp.length) = false := decide_eq_false (by omega)
     have c72i : decide ((i : Int) < (sp.length : Int)) = false := decide_eq_false (by omega)
     have hi2 : i = sp.length := by have := HI.out; omega
     subst hi2
     clear hi
     go_wp2
     go_loopg [15] (rl.length + 1) (fun kq v15 w' => ∃ (i : Nat), v15 = .int .i64 (i : Int) ∧ Az (1 ≤ i) ∧ Az (i + kq = rl.length + 2) ∧ Az (Hq w21.heap.size w21 w' [.set (fun k => k = gm) wm, .set (fun k => lo66 ≤ k ∧ k < hi66) wl66, .set (fun k => lo39 ≤ k ∧ k < hi39) wl39, .box g5 (cR Mb (tb, Db)) 57, .box g4 (cR Ma (ta, Da)) 57]))
     case atStart => exact ⟨1, rfl, ⟨Nat.le_refl _⟩, ⟨by omega⟩, H⟩
     case round =>
      clear H
      obtain ⟨i, rfl, HI1, HK, H⟩ := hrel
      by_cases hi : i < rl.length
      ·skip
       have c124 : decide (i < rl.length) = true := decide_eq_true (by omega)
       have c124i : decide ((i : Int) < (rl.length : Int)) = true := decide_eq_true (by omega)
       have HE := Az.mk hi
       have HWi : Az (wrap64 ((i : Int) + 1) = ((i + 1 : Nat) : Int)) := ⟨by rw [wrap_ok (by have := HE.out; have := HLR.out; omega)]; omega⟩
       have p1 := eq_true (show (0 : Int) ≤ (i : Int) by omega)
       have q1 := eq_true (show (i : Int) < (rl.length : Int) by omega)
       have q1n := eq_true hi
       have p2 := eq_true (show (0 : Int) ≤ ((i - 1 : Nat) : Int) by omega)
       have q2 := eq_true (show ((i - 1 : Nat) : Int) < (rl.length : Int) by omega)
       have q2n := eq_true (show i - 1 < rl.length by omega)
       have hmi : wrap64 ((i : Int) - 1) = ((i - 1 : Nat) : Int) := by rw [wrap_ok (by have := HLR.out; have := HI1.out; omega)]; have := HI1.out; omega
       have hmo := most_at MF.out.most HI1.out hi
       obtain ⟨i', hi'⟩ : ∃ i', i' = i - 1 := ⟨_, rfl⟩
       rw [← hi'] at p2 q2 q2n hmi hmo
       obtain ⟨adb, eb, hb_0, hb_1⟩ := at_T37 (H.out.rdP 2 rfl O39.out).2 (i : Int) (by omega) (by have := HE.out; omega)
       simp only at eb
       cases eb
       simp only [Int.toNat_natCast, rd_T37] at hb_0 hb_1
       obtain ⟨b, hb⟩ : ∃ x, x = rl.getD i z37 := ⟨_, rfl⟩
       rw [← hb] at hb_0 hb_1
       obtain ⟨ada, ea, ha_0, ha_1⟩ := at_T37 (H.out.rdP 2 rfl O39.out).2 (i' : Int) (by omega) (by have := HE.out; omega)
       simp only at ea
       cases ea
       simp only [Int.toNat_natCast, rd_T37] at ha_0 ha_1
       obtain ⟨a, ha⟩ : ∃ x, x = rl.getD i' z37 := ⟨_, rfl⟩
       rw [← ha] at ha_0 ha_1
       rw [← ha, ← hb] at hmo
       have da := MF.out.disk a (MF.out.mem a (by rw [ha]; exact getD_mem (by have := HE.out; omega)))
       have db := MF.out.disk b (MF.out.mem b (by rw [hb]; exact getD_mem HE.out))
       obtain ⟨e, he⟩ := Int.eq_ofNat_of_zero_le da.1
       obtain ⟨f, hf⟩ := Int.eq_ofNat_of_zero_le db.1
       have hem : e < m := by omega
       have hfm : f < m := by omega
       rw [he, hf] at hmo
       rw [he] at ha_0
       rw [hf] at hb_0
       have p3 := eq_true (show (0 : Int) ≤ (e : Int) by omega)
       have q3 := eq_true (show (e : Int) < (m : Int) by omega)
       have q3n := eq_true hem
       have p4 := eq_true (show (0 : Int) ≤ (f : Int) by omega)
       have q4 := eq_true (show (f : Int) < (m : Int) by omega)
       have q4n := eq_true hfm
       have hce := (elemI V.out hem).1
       have hcf := (elemI V.out hfm).1
       rw [cnt_get sp hem, List.take_length] at hce
       rw [cnt_get sp hfm, List.take_length] at hcf
       have hce := H.out.cell 0 rfl rfl hce
       have hcf := H.out.cell 0 rfl rfl hcf
       obtain ⟨x, hx⟩ : ∃ x, x = onL sp (e : Int) := ⟨_, rfl⟩
       obtain ⟨y, hy⟩ : ∃ y, y = onL sp (f : Int) := ⟨_, rfl⟩
       rw [← hx] at hce hmo
       rw [← hy] at hcf hmo
       have d1 : decide ((x : Int) < (y : Int)) = false := decide_eq_false (by omega)
       have d1n : decide (x < y) = false := decide_eq_false (by omega)
       clear hx hy hmo hem hfm da db he hf ha hb hi hi'
       obtain ⟨gk9, hg9⟩ : ∃ x, x = gk := ⟨_, rfl⟩
       subst hg9
       go_wp2
       have hS : wr.drew.cell? (adb.add (i' * 2)) = some (.int .i64 (e : Int)) ∧ wr.drew.cell? (adb.add (i * 2)) = some (.int .i64 (f : Int)) ∧ wr.drew.cell? ⟨gm, e, none⟩ = some (.int .i64 (x : Int)) ∧ wr.drew.cell? ⟨gm, f, none⟩ = some (.int .i64 (y : Int)) := ⟨ha_0, hb_0, hce, hcf⟩
       clear ha_0 ha_1 hb_0 hb_1 hce hcf
       refine start_ (n := 18) (S := fun w' => w'.cell? (adb.add (i' * 2)) = some (.int .i64 (e : Int)) ∧ w'.cell? (adb.add (i * 2)) = some (.int .i64 (f : Int)) ∧ w'.cell? ⟨gm, e, none⟩ = some (.int .i64 (x : Int)) ∧ w'.cell? ⟨gm, f, none⟩ = some (.int .i64 (y : Int))) (ds := []) (bm 18 0) (by kernel_rfl) rfl rfl (hS) (fun hHeld => ?_)
       refine zP 0 (some 127) (bm 18 1) ?_
       refine zP 1 (some 128) (bm 18 3) ?_
       refine zP 2 (some 129) (bm 18 7) ?_
       refine zP 3 (some 130) (bm 18 15) ?_
       refine zP 4 (some 131) (bm 18 31) ?_
       refine zP 5 (some 132) (bm 18 63) ?_
       refine zP 9 (some 136) (bm 18 575) ?_
       refine zP 10 (some 137) (bm 18 1599) ?_
       refine zP 11 (some 138) (bm 18 3647) ?_
       refine zP 12 (some 139) (bm 18 7743) ?_
       refine zP 13 (some 140) (bm 18 15935) ?_
       refine zU 6 (some 133) (bm 18 15999) rfl hHeld (Or.inl ⟨by rfl, by rintro w' ⟨s0, s1, s2, s3⟩; go_simp; with_reducible rfl⟩) ?_
       refine zP 7 (some 134) (bm 18 16127) ?_
       refine zU 8 (some 135) (bm 18 16383) rfl hHeld (Or.inl ⟨by rfl, by rintro w' ⟨s0, s1, s2, s3⟩; go_simp; with_reducible rfl⟩) ?_
       refine zU 14 (some 141) (bm 18 32767) rfl hHeld (Or.inl ⟨by rfl, by rintro w' ⟨s0, s1, s2, s3⟩; go_simp; with_reducible rfl⟩) ?_
       refine zP 15 (some 142) (bm 18 65535) ?_
       refine zU 16 (some 143) (bm 18 131071) rfl hHeld (Or.inl ⟨by rfl, by rintro w' ⟨s0, s1, s2, s3⟩; go_simp; with_reducible rfl⟩) ?_
       refine zP 17 (some 144) (bm 18 262143) ?_
       refine done_ (by kernel_rfl) ?_
       go_wp2
       go_roundg (rl.length + 2 - (i + 1))
       case measure => have := HK.out; have := HE.out; omega
       case rel => exact ⟨i + 1, by rw [← HWi.out], ⟨by omega⟩, ⟨by have := HE.out; omega⟩, ⟨H.out.drew⟩⟩
      ·skip
       have c124 : decide (i < rl.length) = false := decide_eq_false (by omega)
       have c124i : decide ((i : Int) < (rl.length : Int)) = false := decide_eq_false (by omega)
       clear hi
       go_wp2
       go_ret
       exact ⟨rfl, HB0.out.trans (H.out.bel.mono HB0.out.size)⟩
end Go.Proofs.Ytkoimmeghdbodaa.Hq
