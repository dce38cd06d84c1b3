/- Proved, with what follows on it: the row of the law FnExactSpaceFree. Conditions: the row's alone. Texts of this session and words that the kit's print laid for this seat, merged and cut by shrink.py, a program of this session. -/
import Derived.Below
import Derived.ChangeOld
import Derived.OpenShut
import Derived.ProofKit
import Derived.ShutString
import Derived.SizedLaws
import Derived.WalkKit
import Derived.Test.YtkoimmeghdbodaaRows
import Derived.Test.YtkoimmeghdbodaaZFnExactSpaceFreeF
namespace Go.Proofs.Ytkoimmeghdbodaa.Hd
open Go.RowKit Go.Proofs.Ytkoimmeghdbodaa.Print Go.Proofs.YtkoimmeghdbodaaW.PrintWords Go.Proofs.YtkoimmeghdbodaaW.PrintLast Go.Proofs.YtkoimmeghdbodaaW.PrintMore Go.Proofs.Ytkoimmeghdbodaa.Pure
set_option linter.unusedVariables false
set_option linter.unusedSimpArgs false
set_option maxHeartbeats 16000000 in
set_option maxRecDepth 100000 in
theorem law_FnExactSpaceFree (n txa txb : Int) (ma mb : AC) (la lb : List S120) (w : World) (hra : Kd.C k120 w ma.1 la.length la) (hca : la.length ≤ ma.2) (hwa : Take.W52 ⟨txa, la⟩) (hrb : Kd.C k120 w mb.1 lb.length lb) (hcb : lb.length ≤ mb.2) (hwb : Take.W52 ⟨txb, lb⟩) : Calls Try.prog 16 #[.int .i64 n, .agg (cA ma (txa, la)), .agg (cA mb (txb, lb))] w fun e w' => e = .returned (.bool true) ∧ Below w.heap.size w w' := by
 have hs57 := size57
 have hs52 := size52
 have HRa := Az.mk hra
 have HCa := Az.mk hca
 have HRb := Az.mk hrb
 have HCb := Az.mk hcb
 have HWb := Az.mk hwb
 obtain ⟨ta, hta, hta1, hfit⟩ := szRoot_ev txa la hwa.2.1 (fun x hx => have h := hwa.2.2 x hx; ⟨h.1, h.2.1, fun y hy => (h.2.2 y hy).2.2.1⟩) 1048576 (by omega) (by omega)
 obtain ⟨ka, hka⟩ := Ev.rounds hta
 have HSZa := Az.mk (fun (W : World) (h : Kd.C k120 W ma.1 la.length la) => laws_szRoot.calls ka txa ma.1 ma.2 la 1048576 ta W h hca hka)
 have HT1 := Az.mk hta1
 clear hra hrb hwa hwb hta hka hca hcb hta1
 by_cases c_ta : ta < 0
 ·have l_ta : decide (ta < 0) = true := decide_eq_true c_ta
  clear c_ta
  have H := Az.mk (Hd.start w)
  have tk0 : True := trivial
  go_enter Try.func16, Try.ntmps16
  go_wp2_with (first | ((with_reducible refine zqg (N := 4) rfl ?_); refine H.out.bx rfl ((cA ma (txa, la))) 52 ?hr ?_; (case hr => first | (go_simp; done) | (go_simp; rfl)); intro g4 w4 H1; clear H; have H := H1; clear H1; (try simp only [Act.put, zs1, zs2, zs3])) | ((with_reducible refine zqg (N := 5) rfl ?_); refine H.out.bx rfl ((cA mb (txb, lb))) 52 ?hr ?_; (case hr => first | (go_simp; done) | (go_simp; rfl)); intro g5 w5 H1; clear H; have H := H1; clear H1; (try simp only [Act.put, zs1, zs2, zs3])) | ((with_reducible refine zqg (N := 16) rfl ?_); refine H.out.ld_row 1 rfl rfl rfl rfl Try.underlying52 rfl hs52 ?_; (try simp only [Act.put, zs1, zs2, zs3])) | (go_at_call 35; have _tk := tk0; refine (HSZa.out _ (H.out.C HRa.out)).mono ?_; rintro e w18 ⟨rfl, hb⟩; have H1 := Az.mk (H.out.step hb); clear hb; clear H; have H := H1; clear H1; clear tk0 _tk; have tk1 : True := trivial))
  go_ret
  exact ⟨rfl, H.out.bel⟩
 ·have l_ta : decide (ta < 0) = false := decide_eq_false c_ta
  have HFa := Az.mk (hfit c_ta)
  have HMa := Az.mk HFa.out.map
  obtain ⟨tb, htb, _, hfitb⟩ := szRoot_ev txb lb HWb.out.2.1 (fun x hx => have h := HWb.out.2.2 x hx; ⟨h.1, h.2.1, fun y hy => (h.2.2 y hy).2.2.1⟩) ta (by omega) HT1.out
  obtain ⟨kb, hkb⟩ := Ev.rounds htb
  have HSZb := Az.mk (fun (W : World) (h : Kd.C k120 W mb.1 lb.length lb) => laws_szRoot.calls kb txb mb.1 mb.2 lb ta tb W h HCb.out hkb)
  clear htb hkb hfit
  clear c_ta
  by_cases c_tb : tb < 0
  ·have l_tb : decide (tb < 0) = true := decide_eq_true c_tb
   clear c_tb
   have H := Az.mk (Hd.start w)
   have tk0 : True := trivial
   go_enter Try.func16, Try.ntmps16
   go_wp2_with (first | ((with_reducible refine zqg (N := 4) rfl ?_); refine H.out.bx rfl ((cA ma (txa, la))) 52 ?hr ?_; (case hr => first | (go_simp; done) | (go_simp; rfl)); intro g4 w4 H1; clear H; have H := H1; clear H1; (try simp only [Act.put, zs1, zs2, zs3])) | ((with_reducible refine zqg (N := 5) rfl ?_); refine H.out.bx rfl ((cA mb (txb, lb))) 52 ?hr ?_; (case hr => first | (go_simp; done) | (go_simp; rfl)); intro g5 w5 H1; clear H; have H := H1; clear H1; (try simp only [Act.put, zs1, zs2, zs3])) | ((with_reducible refine zqg (N := 16) rfl ?_); refine H.out.ld_row 1 rfl rfl rfl rfl Try.underlying52 rfl hs52 ?_; (try simp only [Act.put, zs1, zs2, zs3])) | (go_at_call 35; have _tk := tk0; refine (HSZa.out _ (H.out.C HRa.out)).mono ?_; rintro e w18 ⟨rfl, hb⟩; have H1 := Az.mk (H.out.step hb); clear hb; clear H; have H := H1; clear H1; clear tk0 _tk; have tk1 : True := trivial) | ((with_reducible refine zqg (N := 21) rfl ?_); refine H.out.ld_row 0 rfl rfl rfl rfl Try.underlying52 rfl hs52 ?_; (try simp only [Act.put, zs1, zs2, zs3])) | (go_at_call 35; have _tk := tk1; refine (HSZb.out _ (H.out.C HRb.out)).mono ?_; rintro e w23 ⟨rfl, hb⟩; have H1 := Az.mk (H.out.step hb); clear hb; clear H; have H := H1; clear H1; clear tk1 _tk; have tk2 : True := trivial))
   go_ret
   exact ⟨rfl, H.out.bel⟩
  ·have l_tb : decide (tb < 0) = false := decide_eq_false c_tb
   have HFb := Az.mk (hfitb c_tb)
   have HMb := Az.mk HFb.out.map
   have HLN := Az.mk (spaceI_len n txa txb (la.map voC) (lb.map voC))
   clear hfitb
   clear c_tb
   have H := Az.mk (Hd.start w)
   have tk0 : True := trivial
   go_enter Try.func16, Try.ntmps16
   go_wp2_with (first | ((with_reducible refine zqg (N := 4) rfl ?_); refine H.out.bx rfl ((cA ma (txa, la))) 52 ?hr ?_; (case hr => first | (go_simp; done) | (go_simp; rfl)); intro g4 w4 H1; clear H; have H := H1; clear H1; (try simp only [Act.put, zs1, zs2, zs3])) | ((with_reducible refine zqg (N := 5) rfl ?_); refine H.out.bx rfl ((cA mb (txb, lb))) 52 ?hr ?_; (case hr => first | (go_simp; done) | (go_simp; rfl)); intro g5 w5 H1; clear H; have H := H1; clear H1; (try simp only [Act.put, zs1, zs2, zs3])) | ((with_reducible refine zqg (N := 16) rfl ?_); refine H.out.ld_row 1 rfl rfl rfl rfl Try.underlying52 rfl hs52 ?_; (try simp only [Act.put, zs1, zs2, zs3])) | (go_at_call 35; have _tk := tk0; refine (HSZa.out _ (H.out.C HRa.out)).mono ?_; rintro e w18 ⟨rfl, hb⟩; have H1 := Az.mk (H.out.step hb); clear hb; clear H; have H := H1; clear H1; clear tk0 _tk; have tk1 : True := trivial) | ((with_reducible refine zqg (N := 21) rfl ?_); refine H.out.ld_row 0 rfl rfl rfl rfl Try.underlying52 rfl hs52 ?_; (try simp only [Act.put, zs1, zs2, zs3])) | (go_at_call 35; have _tk := tk1; refine (HSZb.out _ (H.out.C HRb.out)).mono ?_; rintro e w23 ⟨rfl, hb⟩; have H1 := Az.mk (H.out.step hb); clear hb; clear H; have H := H1; clear H1; clear tk1 _tk; have tk2 : True := trivial))
   refine start_ (n := 7) (S := fun w' => Hd w.heap.size w w' [.box g5 ((cA mb (txb, lb))) 52, .box g4 ((cA ma (txa, la))) 52]) (ds := []) (bm 7 0) (by kernel_rfl) rfl rfl (H.out.drew) (fun hHeld => ?_)
   clear H
   generalize World.drew w23 = wd8 at hHeld ⊢
   have H := Az.mk hHeld
   refine zqp (i := 0) (N := some 26) (v := ?_) (a' := ?_) (bm 7 1) rfl rfl (by kernel_rfl) (fun _ _ _ h => h) (Or.inl ⟨by rfl, ?_⟩) ?_ ?_
   rotate_left
   ·intro w'
    go_simp
    with_reducible rfl
   rotate_left
   ·simp only [Act.put, zs1, zs2, zs3, i64_w, i32_w]
    rfl
   refine zqt (i := 1) (N := some 27) (v := .agg ((cA ma (txa, la)))) (a' := ?_) (bm 7 3) rfl rfl (by kernel_rfl) (fun _ _ _ h => h) (Or.inl ⟨by rfl, fun w' s0 => s0.run_row 1 rfl rfl rfl Try.underlying52 rfl hs52⟩) hHeld ?_ ?_
   rotate_left
   ·simp only [Act.put, zs1, zs2, zs3, i64_w, i32_w]
    rfl
   refine zqt (i := 3) (N := some 29) (v := .agg ((cA mb (txb, lb)))) (a' := ?_) (bm 7 11) rfl rfl (by kernel_rfl) (fun _ _ _ h => h) (Or.inl ⟨by rfl, fun w' s0 => s0.run_row 0 rfl rfl rfl Try.underlying52 rfl hs52⟩) hHeld ?_ ?_
   rotate_left
   ·simp only [Act.put, zs1, zs2, zs3, i64_w, i32_w]
    rfl
   refine one_ (i := 2) (N := some 28) (bm 7 15) rfl rfl (by kernel_rfl) (by decide) (fun K hK => ?_)
   refine goes_ Try.func37 (by kernel_rfl) rfl #[.agg ((cA ma (txa, la)))] (by rfl) rfl rfl (by (try simp only [List.map_toArray, List.map_cons, List.map_nil]); first | done | rfl) ?_
   refine (toRoot_call HFa.out (H.out.C HRa.out) HCa.out H.out.ge).mono ?_
   rintro e w28 ⟨M28, rfl, ho, hb⟩
   refine ⟨_, rfl, ?_⟩
   have O28 := Az.mk ho
   clear ho
   have H1 := Az.mk (H.out.made hb); clear hb; clear H; have H := H1; clear H1
   refine hK.out _ _ (H.out.less) (fun hHeld => ?_)
   clear hK K
   refine norm_ (a' := ?_) ?_ ?_
   rotate_left
   ·show Act.put _ (some 28) _ = _
    simp only [Act.put, zs1, zs2, zs3, i64_w, i32_w]
    rfl
   refine one_ (i := 4) (N := some 30) (bm 7 31) rfl rfl (by kernel_rfl) (by decide) (fun K hK => ?_)
   refine goes_ Try.func37 (by kernel_rfl) rfl #[.agg ((cA mb (txb, lb)))] (by rfl) rfl rfl (by (try simp only [List.map_toArray, List.map_cons, List.map_nil]); first | done | rfl) ?_
   refine (toRoot_call HFb.out (H.out.C HRb.out) HCb.out H.out.ge).mono ?_
   rintro e w30 ⟨M30, rfl, ho, hb⟩
   refine ⟨_, rfl, ?_⟩
   have O30 := Az.mk ho
   clear ho
   have H1 := Az.mk (H.out.made hb); clear hb; clear H; have H := H1; clear H1
   refine hK.out _ _ (H.out.less.less) (fun hHeld => ?_)
   clear hK K
   refine norm_ (a' := ?_) ?_ ?_
   rotate_left
   ·show Act.put _ (some 30) _ = _
    simp only [Act.put, zs1, zs2, zs3, i64_w, i32_w]
    rfl
   refine one_ (i := 5) (N := some 31) (bm 7 63) rfl rfl (by kernel_rfl) (by decide) (fun K hK => ?_)
   refine goes_ Try.func49 (by kernel_rfl) rfl #[.int .i64 n, .agg (cR M28 (txa, la.map voC)), .agg (cR M30 (txb, lb.map voC))] (by rfl) rfl rfl (by (try simp only [List.map_toArray, List.map_cons, List.map_nil]); first | done | rfl) ?_
   refine (specSp_call n txa txb HMa.out HMb.out (H.out.rdR 1 rfl O28.out) (H.out.rdR 0 rfl O30.out) H.out.ge).mono ?_
   rintro e w31 ⟨M31, rfl, ho, hb⟩
   refine ⟨_, rfl, ?_⟩
   have O31 := Az.mk ho
   clear ho
   have H1 := Az.mk (H.out.made hb); clear hb; clear H; have H := H1; clear H1
   refine hK.out _ _ (H.out.less.less.less) (fun hHeld => ?_)
   clear hK K
   refine norm_ (a' := ?_) ?_ ?_
   rotate_left
   ·show Act.put _ (some 31) _ = _
    simp only [Act.put, zs1, zs2, zs3, i64_w, i32_w]
    rfl
   refine zqp (i := 6) (N := some 8) (v := ?_) (a' := ?_) (bm 7 127) rfl rfl (by kernel_rfl) (fun _ _ _ h => h) (Or.inl ⟨by rfl, ?_⟩) ?_ ?_
   rotate_left
   ·intro w'
    go_simp
    with_reducible rfl
   rotate_left
   ·simp only [Act.put, zs1, zs2, zs3, i64_w, i32_w]
    rfl
   refine done_ (by kernel_rfl) ?_
   skip
   go_wp2_with (first | ((with_reducible refine zqg (N := 32) rfl ?_); refine H.out.ld_row 4 rfl rfl rfl rfl Try.underlying52 rfl hs52 ?_; (try simp only [Act.put, zs1, zs2, zs3])) | (go_at_call 37; have _tk := tk2; refine (toRoot_call HFa.out (H.out.C HRa.out) HCa.out H.out.ge).mono ?_; rintro e w33 ⟨M33, rfl, ho, hb⟩; have O33 := Az.mk ho; clear ho; have H1 := Az.mk (H.out.made hb); clear hb; clear H; have H := H1; clear H1; clear tk2 _tk; have tk3 : True := trivial) | ((with_reducible refine zqg (N := 9) rfl ?_); refine H.out.bx rfl (#[.int .i64 0, .slice none 0 0]) 57 ?hr ?_; (case hr => first | (go_simp; done) | (go_simp; rfl)); intro g9 w9 H1; clear H; have H := H1; clear H1; (try simp only [Act.put, zs1, zs2, zs3])) | ((with_reducible refine gate_store (t := 57) (p := 9) rfl ?_); refine H.out.st_row 0 rfl rfl (x := .tmp 9) (y := .tmp 33) rfl rfl rfl ((cR M33 (txa, la.map voC))) rfl hs57 rfl (cR_one _ _) ?_; intro ws9_3 H1; clear H; have H := H1; clear H1) | ((with_reducible refine zqg (N := 34) rfl ?_); refine H.out.ld_row 5 rfl rfl rfl rfl Try.underlying52 rfl hs52 ?_; (try simp only [Act.put, zs1, zs2, zs3])) | (go_at_call 37; have _tk := tk3; refine (toRoot_call HFb.out (H.out.C HRb.out) HCb.out H.out.ge).mono ?_; rintro e w35 ⟨M35, rfl, ho, hb⟩; have O35 := Az.mk ho; clear ho; have H1 := Az.mk (H.out.made hb); clear hb; clear H; have H := H1; clear H1; clear tk3 _tk; have tk4 : True := trivial) | ((with_reducible refine zqg (N := 10) rfl ?_); refine H.out.bx rfl (#[.int .i64 0, .slice none 0 0]) 57 ?hr ?_; (case hr => first | (go_simp; done) | (go_simp; rfl)); intro g10 w10 H1; clear H; have H := H1; clear H1; (try simp only [Act.put, zs1, zs2, zs3])) | ((with_reducible refine gate_store (t := 57) (p := 10) rfl ?_); refine H.out.st_row 0 rfl rfl (x := .tmp 10) (y := .tmp 35) rfl rfl rfl ((cR M35 (txb, lb.map voC))) rfl hs57 rfl (cR_one _ _) ?_; intro ws10_3 H1; clear H; have H := H1; clear H1) | ((with_reducible refine zqg (N := 37) rfl ?_); refine H.out.ld_row 2 rfl rfl rfl rfl Try.underlying57 rfl hs57 ?_; (try simp only [Act.put, zs1, zs2, zs3])) | ((with_reducible refine zqg (N := 38) rfl ?_); refine H.out.ld_row 0 rfl rfl rfl rfl Try.underlying57 rfl hs57 ?_; (try simp only [Act.put, zs1, zs2, zs3])) | (go_at_call 48; have _tk := tk4; refine (implSp_call n txa txb HMa.out HMb.out (H.out.rdR 3 rfl O33.out) (H.out.rdR 1 rfl O35.out) H.out.ge).mono ?_; rintro e w39 ⟨M39, rfl, ho, hb⟩; have O39 := Az.mk ho; clear ho; have H1 := Az.mk (H.out.made hb); clear hb; clear H; have H := H1; clear H1; clear tk4 _tk; have tk5 : True := trivial) | (go_at_call 31; have _tk := tk5; refine (eqPl_call HLN.out (H.out.rdP 0 rfl O39.out) (H.out.rdP 5 rfl O31.out)).mono ?_; rintro e w42 ⟨rfl, hb⟩; have H1 := Az.mk (H.out.step hb); clear hb; clear H; have H := H1; clear H1; clear tk5 _tk; have tk6 : True := trivial))
   refine start_ (n := 5) (S := fun w' => Hd w.heap.size w w' [.same (ws10_3.heap.size) (w39.heap.size) w39, .box g10 ((cR M35 (txb, lb.map voC))) 57, .same (ws9_3.heap.size) (w35.heap.size) w35, .box g9 ((cR M33 (txa, la.map voC))) 57, .same (w31.heap.size) (w33.heap.size) w33, .same (w30.heap.size) (w31.heap.size) w31, .same (w28.heap.size) (w30.heap.size) w30, .same (wd8.heap.size) (w28.heap.size) w28, .box g5 ((cA mb (txb, lb))) 52, .box g4 ((cA ma (txa, la))) 52]) (ds := []) (bm 5 0) (by kernel_rfl) rfl rfl (H.out.drew) (fun hHeld => ?_)
   clear H
   generalize World.drew w42 = wd14 at hHeld ⊢
   have H := Az.mk hHeld
   refine zqt (i := 0) (N := some 44) (v := .agg ((cR M33 (txa, la.map voC)))) (a' := ?_) (bm 5 1) rfl rfl (by kernel_rfl) (fun _ _ _ h => h) (Or.inl ⟨by rfl, fun w' s0 => s0.run_row 3 rfl rfl rfl Try.underlying57 rfl hs57⟩) hHeld ?_ ?_
   rotate_left
   ·simp only [Act.put, zs1, zs2, zs3, i64_w, i32_w]
    rfl
   refine zqt (i := 1) (N := some 45) (v := .agg ((cA ma (txa, la)))) (a' := ?_) (bm 5 3) rfl rfl (by kernel_rfl) (fun _ _ _ h => h) (Or.inl ⟨by rfl, fun w' s0 => s0.run_row 9 rfl rfl rfl Try.underlying52 rfl hs52⟩) hHeld ?_ ?_
   rotate_left
   ·simp only [Act.put, zs1, zs2, zs3, i64_w, i32_w]
    rfl
   refine one_ (i := 2) (N := some 46) (bm 5 7) rfl rfl (by kernel_rfl) (by decide) (fun K hK => ?_)
   refine goes_ Try.func37 (by kernel_rfl) rfl #[.agg ((cA ma (txa, la)))] (by rfl) rfl rfl (by (try simp only [List.map_toArray, List.map_cons, List.map_nil]); first | done | rfl) ?_
   refine (toRoot_call HFa.out (H.out.C HRa.out) HCa.out H.out.ge).mono ?_
   rintro e w46 ⟨M46, rfl, ho, hb⟩
   refine ⟨_, rfl, ?_⟩
   have O46 := Az.mk ho
   clear ho
   have H1 := Az.mk (H.out.made hb); clear hb; clear H; have H := H1; clear H1
   refine hK.out _ _ (H.out.less) (fun hHeld => ?_)
   clear hK K
   refine norm_ (a' := ?_) ?_ ?_
   rotate_left
   ·show Act.put _ (some 46) _ = _
    simp only [Act.put, zs1, zs2, zs3, i64_w, i32_w]
    rfl
   refine one_ (i := 3) (N := some 47) (bm 5 15) rfl rfl (by kernel_rfl) (by decide) (fun K hK => ?_)
   refine goes_ Try.func39 (by kernel_rfl) rfl #[.agg ((cR M33 (txa, la.map voC))), .agg (cR M46 (txa, la.map voC))] (by rfl) rfl rfl (by (try simp only [List.map_toArray, List.map_cons, List.map_nil]); first | done | rfl) ?_
   refine (eqRoot_call HMa.out (H.out.rdR 5 rfl O33.out) (H.out.rdR 0 rfl O46.out)).mono ?_
   rintro e w47 ⟨rfl, hb⟩
   refine ⟨_, rfl, ?_⟩
   have H1 := Az.mk (H.out.step hb); clear hb; clear H; have H := H1; clear H1
   refine hK.out _ _ (H.out.less) (fun hHeld => ?_)
   clear hK K
   refine norm_ (a' := ?_) ?_ ?_
   rotate_left
   ·show Act.put _ (some 47) _ = _
    simp only [Act.put, zs1, zs2, zs3, i64_w, i32_w]
    rfl
   refine zqp (i := 4) (N := some 48) (v := ?_) (a' := ?_) (bm 5 31) rfl rfl (by kernel_rfl) (fun _ _ _ h => h) (Or.inl ⟨by rfl, ?_⟩) ?_ ?_
   rotate_left
   ·intro w'
    go_simp
    with_reducible rfl
   rotate_left
   ·simp only [Act.put, zs1, zs2, zs3, i64_w, i32_w]
    rfl
   refine done_ (by kernel_rfl) ?_
   skip
   go_wp2_with fail
   refine start_ (n := 5) (S := fun w' => Hd w.heap.size w w' [.same (wd14.heap.size) (w46.heap.size) w46, .same (ws10_3.heap.size) (w39.heap.size) w39, .box g10 ((cR M35 (txb, lb.map voC))) 57, .same (ws9_3.heap.size) (w35.heap.size) w35, .box g9 ((cR M33 (txa, la.map voC))) 57, .same (w31.heap.size) (w33.heap.size) w33, .same (w30.heap.size) (w31.heap.size) w31, .same (w28.heap.size) (w30.heap.size) w30, .same (wd8.heap.size) (w28.heap.size) w28, .box g5 ((cA mb (txb, lb))) 52, .box g4 ((cA ma (txa, la))) 52]) (ds := []) (bm 5 0) (by kernel_rfl) rfl rfl (H.out.drew) (fun hHeld => ?_)
   clear H
   generalize World.drew w47 = wd16 at hHeld ⊢
   have H := Az.mk hHeld
   refine zqt (i := 0) (N := some 49) (v := .agg ((cR M35 (txb, lb.map voC)))) (a' := ?_) (bm 5 1) rfl rfl (by kernel_rfl) (fun _ _ _ h => h) (Or.inl ⟨by rfl, fun w' s0 => s0.run_row 2 rfl rfl rfl Try.underlying57 rfl hs57⟩) hHeld ?_ ?_
   rotate_left
   ·simp only [Act.put, zs1, zs2, zs3, i64_w, i32_w]
    rfl
   refine zqt (i := 1) (N := some 50) (v := .agg ((cA mb (txb, lb)))) (a' := ?_) (bm 5 3) rfl rfl (by kernel_rfl) (fun _ _ _ h => h) (Or.inl ⟨by rfl, fun w' s0 => s0.run_row 9 rfl rfl rfl Try.underlying52 rfl hs52⟩) hHeld ?_ ?_
   rotate_left
   ·simp only [Act.put, zs1, zs2, zs3, i64_w, i32_w]
    rfl
   refine one_ (i := 2) (N := some 51) (bm 5 7) rfl rfl (by kernel_rfl) (by decide) (fun K hK => ?_)
   refine goes_ Try.func37 (by kernel_rfl) rfl #[.agg ((cA mb (txb, lb)))] (by rfl) rfl rfl (by (try simp only [List.map_toArray, List.map_cons, List.map_nil]); first | done | rfl) ?_
   refine (toRoot_call HFb.out (H.out.C HRb.out) HCb.out H.out.ge).mono ?_
   rintro e w51 ⟨M51, rfl, ho, hb⟩
   refine ⟨_, rfl, ?_⟩
   have O51 := Az.mk ho
   clear ho
   have H1 := Az.mk (H.out.made hb); clear hb; clear H; have H := H1; clear H1
   refine hK.out _ _ (H.out.less) (fun hHeld => ?_)
   clear hK K
   refine norm_ (a' := ?_) ?_ ?_
   rotate_left
   ·show Act.put _ (some 51) _ = _
    simp only [Act.put, zs1, zs2, zs3, i64_w, i32_w]
    rfl
   refine one_ (i := 3) (N := some 52) (bm 5 15) rfl rfl (by kernel_rfl) (by decide) (fun K hK => ?_)
   refine goes_ Try.func39 (by kernel_rfl) rfl #[.agg ((cR M35 (txb, lb.map voC))), .agg (cR M51 (txb, lb.map voC))] (by rfl) rfl rfl (by (try simp only [List.map_toArray, List.map_cons, List.map_nil]); first | done | rfl) ?_
   refine (eqRoot_call HMb.out (H.out.rdR 4 rfl O35.out) (H.out.rdR 0 rfl O51.out)).mono ?_
   rintro e w52 ⟨rfl, hb⟩
   refine ⟨_, rfl, ?_⟩
   have H1 := Az.mk (H.out.step hb); clear hb; clear H; have H := H1; clear H1
   refine hK.out _ _ (H.out.less) (fun hHeld => ?_)
   clear hK K
   refine norm_ (a' := ?_) ?_ ?_
   rotate_left
   ·show Act.put _ (some 52) _ = _
    simp only [Act.put, zs1, zs2, zs3, i64_w, i32_w]
    rfl
   refine zqp (i := 4) (N := some 53) (v := ?_) (a' := ?_) (bm 5 31) rfl rfl (by kernel_rfl) (fun _ _ _ h => h) (Or.inl ⟨by rfl, ?_⟩) ?_ ?_
   rotate_left
   ·intro w'
    go_simp
    with_reducible rfl
   rotate_left
   ·simp only [Act.put, zs1, zs2, zs3, i64_w, i32_w]
    rfl
   refine done_ (by kernel_rfl) ?_
   skip
   go_wp2_with (first | ((with_reducible refine zqg (N := 54) rfl ?_); refine H.out.ld_row 5 rfl rfl rfl rfl Try.underlying57 rfl hs57 ?_; (try simp only [Act.put, zs1, zs2, zs3])) | (go_at_call 45; have _tk := tk6; refine (markR_call HMa.out H.out.bel (H.out.same_ge 6 rfl) (H.out.owR 6 rfl O33.out) 1 ⟨by decide, by decide⟩).mono ?_; rintro e w56 ⟨j56, rfl, hj, hb, hk⟩; have k56 := Az.mk hj; have c56 : decide ((j56 : Int) < 0) = false := decide_eq_false (by omega); clear hj; have H1 := Az.mk (H.out.wrote 6 rfl hb hk); clear hb hk; clear H; have H := H1; clear H1; clear tk6 _tk; have tk7 : True := trivial) | ((with_reducible refine zqg (N := 57) rfl ?_); refine H.out.ld_row 3 rfl rfl rfl rfl Try.underlying57 rfl hs57 ?_; (try simp only [Act.put, zs1, zs2, zs3])) | (go_at_call 45; have _tk := tk7; refine (markR_call HMb.out H.out.bel (H.out.same_ge 4 rfl) (H.out.owR 4 rfl O35.out) j56 ⟨k56.out.1, by have := k56.out.2; omega⟩).mono ?_; rintro e w59 ⟨j59, rfl, hj, hb, hk⟩; have k59 := Az.mk hj; have c59 : decide ((j59 : Int) < 0) = false := decide_eq_false (by omega); clear hj; have H1 := Az.mk (H.out.wrote 4 rfl hb hk); clear hb hk; clear H; have H := H1; clear H1; clear tk7 _tk; have tk8 : True := trivial) | (go_at_call 31; have _tk := tk8; refine (eqPl_call HLN.out (H.out.rdP 2 rfl O39.out) (H.out.rdP 7 rfl O31.out)).mono ?_; rintro e w65 ⟨rfl, hb⟩; have H1 := Az.mk (H.out.step hb); clear hb; clear H; have H := H1; clear H1; clear tk8 _tk; have tk9 : True := trivial) | (go_at_call 32; have _tk := tk9; refine (markPlS_call HLN.out H.out.bel (H.out.owP 2 rfl O39.out) (H.out.same_le 2 rfl)).mono ?_; rintro e w70 ⟨rfl, ho, hb0, hb, hk⟩; have O70 := Az.mk ho; clear ho hb0; have H1 := Az.mk (H.out.wrote 2 rfl hb hk); clear hb hk; clear H; have H := H1; clear H1; clear tk9 _tk; have tk10 : True := trivial) | (go_at_call 46; have _tk := tk10; refine (heldPl_call HLN.out (H.out.rdP 2 rfl O70.out)).mono ?_; rintro e w73 ⟨rfl, hb⟩; have H1 := Az.mk (H.out.step hb); clear hb; clear H; have H := H1; clear H1; clear tk10 _tk; have tk11 : True := trivial))
   refine start_ (n := 7) (S := fun w' => Hd w.heap.size w w' [.same (wd16.heap.size) (w51.heap.size) w51, .same (wd14.heap.size) (w46.heap.size) w46, .same (ws10_3.heap.size) (w39.heap.size) w70, .box g10 ((cR M35 (txb, lb.map voC))) 57, .same (ws9_3.heap.size) (w35.heap.size) w59, .box g9 ((cR M33 (txa, la.map voC))) 57, .same (w31.heap.size) (w33.heap.size) w56, .same (w30.heap.size) (w31.heap.size) w31, .same (w28.heap.size) (w30.heap.size) w30, .same (wd8.heap.size) (w28.heap.size) w28, .box g5 ((cA mb (txb, lb))) 52, .box g4 ((cA ma (txa, la))) 52]) (ds := []) (bm 7 0) (by kernel_rfl) rfl rfl (H.out.drew) (fun hHeld => ?_)
   clear H
   generalize World.drew w73 = wd31 at hHeld ⊢
   have H := Az.mk hHeld
   refine zqp (i := 0) (N := some 79) (v := ?_) (a' := ?_) (bm 7 1) rfl rfl (by kernel_rfl) (fun _ _ _ h => h) (Or.inl ⟨by rfl, ?_⟩) ?_ ?_
   rotate_left
   ·intro w'
    go_simp
    with_reducible rfl
   rotate_left
   ·simp only [Act.put, zs1, zs2, zs3, i64_w, i32_w]
    rfl
   refine zqt (i := 1) (N := some 80) (v := .agg ((cA ma (txa, la)))) (a' := ?_) (bm 7 3) rfl rfl (by kernel_rfl) (fun _ _ _ h => h) (Or.inl ⟨by rfl, fun w' s0 => s0.run_row 11 rfl rfl rfl Try.underlying52 rfl hs52⟩) hHeld ?_ ?_
   rotate_left
   ·simp only [Act.put, zs1, zs2, zs3, i64_w, i32_w]
    rfl
   refine zqt (i := 3) (N := some 82) (v := .agg ((cA mb (txb, lb)))) (a' := ?_) (bm 7 11) rfl rfl (by kernel_rfl) (fun _ _ _ h => h) (Or.inl ⟨by rfl, fun w' s0 => s0.run_row 10 rfl rfl rfl Try.underlying52 rfl hs52⟩) hHeld ?_ ?_
   rotate_left
   ·simp only [Act.put, zs1, zs2, zs3, i64_w, i32_w]
    rfl
   refine one_ (i := 2) (N := some 81) (bm 7 15) rfl rfl (by kernel_rfl) (by decide) (fun K hK => ?_)
   refine goes_ Try.func37 (by kernel_rfl) rfl #[.agg ((cA ma (txa, la)))] (by rfl) rfl rfl (by (try simp only [List.map_toArray, List.map_cons, List.map_nil]); first | done | rfl) ?_
   refine (toRoot_call HFa.out (H.out.C HRa.out) HCa.out H.out.ge).mono ?_
   rintro e w81 ⟨M81, rfl, ho, hb⟩
   refine ⟨_, rfl, ?_⟩
   have O81 := Az.mk ho
   clear ho
   have H1 := Az.mk (H.out.made hb); clear hb; clear H; have H := H1; clear H1
   refine hK.out _ _ (H.out.less) (fun hHeld => ?_)
   clear hK K
   refine norm_ (a' := ?_) ?_ ?_
   rotate_left
   ·show Act.put _ (some 81) _ = _
    simp only [Act.put, zs1, zs2, zs3, i64_w, i32_w]
    rfl
   refine one_ (i := 4) (N := some 83) (bm 7 31) rfl rfl (by kernel_rfl) (by decide) (fun K hK => ?_)
   refine goes_ Try.func37 (by kernel_rfl) rfl #[.agg ((cA mb (txb, lb)))] (by rfl) rfl rfl (by (try simp only [List.map_toArray, List.map_cons, List.map_nil]); first | done | rfl) ?_
   refine (toRoot_call HFb.out (H.out.C HRb.out) HCb.out H.out.ge).mono ?_
   rintro e w83 ⟨M83, rfl, ho, hb⟩
   refine ⟨_, rfl, ?_⟩
   have O83 := Az.mk ho
   clear ho
   have H1 := Az.mk (H.out.made hb); clear hb; clear H; have H := H1; clear H1
   refine hK.out _ _ (H.out.less.less) (fun hHeld => ?_)
   clear hK K
   refine norm_ (a' := ?_) ?_ ?_
   rotate_left
   ·show Act.put _ (some 83) _ = _
    simp only [Act.put, zs1, zs2, zs3, i64_w, i32_w]
    rfl
   refine one_ (i := 5) (N := some 84) (bm 7 63) rfl rfl (by kernel_rfl) (by decide) (fun K hK => ?_)
   refine goes_ Try.func48 (by kernel_rfl) rfl #[.int .i64 n, .agg (cR M81 (txa, la.map voC)), .agg (cR M83 (txb, lb.map voC))] (by rfl) rfl rfl (by (try simp only [List.map_toArray, List.map_cons, List.map_nil]); first | done | rfl) ?_
   refine (implSp_call n txa txb HMa.out HMb.out (H.out.rdR 1 rfl O81.out) (H.out.rdR 0 rfl O83.out) H.out.ge).mono ?_
   rintro e w84 ⟨M84, rfl, ho, hb⟩
   refine ⟨_, rfl, ?_⟩
   have O84 := Az.mk ho
   clear ho
   have H1 := Az.mk (H.out.made hb); clear hb; clear H; have H := H1; clear H1
   refine hK.out _ _ (H.out.less.less.less) (fun hHeld => ?_)
   clear hK K
   refine norm_ (a' := ?_) ?_ ?_
   rotate_left
   ·show Act.put _ (some 84) _ = _
    simp only [Act.put, zs1, zs2, zs3, i64_w, i32_w]
    rfl
   refine zqp (i := 6) (N := some 15) (v := ?_) (a' := ?_) (bm 7 127) rfl rfl (by kernel_rfl) (fun _ _ _ h => h) (Or.inl ⟨by rfl, ?_⟩) ?_ ?_
   rotate_left
   ·intro w'
    go_simp
    with_reducible rfl
   rotate_left
   ·simp only [Act.put, zs1, zs2, zs3, i64_w, i32_w]
    rfl
   refine done_ (by kernel_rfl) ?_
   skip
   go_wp2_with (first | (go_at_call 31; have _tk := tk11; refine (eqPl_call HLN.out (H.out.rdP 0 rfl O84.out) (H.out.rdP 10 rfl O31.out)).mono ?_; rintro e w87 ⟨rfl, hb⟩; have H1 := Az.mk (H.out.step hb); clear hb; clear H; have H := H1; clear H1; clear tk11 _tk; have tk12 : True := trivial) | (go_at_call 46; have _tk := tk12; refine (heldPl_call HLN.out (H.out.rdP 5 rfl O70.out)).mono ?_; rintro e w91 ⟨rfl, hb⟩; have H1 := Az.mk (H.out.step hb); clear hb; clear H; have H := H1; clear H1; clear tk12 _tk; have tk13 : True := trivial))
   go_ret
   exact ⟨rfl, H.out.bel⟩
end Go.Proofs.Ytkoimmeghdbodaa.Hd
namespace Go.Proofs.Ytkoimmeghdbodaa.fnExactSpaceFree
open Go.ChangeShapes Go.WideShapes Go.ChangeAt Go.RowKit Go.Proofs.Ytkoimmeghdbodaa.Print Go.Proofs.Ytkoimmeghdbodaa.Take Go.Proofs.YtkoimmeghdbodaaW.PrintWords
open Go.ChangeMaps (open_string shut_string)
set_option linter.unusedVariables false
theorem own : ownKnob Try.prog.godebug = none := by kernel_rfl
theorem laidOut : laidOutB Try.prog = true := by kernel_rfl
set_option maxRecDepth 100000 in
theorem lifted (os : Os) (started : os.Started) (H : Type) (enc : TypeId × Value → H) :
    ReturnsInHanded {} Try.checked os 16 .any (Rows.fnExactSpaceFreeSpec.pre6 enc Try.prog Try.f16 Rows.fnExactSpaceFreeRow.domain false) (Rows.fnExactSpaceFreeSpec.post enc Try.prog Try.f16 false true false false) := by
  refine returnsInHanded_of_change_sized (C := Try.checked) own started (by kernel_rfl) Try.func16
    (ChangeSpec.witness6 (enc := enc) (C := Try.checked) false ⟨#[], #[.int .i64 0, .agg #[.int .i64 0, .slice none 0 0], .agg #[.int .i64 0, .slice none 0 0]], []⟩ 8 (by kernel_rfl) (by kernel_rfl) (by kernel_rfl) (by kernel_rfl)) ?_
  intro W base args ds gs before hval0 hW hcnd hsz0 _
  have hsz : (DataW.weightsEach Try.prog (Try.f16.params.toList ++ Rows.fnExactSpaceFreeSpec.plain.varTypes Try.prog) (ds ++ gs)).all (· ≤ reachBytes) = true := hsz0
  have hval : ∀ (j : Nat) t v, Try.f16.params[j]? = some t → args[j]? = some v → Value.okWide Try.prog W .any base t v := hval0
  have hW' := hW
  obtain ⟨p, q, hA0, hV, rfl, hfz, hnd⟩ := hW
  have hA : DataW.TrodAll enc Try.prog W 0 (fun _ => true) true Try.f16.params.toList args.toList ds p := hA0
  rw [Try.params16] at hA hval hsz
  obtain ⟨v0, vs0, d0, ds0, p0, q0, hargs, rfl, rfl, h0, r0⟩ := trodAll_cons hA
  obtain ⟨v1, vs1, d1, ds1, p1, q1, rfl, rfl, rfl, h1, r1⟩ := trodAll_cons r0
  obtain ⟨v2, vs2, d2, ds2, p2, q2, rfl, rfl, rfl, h2, r2⟩ := trodAll_cons r1
  obtain ⟨rfl, rfl, rfl⟩ := trodAll_nil r2
  obtain rfl : args = #[v0, v1, v2] := by cases args; simp_all
  obtain ⟨rfl, rfl⟩ := trodVars_none hV
  obtain ⟨a0, rfl, rfl, rfl, w0⟩ := open_int Try.underlying3 (hval 0 3 v0 rfl rfl) h0
  obtain ⟨b1, rfl, _⟩ := okWide_struct Try.underlying52 (hval 1 52 v1 rfl rfl)
  have k1 := h1
  have lt1 : ∀ x ∈ p1, x.block < W.heap.size := by obtain ⟨m, hm⟩ := k1; exact DataW.trod_lt m _ _ _ hm
  obtain ⟨n1, hf1⟩ := h1
  obtain ⟨y1, hk1, w1⟩ := o52.opens _ _ _ _ _ _ _ _ _ hf1
  obtain ⟨A1_1, c1_1, hcs1, hc1_1, hr1_1⟩ := k52_open hk1
  obtain rfl : b1 = #[.int .i64 y1.f0, .slice A1_1 y1.f1.length c1_1] := by cases b1; simpa [Value.cells] using hcs1
  obtain ⟨b2, rfl, _⟩ := okWide_struct Try.underlying52 (hval 2 52 v2 rfl rfl)
  have k2 := h2
  have lt2 : ∀ x ∈ p2, x.block < W.heap.size := by obtain ⟨m, hm⟩ := k2; exact DataW.trod_lt m _ _ _ hm
  obtain ⟨n2, hf2⟩ := h2
  obtain ⟨y2, hk2, w2⟩ := o52.opens _ _ _ _ _ _ _ _ _ hf2
  obtain ⟨A2_1, c2_1, hcs2, hc2_1, hr2_1⟩ := k52_open hk2
  obtain rfl : b2 = #[.int .i64 y2.f0, .slice A2_1 y2.f1.length c2_1] := by cases b2; simpa [Value.cells] using hcs2
  clear hA0 hval0 hsz0 hsz
  skip
  refine (Hd.law_FnExactSpaceFree a0 y1.f0 y2.f0 (A1_1, c1_1) (A2_1, c2_1) y1.f1 y2.f1 W hr1_1 hc1_1 w1 hr2_1 hc2_1 w2).mono fun e W' ⟨he, bel0⟩ => ?_
  have bel := bel0
  subst he
  exact ⟨_, rfl, _, _, _, [], _, [], hW', trodAll_mk1 (shut_bool Try.underlying4 _), (trodAll_cons_mk (shut_int Try.underlying3 w0) (trodAll_cons_mk (Below.trod laidOut (by kernel_rfl) (of_decide_eq_true (by kernel_rfl)) k1 bel lt1) (trodAll_cons_mk (Below.trod laidOut (by kernel_rfl) (of_decide_eq_true (by kernel_rfl)) k2 bel lt2) trodAll_mk0))), rfl, bel.frame _, fun h => by cases h⟩
theorem over : Rows.fnExactSpaceFreeRow.holds Try.pinned (OpenSpec.ofChange Rows.fnExactSpaceFreeSpec) :=
  OpenClaim.holds_of_wide 16 Try.f16 rfl rfl rfl rfl rfl rfl rfl ⟨rfl, rfl, rfl, rfl, rfl⟩ rfl rfl rfl rfl rfl (by kernel_rfl) Try.func16 (by kernel_rfl)
    (of_decide_eq_true (by kernel_rfl)) (by unfold Func.isWrapper; first | (rw [if_pos (by decide +kernel)]; kernel_rfl) | (rw [if_neg (by decide +kernel)]; exact ⟨rfl, rfl⟩))
    (fun os started H enc _ => lifted os started H enc)
theorem proved : Rows.FnExactSpaceFreeSaid := over
#print axioms proved
end Go.Proofs.Ytkoimmeghdbodaa.fnExactSpaceFree
namespace Go.Proofs.Ytkoimmeghdbodaa
theorem fnExactSpaceFree_holds : Rows.FnExactSpaceFreeSaid := fnExactSpaceFree.proved
end Go.Proofs.Ytkoimmeghdbodaa
