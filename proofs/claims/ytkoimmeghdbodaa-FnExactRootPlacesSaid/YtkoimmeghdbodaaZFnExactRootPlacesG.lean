/- Proved, with what follows on it: the row of the law FnExactRootPlaces. Conditions: the row's alone. Texts of this session and words that the kit's print laid for this seat, merged and cut by shrink.py, a program of this session. -/
import Derived.Below
import Derived.ChangeOld
import Derived.OpenShut
import Derived.ProofKit
import Derived.ShutString
import Derived.SizedLaws
import Derived.WalkKit
import Derived.Test.YtkoimmeghdbodaaRows
import Derived.Test.YtkoimmeghdbodaaZFnExactRootPlacesF
namespace Go.Proofs.Ytkoimmeghdbodaa.Hd
open Go.RowKit Go.Proofs.Ytkoimmeghdbodaa.Print Go.Proofs.YtkoimmeghdbodaaW.PrintWords Go.Proofs.YtkoimmeghdbodaaW.PrintLast Go.Proofs.YtkoimmeghdbodaaW.PrintMore Go.Proofs.Ytkoimmeghdbodaa.Pure
set_option linter.unusedVariables false
set_option linter.unusedSimpArgs false
set_option maxHeartbeats 16000000 in
set_option maxRecDepth 100000 in
theorem law_FnExactRootPlaces (n txa : Int) (ma : AC) (la : List S120) (w : World) (hr : Kd.C k120 w ma.1 la.length la) (hc : la.length ≤ ma.2) (hw : Take.W52 ⟨txa, la⟩) : Calls Try.prog 10 #[.int .i64 n, .agg (cA ma (txa, la))] w fun e w' => e = .returned (.bool true) ∧ Below w.heap.size w w' := by
 have hs57 := size57
 have hs52 := size52
 have HRa := Az.mk hr
 have HCa := Az.mk hc
 obtain ⟨ta, hta, _, hfit⟩ := szRoot_ev txa la hw.2.1 (fun x hx => have h := hw.2.2 x hx; ⟨h.1, h.2.1, fun y hy => (h.2.2 y hy).2.2.1⟩) 1048576 (by omega) (by omega)
 obtain ⟨ka, hka⟩ := Ev.rounds hta
 have HSZa := Az.mk (fun (W : World) (h : Kd.C k120 W ma.1 la.length la) => laws_szRoot.calls ka txa ma.1 ma.2 la 1048576 ta W h hc hka)
 clear hr hw hta hka hc
 by_cases c_ta : ta < 0
 ·have l_ta : decide (ta < 0) = true := decide_eq_true c_ta
  clear c_ta
  have H := Az.mk (Hd.start w)
  have tk0 : True := trivial
  go_enter Try.func10, Try.ntmps10
  go_wp2_with (first | ((with_reducible refine zqg (N := 3) rfl ?_); refine H.out.bx rfl ((cA ma (txa, la))) 52 ?hr ?_; (case hr => first | (go_simp; done) | (go_simp; rfl)); intro g3 w3 H1; clear H; have H := H1; clear H1; (try simp only [Act.put, List.setIfInBounds_toArray, List.set_cons_zero, List.set_cons_succ])) | ((with_reducible refine zqg (N := 13) rfl ?_); refine H.out.ld_row 0 rfl rfl rfl rfl Try.underlying52 rfl hs52 ?_; (try simp only [Act.put, List.setIfInBounds_toArray, List.set_cons_zero, List.set_cons_succ])) | (go_at_call 35; have _tk := tk0; refine (HSZa.out _ (H.out.C HRa.out)).mono ?_; rintro e w15 ⟨rfl, hb⟩; have H1 := Az.mk (H.out.step hb); clear hb; clear H; have H := H1; clear H1; clear tk0 _tk; have tk1 : True := trivial))
  go_ret
  exact ⟨rfl, H.out.bel⟩
 ·have l_ta : decide (ta < 0) = false := decide_eq_false c_ta
  have HFa := Az.mk (hfit c_ta)
  have HMa := Az.mk HFa.out.map
  have HLN := Az.mk (rootPl_len n txa (la.map voC))
  clear hfit
  clear c_ta
  have H := Az.mk (Hd.start w)
  have tk0 : True := trivial
  go_enter Try.func10, Try.ntmps10
  go_wp2_with (first | ((with_reducible refine zqg (N := 3) rfl ?_); refine H.out.bx rfl ((cA ma (txa, la))) 52 ?hr ?_; (case hr => first | (go_simp; done) | (go_simp; rfl)); intro g3 w3 H1; clear H; have H := H1; clear H1; (try simp only [Act.put, List.setIfInBounds_toArray, List.set_cons_zero, List.set_cons_succ])) | ((with_reducible refine zqg (N := 13) rfl ?_); refine H.out.ld_row 0 rfl rfl rfl rfl Try.underlying52 rfl hs52 ?_; (try simp only [Act.put, List.setIfInBounds_toArray, List.set_cons_zero, List.set_cons_succ])) | (go_at_call 35; have _tk := tk0; refine (HSZa.out _ (H.out.C HRa.out)).mono ?_; rintro e w15 ⟨rfl, hb⟩; have H1 := Az.mk (H.out.step hb); clear hb; clear H; have H := H1; clear H1; clear tk0 _tk; have tk1 : True := trivial) | ((with_reducible refine zqg (N := 19) rfl ?_); refine H.out.ld_row 0 rfl rfl rfl rfl Try.underlying52 rfl hs52 ?_; (try simp only [Act.put, List.setIfInBounds_toArray, List.set_cons_zero, List.set_cons_succ])) | (go_at_call 37; have _tk := tk1; refine (toRoot_call HFa.out (H.out.C HRa.out) HCa.out H.out.ge).mono ?_; rintro e w20 ⟨M20, rfl, ho, hb⟩; have O20 := Az.mk ho; clear ho; have H1 := Az.mk (H.out.made hb); clear hb; clear H; have H := H1; clear H1; clear tk1 _tk; have tk2 : True := trivial) | (go_at_call 44; have _tk := tk2; refine (specPl_call n txa HMa.out (H.out.rdR 0 rfl O20.out) H.out.ge).mono ?_; rintro e w21 ⟨M21, rfl, ho, hb⟩; have O21 := Az.mk ho; clear ho; have H1 := Az.mk (H.out.made hb); clear hb; clear H; have H := H1; clear H1; clear tk2 _tk; have tk3 : True := trivial) | ((with_reducible refine zqg (N := 22) rfl ?_); refine H.out.ld_row 2 rfl rfl rfl rfl Try.underlying52 rfl hs52 ?_; (try simp only [Act.put, List.setIfInBounds_toArray, List.set_cons_zero, List.set_cons_succ])) | (go_at_call 37; have _tk := tk3; refine (toRoot_call HFa.out (H.out.C HRa.out) HCa.out H.out.ge).mono ?_; rintro e w23 ⟨M23, rfl, ho, hb⟩; have O23 := Az.mk ho; clear ho; have H1 := Az.mk (H.out.made hb); clear hb; clear H; have H := H1; clear H1; clear tk3 _tk; have tk4 : True := trivial) | ((with_reducible refine zqg (N := 7) rfl ?_); refine H.out.bx rfl (#[.int .i64 0, .slice none 0 0]) 57 ?hr ?_; (case hr => first | (go_simp; done) | (go_simp; rfl)); intro g7 w7 H1; clear H; have H := H1; clear H1; (try simp only [Act.put, List.setIfInBounds_toArray, List.set_cons_zero, List.set_cons_succ])) | ((with_reducible refine gate_store (t := 57) (p := 7) rfl ?_); refine H.out.st_row 0 rfl rfl (x := .tmp 7) (y := .tmp 23) rfl rfl rfl ((cR M23 (txa, la.map voC))) rfl hs57 rfl (cR_one _ _) ?_; intro ws6_3 H1; clear H; have H := H1; clear H1) | ((with_reducible refine zqg (N := 25) rfl ?_); refine H.out.ld_row 0 rfl rfl rfl rfl Try.underlying57 rfl hs57 ?_; (try simp only [Act.put, List.setIfInBounds_toArray, List.set_cons_zero, List.set_cons_succ])) | (go_at_call 41; have _tk := tk4; refine (implPl_call n txa HMa.out (H.out.rdR 1 rfl O23.out) H.out.ge).mono ?_; rintro e w26 ⟨M26, rfl, ho, hb⟩; have O26 := Az.mk ho; clear ho; have H1 := Az.mk (H.out.made hb); clear hb; clear H; have H := H1; clear H1; clear tk4 _tk; have tk5 : True := trivial) | (go_at_call 31; have _tk := tk5; refine (eqPl_call HLN.out (H.out.rdP 0 rfl O26.out) (H.out.rdP 3 rfl O21.out)).mono ?_; rintro e w29 ⟨rfl, hb⟩; have H1 := Az.mk (H.out.step hb); clear hb; clear H; have H := H1; clear H1; clear tk5 _tk; have tk6 : True := trivial))
  refine start_ (n := 5) (S := fun w' => Hd w.heap.size w w' [.same (ws6_3.heap.size) (w26.heap.size) w26, .box g7 ((cR M23 (txa, la.map voC))) 57, .same (w21.heap.size) (w23.heap.size) w23, .same (w20.heap.size) (w21.heap.size) w21, .same (w15.heap.size) (w20.heap.size) w20, .box g3 ((cA ma (txa, la))) 52]) (ds := []) #[false, false, false, false, false] (by kernel_rfl) rfl rfl (H.out.drew) (fun hHeld => ?_)
  clear H
  generalize World.drew w29 = wd10 at hHeld ⊢
  have H := Az.mk hHeld
  refine zqt (i := 0) (N := some 31) (v := .agg ((cR M23 (txa, la.map voC)))) (a' := ?_) #[true, false, false, false, false] rfl rfl (by kernel_rfl) (fun _ _ _ h => h) (Or.inl ⟨by rfl, fun w' s0 => s0.run_row 1 rfl rfl rfl Try.underlying57 rfl hs57⟩) hHeld ?_ ?_
  rotate_left
  ·simp only [Act.put, List.setIfInBounds_toArray, List.set_cons_zero, List.set_cons_succ, i64_w, i32_w]
   rfl
  refine zqt (i := 1) (N := some 32) (v := .agg ((cA ma (txa, la)))) (a' := ?_) #[true, true, false, false, false] rfl rfl (by kernel_rfl) (fun _ _ _ h => h) (Or.inl ⟨by rfl, fun w' s0 => s0.run_row 5 rfl rfl rfl Try.underlying52 rfl hs52⟩) hHeld ?_ ?_
  rotate_left
  ·simp only [Act.put, List.setIfInBounds_toArray, List.set_cons_zero, List.set_cons_succ, i64_w, i32_w]
   rfl
  refine one_ (i := 2) (N := some 33) #[true, true, true, false, false] rfl rfl (by kernel_rfl) (by decide) (fun K hK => ?_)
  refine goes_ Try.func37 (by kernel_rfl) rfl #[.agg ((cA ma (txa, la)))] (by rfl) rfl rfl (by (try simp only [List.map_toArray, List.map_cons, List.map_nil]); first | done | rfl) ?_
  refine (toRoot_call HFa.out (H.out.C HRa.out) HCa.out H.out.ge).mono ?_
  rintro e w33 ⟨M33, rfl, ho, hb⟩
  refine ⟨_, rfl, ?_⟩
  have O33 := Az.mk ho
  clear ho
  have H1 := Az.mk (H.out.made hb); clear hb; clear H; have H := H1; clear H1
  refine hK.out _ _ (H.out.less) (fun hHeld => ?_)
  clear hK K
  refine norm_ (a' := ?_) ?_ ?_
  rotate_left
  ·show Act.put _ (some 33) _ = _
   simp only [Act.put, List.setIfInBounds_toArray, List.set_cons_zero, List.set_cons_succ, i64_w, i32_w]
   rfl
  refine one_ (i := 3) (N := some 34) #[true, true, true, true, false] rfl rfl (by kernel_rfl) (by decide) (fun K hK => ?_)
  refine goes_ Try.func39 (by kernel_rfl) rfl #[.agg ((cR M23 (txa, la.map voC))), .agg (cR M33 (txa, la.map voC))] (by rfl) rfl rfl (by (try simp only [List.map_toArray, List.map_cons, List.map_nil]); first | done | rfl) ?_
  refine (eqRoot_call HMa.out (H.out.rdR 3 rfl O23.out) (H.out.rdR 0 rfl O33.out)).mono ?_
  rintro e w34 ⟨rfl, hb⟩
  refine ⟨_, rfl, ?_⟩
  have H1 := Az.mk (H.out.step hb); clear hb; clear H; have H := H1; clear H1
  refine hK.out _ _ (H.out.less) (fun hHeld => ?_)
  clear hK K
  refine norm_ (a' := ?_) ?_ ?_
  rotate_left
  ·show Act.put _ (some 34) _ = _
   simp only [Act.put, List.setIfInBounds_toArray, List.set_cons_zero, List.set_cons_succ, i64_w, i32_w]
   rfl
  refine zqp (i := 4) (N := some 35) (v := ?_) (a' := ?_) #[true, true, true, true, true] rfl rfl (by kernel_rfl) (fun _ _ _ h => h) (Or.inl ⟨by rfl, ?_⟩) ?_ ?_
  rotate_left
  ·intro w'
   go_simp
   with_reducible rfl
  rotate_left
  ·simp only [Act.put, List.setIfInBounds_toArray, List.set_cons_zero, List.set_cons_succ, i64_w, i32_w]
   rfl
  refine done_ (by kernel_rfl) ?_
  skip
  go_wp2_with (first | ((with_reducible refine zqg (N := 36) rfl ?_); refine H.out.ld_row 2 rfl rfl rfl rfl Try.underlying57 rfl hs57 ?_; (try simp only [Act.put, List.setIfInBounds_toArray, List.set_cons_zero, List.set_cons_succ])) | (go_at_call 45; have _tk := tk6; refine (markR_call HMa.out H.out.bel (H.out.same_ge 3 rfl) (H.out.owR 3 rfl O23.out) 1 ⟨by decide, by decide⟩).mono ?_; rintro e w38 ⟨j38, rfl, hj, hb, hk⟩; have k38 := Az.mk hj; have c38 : decide ((j38 : Int) < 0) = false := decide_eq_false (by omega); clear hj; have H1 := Az.mk (H.out.wrote 3 rfl hb hk); clear hb hk; clear H; have H := H1; clear H1; clear tk6 _tk; have tk7 : True := trivial) | (go_at_call 31; have _tk := tk7; refine (eqPl_call HLN.out (H.out.rdP 1 rfl O26.out) (H.out.rdP 4 rfl O21.out)).mono ?_; rintro e w44 ⟨rfl, hb⟩; have H1 := Az.mk (H.out.step hb); clear hb; clear H; have H := H1; clear H1; clear tk7 _tk; have tk8 : True := trivial) | (go_at_call 32; have _tk := tk8; refine (markPlS_call HLN.out H.out.bel (H.out.owP 1 rfl O26.out) (H.out.same_le 1 rfl)).mono ?_; rintro e w49 ⟨rfl, ho, hb0, hb, hk⟩; have O49 := Az.mk ho; clear ho hb0; have H1 := Az.mk (H.out.wrote 1 rfl hb hk); clear hb hk; clear H; have H := H1; clear H1; clear tk8 _tk; have tk9 : True := trivial) | (go_at_call 46; have _tk := tk9; refine (heldPl_call HLN.out (H.out.rdP 1 rfl O49.out)).mono ?_; rintro e w52 ⟨rfl, hb⟩; have H1 := Az.mk (H.out.step hb); clear hb; clear H; have H := H1; clear H1; clear tk9 _tk; have tk10 : True := trivial) | ((with_reducible refine zqg (N := 59) rfl ?_); refine H.out.ld_row 6 rfl rfl rfl rfl Try.underlying52 rfl hs52 ?_; (try simp only [Act.put, List.setIfInBounds_toArray, List.set_cons_zero, List.set_cons_succ])) | (go_at_call 37; have _tk := tk10; refine (toRoot_call HFa.out (H.out.C HRa.out) HCa.out H.out.ge).mono ?_; rintro e w60 ⟨M60, rfl, ho, hb⟩; have O60 := Az.mk ho; clear ho; have H1 := Az.mk (H.out.made hb); clear hb; clear H; have H := H1; clear H1; clear tk10 _tk; have tk11 : True := trivial) | (go_at_call 41; have _tk := tk11; refine (implPl_call n txa HMa.out (H.out.rdR 0 rfl O60.out) H.out.ge).mono ?_; rintro e w61 ⟨M61, rfl, ho, hb⟩; have O61 := Az.mk ho; clear ho; have H1 := Az.mk (H.out.made hb); clear hb; clear H; have H := H1; clear H1; clear tk11 _tk; have tk12 : True := trivial) | (go_at_call 31; have _tk := tk12; refine (eqPl_call HLN.out (H.out.rdP 0 rfl O61.out) (H.out.rdP 6 rfl O21.out)).mono ?_; rintro e w64 ⟨rfl, hb⟩; have H1 := Az.mk (H.out.step hb); clear hb; clear H; have H := H1; clear H1; clear tk12 _tk; have tk13 : True := trivial) | (go_at_call 46; have _tk := tk13; refine (heldPl_call HLN.out (H.out.rdP 3 rfl O49.out)).mono ?_; rintro e w68 ⟨rfl, hb⟩; have H1 := Az.mk (H.out.step hb); clear hb; clear H; have H := H1; clear H1; clear tk13 _tk; have tk14 : True := trivial))
  go_ret
  exact ⟨rfl, H.out.bel⟩
end Go.Proofs.Ytkoimmeghdbodaa.Hd
namespace Go.Proofs.Ytkoimmeghdbodaa.fnExactRootPlaces
open Go.ChangeShapes Go.WideShapes Go.ChangeAt Go.RowKit Go.Proofs.Ytkoimmeghdbodaa.Print Go.Proofs.Ytkoimmeghdbodaa.Take Go.Proofs.YtkoimmeghdbodaaW.PrintWords
open Go.ChangeMaps (open_string shut_string)
set_option linter.unusedVariables false
theorem own : ownKnob Try.prog.godebug = none := by kernel_rfl
theorem laidOut : laidOutB Try.prog = true := by kernel_rfl
set_option maxRecDepth 100000 in
theorem lifted (os : Os) (started : os.Started) (H : Type) (enc : TypeId × Value → H) :
    ReturnsInHanded {} Try.checked os 10 .any (Rows.fnExactRootPlacesSpec.pre6 enc Try.prog Try.f10 Rows.fnExactRootPlacesRow.domain false) (Rows.fnExactRootPlacesSpec.post enc Try.prog Try.f10 false true false false) := by
  refine returnsInHanded_of_change_sized (C := Try.checked) own started (by kernel_rfl) Try.func10
    (ChangeSpec.witness6 (enc := enc) (C := Try.checked) false ⟨#[], #[.int .i64 0, .agg #[.int .i64 0, .slice none 0 0]], []⟩ 8 (by kernel_rfl) (by kernel_rfl) (by kernel_rfl) (by kernel_rfl)) ?_
  intro W base args ds gs before hval0 hW hcnd hsz0 _
  have hsz : (DataW.weightsEach Try.prog (Try.f10.params.toList ++ Rows.fnExactRootPlacesSpec.plain.varTypes Try.prog) (ds ++ gs)).all (· ≤ reachBytes) = true := hsz0
  have hval : ∀ (j : Nat) t v, Try.f10.params[j]? = some t → args[j]? = some v → Value.okWide Try.prog W .any base t v := hval0
  have hW' := hW
  obtain ⟨p, q, hA0, hV, rfl, hfz, hnd⟩ := hW
  have hA : DataW.TrodAll enc Try.prog W 0 (fun _ => true) true Try.f10.params.toList args.toList ds p := hA0
  rw [Try.params10] at hA hval hsz
  obtain ⟨v0, vs0, d0, ds0, p0, q0, hargs, rfl, rfl, h0, r0⟩ := trodAll_cons hA
  obtain ⟨v1, vs1, d1, ds1, p1, q1, rfl, rfl, rfl, h1, r1⟩ := trodAll_cons r0
  obtain ⟨rfl, rfl, rfl⟩ := trodAll_nil r1
  obtain rfl : args = #[v0, v1] := by cases args; simp_all
  obtain ⟨rfl, rfl⟩ := trodVars_none hV
  obtain ⟨a0, rfl, rfl, rfl, w0⟩ := open_int Try.underlying3 (hval 0 3 v0 rfl rfl) h0
  obtain ⟨b1, rfl, _⟩ := okWide_struct Try.underlying52 (hval 1 52 v1 rfl rfl)
  have k1 := h1
  have lt1 : ∀ x ∈ p1, x.block < W.heap.size := by obtain ⟨m, hm⟩ := k1; exact DataW.trod_lt m _ _ _ hm
  obtain ⟨n1, hf1⟩ := h1
  obtain ⟨y1, hk1, w1⟩ := o52.opens _ _ _ _ _ _ _ _ _ hf1
  obtain ⟨A1_1, c1_1, hcs1, hc1_1, hr1_1⟩ := k52_open hk1
  obtain rfl : b1 = #[.int .i64 y1.f0, .slice A1_1 y1.f1.length c1_1] := by cases b1; simpa [Value.cells] using hcs1
  clear hA0 hval0 hsz0 hsz
  skip
  refine (Hd.law_FnExactRootPlaces a0 y1.f0 (A1_1, c1_1) y1.f1 W hr1_1 hc1_1 w1).mono fun e W' ⟨he, bel0⟩ => ?_
  have bel := bel0
  subst he
  exact ⟨_, rfl, _, _, _, [], _, [], hW', trodAll_mk1 (shut_bool Try.underlying4 _), (trodAll_cons_mk (shut_int Try.underlying3 w0) (trodAll_cons_mk (Below.trod laidOut (by kernel_rfl) (of_decide_eq_true (by kernel_rfl)) k1 bel lt1) trodAll_mk0)), rfl, bel.frame _, fun h => by cases h⟩
theorem over : Rows.fnExactRootPlacesRow.holds Try.pinned (OpenSpec.ofChange Rows.fnExactRootPlacesSpec) :=
  OpenClaim.holds_of_wide 10 Try.f10 rfl rfl rfl rfl rfl rfl rfl ⟨rfl, rfl, rfl, rfl, rfl⟩ rfl rfl rfl rfl rfl (by kernel_rfl) Try.func10 (by kernel_rfl)
    (of_decide_eq_true (by kernel_rfl)) (by unfold Func.isWrapper; first | (rw [if_pos (by decide +kernel)]; kernel_rfl) | (rw [if_neg (by decide +kernel)]; exact ⟨rfl, rfl⟩))
    (fun os started H enc _ => lifted os started H enc)
theorem proved : Rows.FnExactRootPlacesSaid := over
#print axioms proved
end Go.Proofs.Ytkoimmeghdbodaa.fnExactRootPlaces
namespace Go.Proofs.Ytkoimmeghdbodaa
theorem fnExactRootPlaces_holds : Rows.FnExactRootPlacesSaid := fnExactRootPlaces.proved
end Go.Proofs.Ytkoimmeghdbodaa
