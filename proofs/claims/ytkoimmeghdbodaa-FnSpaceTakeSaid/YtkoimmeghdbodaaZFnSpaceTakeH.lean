/- Proved, with what follows on it: the row of the law FnSpaceTake. Conditions: the row's alone. Texts of this session and words that the kit's print laid for this seat, merged and cut by shrink.py, a program of this session. -/
import Derived.Below
import Derived.ChangeOld
import Derived.OpenShut
import Derived.ProofKit
import Derived.ShutString
import Derived.SizedLaws
import Derived.WalkKit
import Derived.Test.YtkoimmeghdbodaaRows
import Derived.Test.YtkoimmeghdbodaaZFnSpaceTakeG
set_option linter.unusedVariables false
set_option linter.unusedSimpArgs false
namespace Go.Proofs.Ytkoimmeghdbodaa.Hq
open Go.RowKit Go.Proofs.Ytkoimmeghdbodaa.Print Go.Proofs.YtkoimmeghdbodaaW.PrintWords Go.Proofs.YtkoimmeghdbodaaW.PrintLast Go.Proofs.YtkoimmeghdbodaaW.PrintMore Go.Proofs.Ytkoimmeghdbodaa.Pure Go.Proofs.Ytkoimmeghdbodaa.Hd
theorem size37q : (Try.prog.info? 37).map (·.size) = some 2 := by kernel_rfl
theorem spaceI_len (n ta tb : Int) (Da Db : List S65) : (spaceI n ta tb Da Db).length ≤ 1048576 := by
 unfold spaceI
 by_cases h : (rootB n ta Da && rootB n tb Db) = true
 ·rw [if_pos h]
  have h1 := (rootPl_small (Bool.and_eq_true_iff.1 h).1).2
  have h2 := flatF_len (rootPl n ta Da ++ rootPl n tb Db) n.toNat
  omega
 ·rw [if_neg h]
  exact Nat.zero_le _
theorem lpaIn_q {w : World} {M : AC} {l : List S37} {p : S37} {r : Bool} (hr : decide (p ∈ l) = r) (hl : l.length ≤ 1048576) (h : RdP w M l) : Calls Try.prog 42 #[pV M l, .agg #[.int .i64 p.f0, .int .i64 p.f1]] w fun e w' => e = .returned (.bool r) ∧ Below w.heap.size w w' := hr ▸ lpaIn_call hl p h
set_option maxHeartbeats 8000000 in
set_option maxRecDepth 100000 in
theorem law_FnSpaceTake (w : World) {A : Option Addr} {c : Nat} {l : List Int} (hC : Kd.C (Kd.int .u8) w A l.length l) (hc : l.length ≤ c) (hw : ∀ x ∈ l, (Lit.int .u8 x).wf = true) : Calls Try.prog 15 #[.slice A l.length c] w fun e w' => e = .returned (.bool true) ∧ Below w.heap.size w w' := by
 have hs57 := size57
 have hs37 := size37q
 have HC := Az.mk hC
 have tk0 : True := trivial
 clear hC
 by_cases hlen : (l.length : Int) > 1048576
 ·have hl1 : decide (1048576 < (l.length : Int)) = true := decide_eq_true hlen
  clear hlen
  go_enter Try.func15, Try.ntmps15
  go_wp2
  go_ret
  exact ⟨rfl, Below.refl _ _⟩
 ·have hl1 : decide (1048576 < (l.length : Int)) = false := decide_eq_false hlen
  clear hlen
  go_enter Try.func15, Try.ntmps15
  go_upto_region 4 with (first | (go_at_call 52; have _tk := tk0; refine (drawTake_call _ HC.out hc hw).mono ?_; rintro e w23 ⟨n, ta, tb, Ma, Mb, Da, Db, cols, rfl, hn, hf, hg, hr, hs, hb⟩; have HN := Az.mk hn; have FVa := Az.mk hf; have FVb := Az.mk hg; have HFa := Az.mk hf.fit; have HFb := Az.mk hg.fit; have HRa := Az.mk hr; have HRb := Az.mk hs; have HB0 := Az.mk hb; have H := Az.mk (Hq.start w23); clear hn hf hg hr hs hb; clear tk0 _tk; have tk1 : True := trivial) | ((with_reducible refine zqg (N := 4) rfl ?_); refine H.out.bx rfl (#[.int .i64 0, .slice none 0 0]) 57 ?hr ?_; (case hr => first | (go_simp; done) | (go_simp; rfl)); intro g4 w4 H1; clear H; have H := H1; clear H1; (try simp only [Act.put, zs1, zs2, zs3])) | ((with_reducible refine zqg (N := 5) rfl ?_); refine H.out.bx rfl (#[.int .i64 0, .slice none 0 0]) 57 ?hr ?_; (case hr => first | (go_simp; done) | (go_simp; rfl)); intro g5 w5 H1; clear H; have H := H1; clear H1; (try simp only [Act.put, zs1, zs2, zs3])) | ((with_reducible refine gate_store (t := 57) (p := 4) rfl ?_); refine H.out.st_row 1 rfl rfl (x := .tmp 4) (y := .tmp 25) rfl rfl rfl (cR Ma (ta, Da)) rfl hs57 rfl (cR_one _ _) ?_; intro ws3_10 H1; clear H; have H := H1; clear H1) | ((with_reducible refine gate_store (t := 57) (p := 5) rfl ?_); refine H.out.st_row 0 rfl rfl (x := .tmp 5) (y := .tmp 26) rfl rfl rfl (cR Mb (tb, Db)) rfl hs57 rfl (cR_one _ _) ?_; intro ws3_11 H1; clear H; have H := H1; clear H1))
  (try simp only [Act.put, zs1, zs2, zs3])
  obtain ⟨rl, rb, hrl⟩ : ∃ rl rb, takeI n ta tb cols Da Db = (rl, rb) := ⟨_, _, rfl⟩
  have ETk := Az.mk hrl
  have HLR := Az.mk (show rl.length ≤ 1048576 from takeI_len n ta tb cols Da Db hrl)
  clear hrl
  obtain ⟨sp, hsp⟩ : ∃ sp, spaceI n ta tb Da Db = sp := ⟨_, rfl⟩
  have Esp := Az.mk hsp
  have HLN := Az.mk (show sp.length ≤ 1048576 from hsp ▸ spaceI_len n ta tb Da Db)
  clear hsp
  cases hra : rootB n ta Da with
  | true =>
   cases hrb : rootB n tb Db with
   | true =>
    have RBa := Az.mk hra
    have RBb := Az.mk hrb
    clear hra hrb
    by_cases h1 : cols < 1
    ·have h1d : decide (cols < 1) = true := decide_eq_true h1
     clear h1
     go_wp2_with (first | ((with_reducible refine zqg (N := 30) rfl ?_); refine H.out.ld_row 1 rfl rfl rfl rfl Try.underlying57 rfl hs57 ?_; (try simp only [Act.put, zs1, zs2, zs3])) | ((with_reducible refine zqg (N := 31) rfl ?_); refine H.out.ld_row 0 rfl rfl rfl rfl Try.underlying57 rfl hs57 ?_; (try simp only [Act.put, zs1, zs2, zs3])) | (go_at_call 50; have _tk := tk1; refine (specTk_call n ta tb cols ETk.out HFa.out HFb.out (rdBelow HRa.out H.out.bel) (rdBelow HRb.out H.out.bel) H.out.ge).mono ?_; rintro e w33 ⟨M33, rfl, ho, hb⟩; have O33 := Az.mk ho; have H1 := Az.mk (H.out.made hb); clear ho hb; clear H; have H := H1; clear H1; clear tk1 _tk; have tk2 : True := trivial) | ((with_reducible refine zqg (N := 38) rfl ?_); refine H.out.ld_row 2 rfl rfl rfl rfl Try.underlying57 rfl hs57 ?_; (try simp only [Act.put, zs1, zs2, zs3])) | ((with_reducible refine zqg (N := 39) rfl ?_); refine H.out.ld_row 1 rfl rfl rfl rfl Try.underlying57 rfl hs57 ?_; (try simp only [Act.put, zs1, zs2, zs3])) | (go_at_call 51; have _tk := tk2; refine (implTk_call n ta tb cols ETk.out HFa.out HFb.out (rdBelow HRa.out H.out.bel) (rdBelow HRb.out H.out.bel) H.out.ge).mono ?_; rintro e w41 ⟨M41, rfl, ho, hb⟩; have O41 := Az.mk ho; have H1 := Az.mk (H.out.made hb); clear ho hb; clear H; have H := H1; clear H1; clear tk2 _tk; have tk3 : True := trivial) | (go_at_call 28; have _tk := tk3; refine (lpaPl_call HLR.out rfl (H.out.rdP 0 rfl O41.out) (H.out.rdP 1 rfl O33.out)).mono ?_; rintro e w50 ⟨rfl, hb⟩; have H1 := Az.mk (H.out.step hb); clear hb; clear H; have H := H1; clear H1; clear tk3 _tk; have tk4 : True := trivial) | ((with_reducible refine zqg (N := 55) rfl ?_); refine gate_guard (by rfl) ?_; dsimp only; refine H.out.ld_row 3 rfl rfl rfl rfl Try.underlying57 rfl hs57 ?_; (try simp only [Act.put, zs1, zs2, zs3])) | (go_at_call 36; have _tk := tk4; refine (specRt_q ta RBa.out HFa.out (rdBelow HRa.out H.out.bel)).mono ?_; rintro e w56 ⟨rfl, hb⟩; have H1 := Az.mk (H.out.step hb); clear hb; clear H; have H := H1; clear H1; clear tk4 _tk; have tk5 : True := trivial) | ((with_reducible refine zqg (N := 61) rfl ?_); refine gate_guard (by rfl) ?_; dsimp only; refine H.out.ld_row 2 rfl rfl rfl rfl Try.underlying57 rfl hs57 ?_; (try simp only [Act.put, zs1, zs2, zs3])) | (go_at_call 36; have _tk := tk5; refine (specRt_q tb RBb.out HFb.out (rdBelow HRb.out H.out.bel)).mono ?_; rintro e w62 ⟨rfl, hb⟩; have H1 := Az.mk (H.out.step hb); clear hb; clear H; have H := H1; clear H1; clear tk5 _tk; have tk6 : True := trivial) | (go_at_call 28; have _tk := tk6; refine (lpaPl_call HLR.out rfl (H.out.rdP 0 rfl O41.out) (H.out.rdP 1 rfl O33.out)).mono ?_; rintro e w80 ⟨rfl, hb⟩; have H1 := Az.mk (H.out.step hb); clear hb; clear H; have H := H1; clear H1; clear tk6 _tk; have tk7 : True := trivial))
     (try simp only [Act.put, zs1, zs2, zs3])
     go_ret
     exact ⟨rfl, HB0.out.trans (H.out.bel.mono HB0.out.size)⟩
    ·have h1d : decide (cols < 1) = false := decide_eq_false h1
     by_cases h2 : n < cols
     ·have h2d : decide (n < cols) = true := decide_eq_true h2
      clear h1 h2
      go_wp2_with (first | ((with_reducible refine zqg (N := 30) rfl ?_); refine H.out.ld_row 1 rfl rfl rfl rfl Try.underlying57 rfl hs57 ?_; (try simp only [Act.put, zs1, zs2, zs3])) | ((with_reducible refine zqg (N := 31) rfl ?_); refine H.out.ld_row 0 rfl rfl rfl rfl Try.underlying57 rfl hs57 ?_; (try simp only [Act.put, zs1, zs2, zs3])) | (go_at_call 50; have _tk := tk1; refine (specTk_call n ta tb cols ETk.out HFa.out HFb.out (rdBelow HRa.out H.out.bel) (rdBelow HRb.out H.out.bel) H.out.ge).mono ?_; rintro e w33 ⟨M33, rfl, ho, hb⟩; have O33 := Az.mk ho; have H1 := Az.mk (H.out.made hb); clear ho hb; clear H; have H := H1; clear H1; clear tk1 _tk; have tk2 : True := trivial) | ((with_reducible refine zqg (N := 38) rfl ?_); refine H.out.ld_row 2 rfl rfl rfl rfl Try.underlying57 rfl hs57 ?_; (try simp only [Act.put, zs1, zs2, zs3])) | ((with_reducible refine zqg (N := 39) rfl ?_); refine H.out.ld_row 1 rfl rfl rfl rfl Try.underlying57 rfl hs57 ?_; (try simp only [Act.put, zs1, zs2, zs3])) | (go_at_call 51; have _tk := tk2; refine (implTk_call n ta tb cols ETk.out HFa.out HFb.out (rdBelow HRa.out H.out.bel) (rdBelow HRb.out H.out.bel) H.out.ge).mono ?_; rintro e w41 ⟨M41, rfl, ho, hb⟩; have O41 := Az.mk ho; have H1 := Az.mk (H.out.made hb); clear ho hb; clear H; have H := H1; clear H1; clear tk2 _tk; have tk3 : True := trivial) | (go_at_call 28; have _tk := tk3; refine (lpaPl_call HLR.out rfl (H.out.rdP 0 rfl O41.out) (H.out.rdP 1 rfl O33.out)).mono ?_; rintro e w50 ⟨rfl, hb⟩; have H1 := Az.mk (H.out.step hb); clear hb; clear H; have H := H1; clear H1; clear tk3 _tk; have tk4 : True := trivial) | ((with_reducible refine zqg (N := 55) rfl ?_); refine gate_guard (by rfl) ?_; dsimp only; refine H.out.ld_row 3 rfl rfl rfl rfl Try.underlying57 rfl hs57 ?_; (try simp only [Act.put, zs1, zs2, zs3])) | (go_at_call 36; have _tk := tk4; refine (specRt_q ta RBa.out HFa.out (rdBelow HRa.out H.out.bel)).mono ?_; rintro e w56 ⟨rfl, hb⟩; have H1 := Az.mk (H.out.step hb); clear hb; clear H; have H := H1; clear H1; clear tk4 _tk; have tk5 : True := trivial) | ((with_reducible refine zqg (N := 61) rfl ?_); refine gate_guard (by rfl) ?_; dsimp only; refine H.out.ld_row 2 rfl rfl rfl rfl Try.underlying57 rfl hs57 ?_; (try simp only [Act.put, zs1, zs2, zs3])) | (go_at_call 36; have _tk := tk5; refine (specRt_q tb RBb.out HFb.out (rdBelow HRb.out H.out.bel)).mono ?_; rintro e w62 ⟨rfl, hb⟩; have H1 := Az.mk (H.out.step hb); clear hb; clear H; have H := H1; clear H1; clear tk5 _tk; have tk6 : True := trivial) | (go_at_call 28; have _tk := tk6; refine (lpaPl_call HLR.out rfl (H.out.rdP 0 rfl O41.out) (H.out.rdP 1 rfl O33.out)).mono ?_; rintro e w80 ⟨rfl, hb⟩; have H1 := Az.mk (H.out.step hb); clear hb; clear H; have H := H1; clear H1; clear tk6 _tk; have tk7 : True := trivial))
      (try simp only [Act.put, zs1, zs2, zs3])
      go_ret
      exact ⟨rfl, HB0.out.trans (H.out.bel.mono HB0.out.size)⟩
     ·have h2d : decide (n < cols) = false := decide_eq_false h2
      have HC1 := Az.mk (show 1 ≤ cols by omega)
      have HC2 := Az.mk (show cols ≤ n by omega)
      clear h1 h2
      have TF := Az.mk (take_facts RBa.out RBb.out ⟨HC1.out, HC2.out⟩ Esp.out ETk.out)
      go_upto_region 9 with (first | ((with_reducible refine zqg (N := 30) rfl ?_); refine H.out.ld_row 1 rfl rfl rfl rfl Try.underlying57 rfl hs57 ?_; (try simp only [Act.put, zs1, zs2, zs3])) | ((with_reducible refine zqg (N := 31) rfl ?_); refine H.out.ld_row 0 rfl rfl rfl rfl Try.underlying57 rfl hs57 ?_; (try simp only [Act.put, zs1, zs2, zs3])) | (go_at_call 50; have _tk := tk1; refine (specTk_call n ta tb cols ETk.out HFa.out HFb.out (rdBelow HRa.out H.out.bel) (rdBelow HRb.out H.out.bel) H.out.ge).mono ?_; rintro e w33 ⟨M33, rfl, ho, hb⟩; have O33 := Az.mk ho; have H1 := Az.mk (H.out.made hb); clear ho hb; clear H; have H := H1; clear H1; clear tk1 _tk; have tk2 : True := trivial) | ((with_reducible refine zqg (N := 38) rfl ?_); refine H.out.ld_row 2 rfl rfl rfl rfl Try.underlying57 rfl hs57 ?_; (try simp only [Act.put, zs1, zs2, zs3])) | ((with_reducible refine zqg (N := 39) rfl ?_); refine H.out.ld_row 1 rfl rfl rfl rfl Try.underlying57 rfl hs57 ?_; (try simp only [Act.put, zs1, zs2, zs3])) | (go_at_call 51; have _tk := tk2; refine (implTk_call n ta tb cols ETk.out HFa.out HFb.out (rdBelow HRa.out H.out.bel) (rdBelow HRb.out H.out.bel) H.out.ge).mono ?_; rintro e w41 ⟨M41, rfl, ho, hb⟩; have O41 := Az.mk ho; have H1 := Az.mk (H.out.made hb); clear ho hb; clear H; have H := H1; clear H1; clear tk2 _tk; have tk3 : True := trivial) | (go_at_call 28; have _tk := tk3; refine (lpaPl_call HLR.out rfl (H.out.rdP 0 rfl O41.out) (H.out.rdP 1 rfl O33.out)).mono ?_; rintro e w50 ⟨rfl, hb⟩; have H1 := Az.mk (H.out.step hb); clear hb; clear H; have H := H1; clear H1; clear tk3 _tk; have tk4 : True := trivial) | ((with_reducible refine zqg (N := 55) rfl ?_); refine gate_guard (by rfl) ?_; dsimp only; refine H.out.ld_row 3 rfl rfl rfl rfl Try.underlying57 rfl hs57 ?_; (try simp only [Act.put, zs1, zs2, zs3])) | (go_at_call 36; have _tk := tk4; refine (specRt_q ta RBa.out HFa.out (rdBelow HRa.out H.out.bel)).mono ?_; rintro e w56 ⟨rfl, hb⟩; have H1 := Az.mk (H.out.step hb); clear hb; clear H; have H := H1; clear H1; clear tk4 _tk; have tk5 : True := trivial) | ((with_reducible refine zqg (N := 61) rfl ?_); refine gate_guard (by rfl) ?_; dsimp only; refine H.out.ld_row 2 rfl rfl rfl rfl Try.underlying57 rfl hs57 ?_; (try simp only [Act.put, zs1, zs2, zs3])) | (go_at_call 36; have _tk := tk5; refine (specRt_q tb RBb.out HFb.out (rdBelow HRb.out H.out.bel)).mono ?_; rintro e w62 ⟨rfl, hb⟩; have H1 := Az.mk (H.out.step hb); clear hb; clear H; have H := H1; clear H1; clear tk5 _tk; have tk6 : True := trivial) | ((with_reducible refine zqg (N := 83) rfl ?_); refine H.out.ld_row 3 rfl rfl rfl rfl Try.underlying57 rfl hs57 ?_; (try simp only [Act.put, zs1, zs2, zs3])) | ((with_reducible refine zqg (N := 84) rfl ?_); refine H.out.ld_row 2 rfl rfl rfl rfl Try.underlying57 rfl hs57 ?_; (try simp only [Act.put, zs1, zs2, zs3])) | (go_at_call 48; have _tk := tk6; refine (implSp_q Esp.out HFa.out HFb.out (rdBelow HRa.out H.out.bel) (rdBelow HRb.out H.out.bel) H.out.ge).mono ?_; rintro e w85 ⟨M85, rfl, ho, hb⟩; have O85 := Az.mk ho; have H1 := Az.mk (H.out.made hb); clear ho hb; clear H; have H := H1; clear H1; clear tk6 _tk; have tk7 : True := trivial))
      (try simp only [Act.put, zs1, zs2, zs3])
      obtain ⟨lo41, hi41, wl41, lo85, hi85, wl85, O41, O85, H⟩ : ∃ lo41 hi41 wl41 lo85 hi85 wl85, Az (OwP wl41 w23.heap.size lo41 hi41 M41 rl) ∧ Az (OwP wl85 w23.heap.size lo85 hi85 M85 sp) ∧ Az (Hq w23.heap.size w23 _ [.set (fun k => lo85 ≤ k ∧ k < hi85) wl85, .set (fun k => lo41 ≤ k ∧ k < hi41) wl41, .box g5 (cR Mb (tb, Db)) 57, .box g4 (cR Ma (ta, Da)) 57]) := ⟨_, _, _, _, _, _, O41, O85, ⟨H.out.sel [0, 1, 3, 4] _ (by decide) rfl⟩⟩
      obtain ⟨Ap, cp⟩ := M41
      obtain ⟨As, cs'⟩ := M85
      simp only [pV]
      go_wp2
      go_loopg [12, 13] n.toNat (fun kq v12 v13 w' => ∃ (d : Nat), v12 = .int .i64 (rooms sp d : Int) ∧ v13 = .int .i64 (d : Int) ∧ Az (d + kq = n.toNat) ∧ Az (Hq w23.heap.size w23 w' [.set (fun k => lo85 ≤ k ∧ k < hi85) wl85, .set (fun k => lo41 ≤ k ∧ k < hi41) wl41, .box g5 (cR Mb (tb, Db)) 57, .box g4 (cR Ma (ta, Da)) 57]))
      case atStart => exact ⟨0, rfl, rfl, ⟨Nat.zero_add _⟩, H⟩
      case round =>
       clear H tk7
       obtain ⟨d, rfl, rfl, HI, H⟩ := hrel
       have tk0 : True := trivial
       have HRM := Az.mk (rooms_le sp d)
       by_cases hi : (d : Int) < n
       ·have c88 : decide ((d : Int) < n) = true := decide_eq_true hi
        have HE := Az.mk hi
        have HWd : Az (wrap64 ((d : Int) + 1) = ((d + 1 : Nat) : Int)) := ⟨by rw [wrap_ok (by have := HE.out; have := HN.out; omega)]; omega⟩
        have HWr : Az (wrap64 ((rooms sp d : Int) + 1) = ((rooms sp d + 1 : Nat) : Int)) := ⟨by rw [wrap_ok (by have := HRM.out; have := HE.out; have := HN.out; omega)]; omega⟩
        clear hi
        obtain ⟨gk9, hg9⟩ : ∃ x, x = gk := ⟨_, rfl⟩
        subst hg9
        go_wp2
        go_loopg [14, 15] sp.length (fun kq v14 v15 w' => ∃ (i : Nat) (q : Bool), v14 = .bool q ∧ v15 = .int .i64 (i : Int) ∧ Az (q = (sp.take i).any (fun p => decide (p.f0 = (d : Int)))) ∧ Az (i + kq = sp.length) ∧ Az (Hq w23.heap.size w23 w' [.set (fun k => lo85 ≤ k ∧ k < hi85) wl85, .set (fun k => lo41 ≤ k ∧ k < hi41) wl41, .box g5 (cR Mb (tb, Db)) 57, .box g4 (cR Ma (ta, Da)) 57]))
        case atStart => exact ⟨0, _, rfl, rfl, ⟨rfl⟩, ⟨Nat.zero_add _⟩, H⟩
        case round =>
         clear H tk0
         obtain ⟨i, q, rfl, rfl, HQ, HK, H⟩ := hrel
         by_cases hi : i < sp.length
         ·skip
          have c94 : decide (i < sp.length) = true := decide_eq_true (by omega)
          have c94i : decide ((i : Int) < (sp.length : Int)) = true := decide_eq_true (by omega)
          have HE2 := Az.mk hi
          have HWi : Az (wrap64 ((i : Int) + 1) = ((i + 1 : Nat) : Int)) := ⟨by rw [wrap_ok (by have := HE2.out; have := HLN.out; omega)]; omega⟩
          have p1 := eq_true (show (0 : Int) ≤ (i : Int) by omega)
          have q1 := eq_true (show (i : Int) < (sp.length : Int) by omega)
          have q1n := eq_true hi
          have hany := any_snoc sp i hi (d : Int)
          obtain ⟨adp, ep, hp_0, hp_1⟩ := at_T37 (H.out.rdP 0 rfl O85.out).2 (i : Int) (by omega) (by omega)
          simp only at ep
          cases ep
          simp only [Int.toNat_natCast, rd_T37] at hp_0 hp_1
          obtain ⟨p, hp⟩ : ∃ x, x = sp.getD i z37 := ⟨_, rfl⟩
          rw [← hp] at hp_0 hp_1
          rw [← hp, ← HQ.out] at hany
          have HAN := Az.mk hany
          clear hany hp hi
          obtain ⟨gk10, hg10⟩ : ∃ x, x = gk := ⟨_, rfl⟩
          subst hg10
          cases q with
          | true =>
           go_wp2
           go_roundg (sp.length - (i + 1))
           case measure => have := HK.out; have := HE2.out; omega
           case rel => exact ⟨i + 1, true, rfl, by rw [← HWi.out], ⟨by rw [HAN.out]; rfl⟩, ⟨by have := HE2.out; omega⟩, H⟩
          | false =>
           by_cases hd : p.f0 = (d : Int)
           ·skip
            have d1 : decide (p.f0 = (d : Int)) = true := decide_eq_true hd
            have d2 : (p.f0 == (d : Int)) = true := beq_iff_eq.mpr hd
            clear hd
            go_wp2
            go_roundg (sp.length - (i + 1))
            case measure => have := HK.out; have := HE2.out; omega
            case rel => exact ⟨i + 1, true, rfl, by rw [← HWi.out], ⟨by rw [HAN.out, d1]; rfl⟩, ⟨by have := HE2.out; omega⟩, H⟩
           ·skip
            have d1 : decide (p.f0 = (d : Int)) = false := decide_eq_false hd
            have d2 : (p.f0 == (d : Int)) = false := beq_eq_false_iff_ne.mpr hd
            clear hd
            go_wp2
            go_roundg (sp.length - (i + 1))
            case measure => have := HK.out; have := HE2.out; omega
            case rel => exact ⟨i + 1, false, rfl, by rw [← HWi.out], ⟨by rw [HAN.out, d1]; rfl⟩, ⟨by have := HE2.out; omega⟩, H⟩
         ·skip
          have c94 : decide (i < sp.length) = false := decide_eq_false (by omega)
          have c94i : decide ((i : Int) < (sp.length : Int)) = false := decide_eq_false (by omega)
          have hi2 : i = sp.length := by have := HK.out; omega
          subst hi2
          have hq := HQ.out
          rw [List.take_length] at hq
          clear HQ hi
          cases q with
          | true =>
           have hrm : rooms sp (d + 1) = rooms sp d + 1 := by rw [rooms, ← hq]; rfl
           have HR2 := Az.mk hrm
           clear hrm hq
           go_wp2
           go_roundg (n.toNat - (d + 1))
           case measure => have := HI.out; have := HE.out; omega
           case rel => exact ⟨d + 1, by rw [HR2.out, ← HWr.out], by rw [← HWd.out], ⟨by have := HE.out; omega⟩, H⟩
          | false =>
           have hrm : rooms sp (d + 1) = rooms sp d := by rw [rooms, ← hq]; rfl
           have HR2 := Az.mk hrm
           clear hrm hq
           go_wp2
           go_roundg (n.toNat - (d + 1))
           case measure => have := HI.out; have := HE.out; omega
           case rel => exact ⟨d + 1, by rw [HR2.out], by rw [← HWd.out], ⟨by have := HE.out; omega⟩, H⟩
       ·have c88 : decide ((d : Int) < n) = false := decide_eq_false hi
        have hd : d = n.toNat := by have := HI.out; omega
        have hok := TF.out.ok
        rw [← hd] at hok
        clear hi hd
        cases rb with
        | false =>
         have hlt : (rooms sp d : Int) < cols := by have := of_decide_eq_false hok.symm; omega
         have l1 : decide ((rooms sp d : Int) < cols) = true := decide_eq_true hlt
         clear hlt hok
         go_wp2
         go_ret
         exact ⟨rfl, HB0.out.trans (H.out.bel.mono HB0.out.size)⟩
        | true =>
         have hge : cols ≤ (rooms sp d : Int) := of_decide_eq_true hok.symm
         have l1 : decide (cols ≤ (rooms sp d : Int)) = true := decide_eq_true hge
         have l2 : decide ((rooms sp d : Int) ≥ cols) = true := decide_eq_true hge
         have hln := TF.out.len rfl
         have l3 : ((rl.length : Int) == cols) = true := beq_iff_eq.mpr hln
         have l4 : decide ((rl.length : Int) = cols) = true := decide_eq_true hln
         clear hge hok hln
         go_wp2
         go_loopg [16] rl.length (fun kq v16 w' => ∃ (i : Nat), v16 = .int .i64 (i : Int) ∧ Az (i + kq = rl.length) ∧ Az (Hq w23.heap.size w23 w' [.set (fun k => lo85 ≤ k ∧ k < hi85) wl85, .set (fun k => lo41 ≤ k ∧ k < hi41) wl41, .box g5 (cR Mb (tb, Db)) 57, .box g4 (cR Ma (ta, Da)) 57]))
         case atStart => exact ⟨0, rfl, ⟨Nat.zero_add _⟩, H⟩
         case round =>
          clear H
          obtain ⟨i, rfl, HJ, H⟩ := hrel
          by_cases hi : i < rl.length
          ·skip
           have c118 : decide (i < rl.length) = true := decide_eq_true (by omega)
           have c118i : decide ((i : Int) < (rl.length : Int)) = true := decide_eq_true (by omega)
           have HE := Az.mk hi
           have HWi : Az (wrap64 ((i : Int) + 1) = ((i + 1 : Nat) : Int)) := ⟨by rw [wrap_ok (by have := HE.out; have := HLR.out; omega)]; omega⟩
           have p1 := eq_true (show (0 : Int) ≤ (i : Int) by omega)
           have q1 := eq_true (show (i : Int) < (rl.length : Int) by omega)
           have q1n := eq_true hi
           clear hi
           obtain ⟨gk9, hg9⟩ : ∃ x, x = gk := ⟨_, rfl⟩
           subst hg9
           go_wp2
           go_loopg [17] i (fun kq v17 w' => ∃ (j : Nat), v17 = .int .i64 (j : Int) ∧ Az (j + kq = i) ∧ Az (Hq w23.heap.size w23 w' [.set (fun k => lo85 ≤ k ∧ k < hi85) wl85, .set (fun k => lo41 ≤ k ∧ k < hi41) wl41, .box g5 (cR Mb (tb, Db)) 57, .box g4 (cR Ma (ta, Da)) 57]))
           case atStart => exact ⟨0, rfl, ⟨Nat.zero_add _⟩, H⟩
           case round =>
            clear H
            obtain ⟨j, rfl, HM, H⟩ := hrel
            have tk0 : True := trivial
            obtain ⟨adb, eb, hb_0, hb_1⟩ := at_T37 (H.out.rdP 1 rfl O41.out).2 (i : Int) (by omega) (by have := HE.out; omega)
            simp only at eb
            cases eb
            simp only [Int.toNat_natCast, rd_T37] at hb_0 hb_1
            obtain ⟨b, hb⟩ : ∃ x, x = rl.getD i z37 := ⟨_, rfl⟩
            rw [← hb] at hb_0 hb_1
            have HBM := Az.mk (show decide (b ∈ sp) = true from decide_eq_true (TF.out.mem rfl b (by rw [hb]; exact getD_mem HE.out)))
            have HMsp := HBM
            by_cases hj : j < i
            ·skip
             have c123 : decide (j < i) = true := decide_eq_true (by omega)
             have c123i : decide ((j : Int) < (i : Int)) = true := decide_eq_true (by omega)
             have HE3 := Az.mk hj
             have HWj : Az (wrap64 ((j : Int) + 1) = ((j + 1 : Nat) : Int)) := ⟨by rw [wrap_ok (by have := HE3.out; have := HE.out; have := HLR.out; omega)]; omega⟩
             have p5 := eq_true (show (0 : Int) ≤ (j : Int) by omega)
             have q5 := eq_true (show (j : Int) < (rl.length : Int) by have := HE.out; omega)
             have q5n := eq_true (show j < rl.length by have := HE.out; omega)
             have hne := far_at (TF.out.far rfl) hj HE.out
             obtain ⟨ada, ea, ha_0, ha_1⟩ := at_T37 (H.out.rdP 1 rfl O41.out).2 (j : Int) (by omega) (by have := HE.out; omega)
             simp only at ea
             cases ea
             simp only [Int.toNat_natCast, rd_T37] at ha_0 ha_1
             obtain ⟨a, ha⟩ : ∃ x, x = rl.getD j z37 := ⟨_, rfl⟩
             rw [← ha] at ha_0 ha_1
             rw [← ha, ← hb] at hne
             have d1 : (a.f0 == b.f0) = false := beq_eq_false_iff_ne.mpr hne
             have d2 : decide (a.f0 = b.f0) = false := decide_eq_false hne
             clear hne ha hb hj
             obtain ⟨gk8, hg8⟩ : ∃ x, x = gk := ⟨_, rfl⟩
             subst hg8
             go_wp2
             have hS : wr.drew.cell? (adb.add (j * 2)) = some (.int .i64 a.f0) ∧ wr.drew.cell? (adb.add (i * 2)) = some (.int .i64 b.f0) := ⟨ha_0, hb_0⟩
             clear ha_0 ha_1 hb_0 hb_1
             refine start_ (n := 11) (S := fun w' => w'.cell? (adb.add (j * 2)) = some (.int .i64 a.f0) ∧ w'.cell? (adb.add (i * 2)) = some (.int .i64 b.f0)) (ds := []) (bm 11 0) (by kernel_rfl) rfl rfl (hS) (fun hHeld => ?_)
             refine zP 0 (some 126) (bm 11 1) ?_
             refine zP 1 (some 127) (bm 11 3) ?_
             refine zP 2 (some 128) (bm 11 7) ?_
             refine zP 3 (some 129) (bm 11 15) ?_
             refine zP 5 (some 131) (bm 11 47) ?_
             refine zP 6 (some 132) (bm 11 111) ?_
             refine zP 7 (some 133) (bm 11 239) ?_
             refine zP 8 (some 134) (bm 11 495) ?_
             refine zU 4 (some 130) (bm 11 511) rfl hHeld (Or.inl ⟨by rfl, by rintro w' ⟨s0, s1⟩; go_simp; with_reducible rfl⟩) ?_
             refine zU 9 (some 135) (bm 11 1023) rfl hHeld (Or.inl ⟨by rfl, by rintro w' ⟨s0, s1⟩; go_simp; with_reducible rfl⟩) ?_
             refine zP 10 (some 136) (bm 11 2047) ?_
             refine done_ (by kernel_rfl) ?_
             go_wp2
             go_roundg (i - (j + 1))
             case measure => have := HM.out; have := HE3.out; omega
             case rel => exact ⟨j + 1, by rw [← HWj.out], ⟨by have := HE3.out; omega⟩, ⟨H.out.drew⟩⟩
            ·skip
             have c123 : decide (j < i) = false := decide_eq_false (by omega)
             have c123i : decide ((j : Int) < (i : Int)) = false := decide_eq_false (by omega)
             clear hj hb
             go_wp2_with (first | (go_at_call 42; have _tk := tk0; refine (lpaIn_q (p := b) HMsp.out HLN.out (H.out.rdP 0 rfl O85.out)).mono ?_; rintro e w142 ⟨rfl, hb⟩; have H1 := Az.mk (H.out.step hb); clear hb; clear H; have H := H1; clear H1; clear tk0 _tk; have tk1 : True := trivial))
             (try simp only [Act.put, zs1, zs2, zs3])
             go_roundg (rl.length - (i + 1))
             case measure => have := HJ.out; have := HE.out; omega
             case rel => exact ⟨i + 1, by rw [← HWi.out], ⟨by have := HE.out; omega⟩, ⟨H.out.sel [0, 1, 2, 3] _ (by decide) rfl⟩⟩
          ·skip
           have c118 : decide (i < rl.length) = false := decide_eq_false (by omega)
           have c118i : decide ((i : Int) < (rl.length : Int)) = false := decide_eq_false (by omega)
           clear hi
           go_wp2
           go_ret
           exact ⟨rfl, HB0.out.trans (H.out.bel.mono HB0.out.size)⟩
   | false =>
    have RBa := Az.mk hra
    have RBb := Az.mk hrb
    clear hra hrb
    go_wp2_with (first | ((with_reducible refine zqg (N := 30) rfl ?_); refine H.out.ld_row 1 rfl rfl rfl rfl Try.underlying57 rfl hs57 ?_; (try simp only [Act.put, zs1, zs2, zs3])) | ((with_reducible refine zqg (N := 31) rfl ?_); refine H.out.ld_row 0 rfl rfl rfl rfl Try.underlying57 rfl hs57 ?_; (try simp only [Act.put, zs1, zs2, zs3])) | (go_at_call 50; have _tk := tk1; refine (specTk_call n ta tb cols ETk.out HFa.out HFb.out (rdBelow HRa.out H.out.bel) (rdBelow HRb.out H.out.bel) H.out.ge).mono ?_; rintro e w33 ⟨M33, rfl, ho, hb⟩; have O33 := Az.mk ho; have H1 := Az.mk (H.out.made hb); clear ho hb; clear H; have H := H1; clear H1; clear tk1 _tk; have tk2 : True := trivial) | ((with_reducible refine zqg (N := 38) rfl ?_); refine H.out.ld_row 2 rfl rfl rfl rfl Try.underlying57 rfl hs57 ?_; (try simp only [Act.put, zs1, zs2, zs3])) | ((with_reducible refine zqg (N := 39) rfl ?_); refine H.out.ld_row 1 rfl rfl rfl rfl Try.underlying57 rfl hs57 ?_; (try simp only [Act.put, zs1, zs2, zs3])) | (go_at_call 51; have _tk := tk2; refine (implTk_call n ta tb cols ETk.out HFa.out HFb.out (rdBelow HRa.out H.out.bel) (rdBelow HRb.out H.out.bel) H.out.ge).mono ?_; rintro e w41 ⟨M41, rfl, ho, hb⟩; have O41 := Az.mk ho; have H1 := Az.mk (H.out.made hb); clear ho hb; clear H; have H := H1; clear H1; clear tk2 _tk; have tk3 : True := trivial) | (go_at_call 28; have _tk := tk3; refine (lpaPl_call HLR.out rfl (H.out.rdP 0 rfl O41.out) (H.out.rdP 1 rfl O33.out)).mono ?_; rintro e w50 ⟨rfl, hb⟩; have H1 := Az.mk (H.out.step hb); clear hb; clear H; have H := H1; clear H1; clear tk3 _tk; have tk4 : True := trivial) | ((with_reducible refine zqg (N := 55) rfl ?_); refine gate_guard (by rfl) ?_; dsimp only; refine H.out.ld_row 3 rfl rfl rfl rfl Try.underlying57 rfl hs57 ?_; (try simp only [Act.put, zs1, zs2, zs3])) | (go_at_call 36; have _tk := tk4; refine (specRt_q ta RBa.out HFa.out (rdBelow HRa.out H.out.bel)).mono ?_; rintro e w56 ⟨rfl, hb⟩; have H1 := Az.mk (H.out.step hb); clear hb; clear H; have H := H1; clear H1; clear tk4 _tk; have tk5 : True := trivial) | ((with_reducible refine zqg (N := 61) rfl ?_); refine gate_guard (by rfl) ?_; dsimp only; refine H.out.ld_row 2 rfl rfl rfl rfl Try.underlying57 rfl hs57 ?_; (try simp only [Act.put, zs1, zs2, zs3])) | (go_at_call 36; have _tk := tk5; refine (specRt_q tb RBb.out HFb.out (rdBelow HRb.out H.out.bel)).mono ?_; rintro e w62 ⟨rfl, hb⟩; have H1 := Az.mk (H.out.step hb); clear hb; clear H; have H := H1; clear H1; clear tk5 _tk; have tk6 : True := trivial) | (go_at_call 28; have _tk := tk6; refine (lpaPl_call HLR.out rfl (H.out.rdP 0 rfl O41.out) (H.out.rdP 1 rfl O33.out)).mono ?_; rintro e w80 ⟨rfl, hb⟩; have H1 := Az.mk (H.out.step hb); clear hb; clear H; have H := H1; clear H1; clear tk6 _tk; have tk7 : True := trivial))
    (try simp only [Act.put, zs1, zs2, zs3])
    go_ret
    exact ⟨rfl, HB0.out.trans (H.out.bel.mono HB0.out.size)⟩
  | false =>
   have RBa := Az.mk hra
   clear hra
   go_wp2_with (first | ((with_reducible refine zqg (N := 30) rfl ?_); refine H.out.ld_row 1 rfl rfl rfl rfl Try.underlying57 rfl hs57 ?_; (try simp only [Act.put, zs1, zs2, zs3])) | ((with_reducible refine zqg (N := 31) rfl ?_); refine H.out.ld_row 0 rfl rfl rfl rfl Try.underlying57 rfl hs57 ?_; (try simp only [Act.put, zs1, zs2, zs3])) | (go_at_call 50; have _tk := tk1; refine (specTk_call n ta tb cols ETk.out HFa.out HFb.out (rdBelow HRa.out H.out.bel) (rdBelow HRb.out H.out.bel) H.out.ge).mono ?_; rintro e w33 ⟨M33, rfl, ho, hb⟩; have O33 := Az.mk ho; have H1 := Az.mk (H.out.made hb); clear ho hb; clear H; have H := H1; clear H1; clear tk1 _tk; have tk2 : True := trivial) | ((with_reducible refine zqg (N := 38) rfl ?_); refine H.out.ld_row 2 rfl rfl rfl rfl Try.underlying57 rfl hs57 ?_; (try simp only [Act.put, zs1, zs2, zs3])) | ((with_reducible refine zqg (N := 39) rfl ?_); refine H.out.ld_row 1 rfl rfl rfl rfl Try.underlying57 rfl hs57 ?_; (try simp only [Act.put, zs1, zs2, zs3])) | (go_at_call 51; have _tk := tk2; refine (implTk_call n ta tb cols ETk.out HFa.out HFb.out (rdBelow HRa.out H.out.bel) (rdBelow HRb.out H.out.bel) H.out.ge).mono ?_; rintro e w41 ⟨M41, rfl, ho, hb⟩; have O41 := Az.mk ho; have H1 := Az.mk (H.out.made hb); clear ho hb; clear H; have H := H1; clear H1; clear tk2 _tk; have tk3 : True := trivial) | (go_at_call 28; have _tk := tk3; refine (lpaPl_call HLR.out rfl (H.out.rdP 0 rfl O41.out) (H.out.rdP 1 rfl O33.out)).mono ?_; rintro e w50 ⟨rfl, hb⟩; have H1 := Az.mk (H.out.step hb); clear hb; clear H; have H := H1; clear H1; clear tk3 _tk; have tk4 : True := trivial) | ((with_reducible refine zqg (N := 55) rfl ?_); refine gate_guard (by rfl) ?_; dsimp only; refine H.out.ld_row 3 rfl rfl rfl rfl Try.underlying57 rfl hs57 ?_; (try simp only [Act.put, zs1, zs2, zs3])) | (go_at_call 36; have _tk := tk4; refine (specRt_q ta RBa.out HFa.out (rdBelow HRa.out H.out.bel)).mono ?_; rintro e w56 ⟨rfl, hb⟩; have H1 := Az.mk (H.out.step hb); clear hb; clear H; have H := H1; clear H1; clear tk4 _tk; have tk5 : True := trivial) | (go_at_call 28; have _tk := tk5; refine (lpaPl_call HLR.out rfl (H.out.rdP 0 rfl O41.out) (H.out.rdP 1 rfl O33.out)).mono ?_; rintro e w80 ⟨rfl, hb⟩; have H1 := Az.mk (H.out.step hb); clear hb; clear H; have H := H1; clear H1; clear tk5 _tk; have tk6 : True := trivial))
   (try simp only [Act.put, zs1, zs2, zs3])
   go_ret
   exact ⟨rfl, HB0.out.trans (H.out.bel.mono HB0.out.size)⟩
end Go.Proofs.Ytkoimmeghdbodaa.Hq
namespace Go.Proofs.Ytkoimmeghdbodaa.fnSpaceTake
open Go.ChangeShapes Go.WideShapes Go.ChangeAt Go.RowKit Go.Proofs.Ytkoimmeghdbodaa.Print Go.Proofs.Ytkoimmeghdbodaa.Take Go.Proofs.YtkoimmeghdbodaaW.PrintWords
open Go.ChangeMaps (open_string shut_string)
theorem own : ownKnob Try.prog.godebug = none := by kernel_rfl
theorem laidOut : laidOutB Try.prog = true := by kernel_rfl
set_option maxRecDepth 100000 in
theorem lifted (os : Os) (started : os.Started) (H : Type) (enc : TypeId × Value → H) :
    ReturnsInHanded {} Try.checked os 15 .any (Rows.fnSpaceTakeSpec.pre6 enc Try.prog Try.f15 Rows.fnSpaceTakeRow.domain false) (Rows.fnSpaceTakeSpec.post enc Try.prog Try.f15 false true false false) := by
  refine returnsInHanded_of_change_sized (C := Try.checked) own started (by kernel_rfl) Try.func15
    (ChangeSpec.witness6 (enc := enc) (C := Try.checked) false ⟨#[], #[.slice none 0 0], []⟩ 8 (by kernel_rfl) (by kernel_rfl) (by kernel_rfl) (by kernel_rfl)) ?_
  intro W base args ds gs before hval0 hW hcnd hsz0 _
  have hsz : (DataW.weightsEach Try.prog (Try.f15.params.toList ++ Rows.fnSpaceTakeSpec.plain.varTypes Try.prog) (ds ++ gs)).all (· ≤ reachBytes) = true := hsz0
  have hval : ∀ (j : Nat) t v, Try.f15.params[j]? = some t → args[j]? = some v → Value.okWide Try.prog W .any base t v := hval0
  have hW' := hW
  obtain ⟨p, q, hA0, hV, rfl, hfz, hnd⟩ := hW
  have hA : DataW.TrodAll enc Try.prog W 0 (fun _ => true) true Try.f15.params.toList args.toList ds p := hA0
  rw [Try.params15] at hA hval hsz
  obtain ⟨v0, vs0, d0, ds0, p0, q0, hargs, rfl, rfl, h0, r0⟩ := trodAll_cons hA
  obtain ⟨rfl, rfl, rfl⟩ := trodAll_nil r0
  obtain rfl : args = #[v0] := by cases args; simp_all
  obtain ⟨rfl, rfl⟩ := trodVars_none hV
  obtain ⟨b0, len0, cap0, rfl⟩ := okWide_slice Try.underlying33 (hval 0 33 v0 rfl rfl)
  have k0 := h0
  have lt0 : ∀ x ∈ p0, x.block < W.heap.size := by obtain ⟨m, hm⟩ := k0; exact DataW.trod_lt m _ _ _ hm
  obtain ⟨A0, c0, l0, e0, hr0, hc0, w0⟩ := Opens.arg o33 rfl h0
  cases e0
  clear hA0 hval0 hsz0 hsz
  skip
  refine (Hq.law_FnSpaceTake W hr0 hc0 w0.2).mono fun e W' ⟨he, bel0⟩ => ?_
  have bel := bel0
  subst he
  exact ⟨_, rfl, _, _, _, [], _, [], hW', trodAll_mk1 (shut_bool Try.underlying4 _), (trodAll_cons_mk (Below.trod laidOut (by kernel_rfl) (of_decide_eq_true (by kernel_rfl)) k0 bel lt0) trodAll_mk0), rfl, bel.frame _, fun h => by cases h⟩
theorem over : Rows.fnSpaceTakeRow.holds Try.pinned (OpenSpec.ofChange Rows.fnSpaceTakeSpec) :=
  OpenClaim.holds_of_wide 15 Try.f15 rfl rfl rfl rfl rfl rfl rfl ⟨rfl, rfl, rfl, rfl, rfl⟩ rfl rfl rfl rfl rfl (by kernel_rfl) Try.func15 (by kernel_rfl)
    (of_decide_eq_true (by kernel_rfl)) (by unfold Func.isWrapper; first | (rw [if_pos (by decide +kernel)]; kernel_rfl) | (rw [if_neg (by decide +kernel)]; exact ⟨rfl, rfl⟩))
    (fun os started H enc _ => lifted os started H enc)
theorem proved : Rows.FnSpaceTakeSaid := over
#print axioms proved
end Go.Proofs.Ytkoimmeghdbodaa.fnSpaceTake
namespace Go.Proofs.Ytkoimmeghdbodaa
theorem fnSpaceTake_holds : Rows.FnSpaceTakeSaid := fnSpaceTake.proved
end Go.Proofs.Ytkoimmeghdbodaa
