/- Proved, with what follows on it: the row of the law FnRootLess. Conditions: the row's alone. Texts of this session and words that the kit's print laid for this seat, merged and cut by shrink.py, a program of this session. -/
import Derived.Test.YtkoimmeghdbodaaZFnRootLessE
set_option linter.unusedVariables false
set_option linter.unusedSimpArgs false
namespace Go.Proofs.Ytkoimmeghdbodaa.Hq
open Go.RowKit Go.Proofs.Ytkoimmeghdbodaa.Print Go.Proofs.YtkoimmeghdbodaaW.PrintWords Go.Proofs.YtkoimmeghdbodaaW.PrintLast Go.Proofs.YtkoimmeghdbodaaW.PrintMore Go.Proofs.Ytkoimmeghdbodaa.Pure Go.Proofs.Ytkoimmeghdbodaa.Hd
theorem find_callq' {base : Nat} {ws w : World} {L : List Part} {S : Nat → Prop} {wo : World} {b : Nat} (H : Hq base ws w L) (j : Nat) (ej : L[j]? = some (.set S wo)) {A : Option Addr} {c dn : Nat} {D : List S65} (hn : D.length = dn) (O : r65.R 65 wo b S (.slice A dn c) D) (hl : D.length ≤ 10) (tx : Int) (x : ByteArray) :
    Calls Try.prog 115 #[.agg #[.int .i64 tx, .slice A dn c], .string x] w fun e w' => ∃ r : Int, e = .returned (.int .i64 r) ∧ Below w.heap.size w w' := by
  subst hn
  exact find_callq H j ej O hl tx x
theorem all_callq' {base : Nat} {ws w : World} {L : List Part} {S : Nat → Prop} {wo : World} (H : Hq base ws w L) (j : Nat) (ej : L[j]? = some (.set S wo)) {A : Option Addr} {c dn : Nat} {D : List S65} (hn : D.length = dn) (O : r65.R 65 wo base S (.slice A dn c) D) (hl : D.length ≤ 10) (hD : GV D) (tx : Int) :
    Calls Try.prog 86 #[.agg #[.int .i64 tx, .slice A dn c]] w fun e w' => ∃ v, e = .returned v ∧ q29.R 29 w' base (newS S w w') v (ptrs D) ∧ Hq base ws w' (L.set j (.set (newS S w w') w')) ∧ ∀ k, S k → newS S w w' k ∧ w'.heap[k]? = wo.heap[k]? := by
  subst hn
  exact all_callq H j ej O hl hD tx
theorem gv_snoc {D q : List S65} {s : ByteArray} {l : List S29} (hq : q = D ++ [⟨s, l⟩]) (hD : GV D) (hl : GB l) : GV q := by
  subst hq
  intro x hx
  rcases List.mem_append.1 hx with h | h
  · exact hD x h
  · rw [List.mem_singleton.1 h]
    exact hl
theorem ptrs_small {D : List S65} (h : GV D) : (ptrs D).length = 3 * D.length := by
  have := ptrs_take_len (vs := D) (fun x hx => (h x hx).1) D.length (Nat.le_refl _)
  rwa [List.take_length] at this
theorem ptrs_five {D : List S65} (h : GV D) {i : Nat} (hi : i < (ptrs D).length) : ((ptrs D).getD i z29).f2.length ≤ 5 := by
  obtain ⟨x, hx, hy⟩ := List.mem_flatMap.1 (getD_mem (l := ptrs D) (z := z29) hi)
  exact (h x hx).2 _ hy
set_option maxHeartbeats 16000000 in
set_option maxRecDepth 100000 in
theorem l71Root_calls {w0 w : World} {b : List Int} {g m : Nat} {n : Int} {cs : Array Value} (hn : 3 ≤ n ∧ n ≤ 4) (hB : Below w0.heap.size w0 w) (hbox : w.heap[g]? = some (.cells cs 113 (0, 0))) (hge : w0.heap.size ≤ g) (hr : Rdr w0 b (m + 2500) cs) : Calls Try.prog 89 #[.pointer (some ⟨g, 0, none⟩), .int .i64 n] w (DrawsRoot w0 b g m w) := by
  have hs57 := size57
  have hs65 := size65q
  have hs29 := size29q
  have HNN := Az.mk hn
  have HB := Az.mk hB
  have HR := Az.mk hr
  have H := Az.mk (Hq.start_box' w hge hbox)
  have tk0 : True := trivial
  clear hB hbox hge hr hn
  go_enter Try.func89, Try.ntmps89
  go_wp2_with (first | ((with_reducible refine zqg (N := 4) rfl ?_); refine H.out.bx rfl (#[.int .i64 0, .slice none 0 0]) 57 ?hr ?_; (case hr => first | (go_simp; done) | (go_simp; rfl)); intro g4 w4 H1; clear H; have H := H1; clear H1; (try simp only [Act.put, zs1, zs2, zs3])) | (go_at_call 65; have _tk := tk0; refine (pick_callq (m := m + 2499) HB.out H.out 1 rfl (HR.out.less (by omega)) (9) (by omega)).mono ?_; rintro e w15 ⟨r15, c15, rfl, hr15, hrd, h1⟩; have HR1 := Az.mk hrd; have H1 := Az.mk h1; have hz15 := eq_true (Int.natCast_nonneg r15); clear hrd h1; clear H HR; have H := H1; have HR := HR1; clear H1 HR1; clear tk0 _tk; have tk1 : True := trivial) | ((with_reducible refine zqg (N := 16) rfl ?_); refine H.out.none65 rfl ?hr ?_; (case hr => first | (go_simp; done) | (go_simp; rfl)); intro gv w16 H1 O; clear H; have H := H1; clear H1; (try simp only [Act.put, zs1, zs2, zs3])) | ((with_reducible refine zqg (N := 5) rfl ?_); refine H.out.bx rfl (#[.int .i64 0, .slice none 0 0]) 57 ?hr ?_; (case hr => first | (go_simp; done) | (go_simp; rfl)); intro g5 w5 H1; clear H; have H := H1; clear H1; (try simp only [Act.put, zs1, zs2, zs3])) | ((with_reducible refine gate_store (t := 57) (p := 5) rfl ?_); refine H.out.st_row 0 rfl rfl (x := .tmp 5) (y := .tmp 17) rfl rfl rfl (#[.int .i64 (r15 : Int), .slice (some ⟨gv, 0, none⟩) 0 0]) rfl hs57 rfl (by simp [Value.oneCell']) ?_; intro ws1 H1; clear H; have H := H1; clear H1) | (go_at_call 65; have _tk := tk1; refine (pick_callq (m := m + 2498) HB.out H.out 3 rfl (HR.out.less (by omega)) (5) (by omega)).mono ?_; rintro e w19 ⟨r19, c19, rfl, hr19, hrd, h1⟩; have HR1 := Az.mk hrd; have H1 := Az.mk h1; have hz19 := eq_true (Int.natCast_nonneg r19); clear hrd h1; clear H HR; have H := H1; have HR := HR1; clear H1 HR1; clear tk1 _tk; have tk2 : True := trivial))
  go_loopg [6] 5 (fun kq v6 w' => ∃ (n6 : Nat) (A5 : Option Addr) (c5 dn : Nat) (D : List S65) (S : Nat → Prop) (wo : World) (c : Array Value), v6 = .int .i64 (n6 : Int) ∧ Az (n6 + 1 ≤ kq ∧ kq ≤ 5) ∧ Az (D.length + n6 ≤ 4) ∧ Az (D.length = dn) ∧ Az (GV D) ∧ Az (Rdr w0 b (m + 500 * n6) c) ∧ Az (r65.R 65 wo w0.heap.size S (.slice A5 dn c5) D) ∧ Az (Hq w0.heap.size w w' [.box g5 (#[.int .i64 (r15 : Int), .slice A5 dn c5]) 57, .set S wo, .box g4 (#[.int .i64 0, .slice none 0 0]) 57, .box g c 113, .set (fun k => k ≠ g ∧ w0.heap.size ≤ k ∧ k < w.heap.size) w]))
  case atStart => exact ⟨r19, some ⟨gv, 0, none⟩, 0, 0, [], _, _, _, rfl, ⟨by omega⟩, ⟨by simp; omega⟩, ⟨rfl⟩, ⟨fun x hx => by cases hx⟩, ⟨HR.out.less (by omega)⟩, O, ⟨H.out.sel [0, 1, 2, 3, 4] _ (by decide) rfl⟩⟩
  case round =>
    clear H HR O
    obtain ⟨n6, A5, c5, dn, D, S, wo, c, rfl, HN, HLE, HDN, HD, HR, O, H⟩ := hrel
    cases gk with
    | zero => exact absurd HN.out.1 (by omega)
    | succ k1 =>
      have tk0 : True := trivial
      by_cases hn : 0 < (n6 : Int)
      · have c21 : decide (0 < (n6 : Int)) = true := decide_eq_true hn
        have c21n : decide (0 < n6) = true := decide_eq_true (by omega)
        have HP := Az.mk hn
        clear hn
        go_upto_region 5 with fail
        (try simp only [Act.put, zs1, zs2, zs3])
        go_cut [7] (fun v7 wc => ∃ (g7 gB cB : Nat) (s7 : ByteArray) (l : List S29) (S : Nat → Prop) (wo : World) (c : Array Value), v7 = .pointer (some ⟨g7, 0, none⟩) ∧ Az (GB l) ∧ Az (Rdr w0 b (m + 500 * (n6 - 1) + 498) c) ∧ Az (r65.R 65 wo w0.heap.size S (.slice A5 dn c5) D) ∧ Az (q29.R 29 wo w0.heap.size S (.slice (some ⟨gB, 0, none⟩) 3 cB) l) ∧ Az (Hq w0.heap.size w wc [.box g7 (#[.string s7, .slice (some ⟨gB, 0, none⟩) 3 cB]) 65, .set S wo, .box g5 (#[.int .i64 (r15 : Int), .slice A5 dn c5]) 57, .box g4 (#[.int .i64 0, .slice none 0 0]) 57, .box g c 113, .set (fun k => k ≠ g ∧ w0.heap.size ≤ k ∧ k < w.heap.size) w]))
        case first =>
          refine start_ (n := 7) (S := fun w' => Hq w0.heap.size w w' []) (ds := []) (bm 7 0) (by kernel_rfl) rfl rfl (H.out.drew.sel [] _ (by decide) rfl) (fun hHeld => ?_)
          have H1 := Az.mk H.out.drew
          clear H; have H := H1; clear H1
          generalize World.drew wr = wd5 at hHeld H ⊢
          refine zP 0 (some 24) (bm 7 1) ?_
          refine join_ (σ := Nat × ByteArray × Nat × Nat × Nat) 1 (bm 7 63) (fun s => [(25, .slice (some ⟨s.1, 0, none⟩) 6 6), (26, .string s.2.1), (27, .slice (some ⟨s.2.2.1, 0, none⟩) 3 s.2.2.2.1), (28, .agg #[.string s.2.1, .slice (some ⟨s.2.2.1, 0, none⟩) 3 s.2.2.2.1]), (7, .pointer (some ⟨s.2.2.2.2, 0, none⟩))]) (fun s w' => ∃ (S : Nat → Prop) (wo : World) (c : Array Value), Az (Rdr w0 b (m + 500 * (n6 - 1) + 498) c) ∧ Az (r65.R 65 wo w0.heap.size S (.slice A5 dn c5) D) ∧ Az (q29.R 29 wo w0.heap.size S (.slice (some ⟨s.2.2.1, 0, none⟩) 3 s.2.2.2.1) (List.replicate 3 z29)) ∧ Az (Hq w0.heap.size w w' [.box s.2.2.2.2 (#[.string ⟨#[]⟩, .slice none 0 0]) 65, .set S wo, .box g5 (#[.int .i64 (r15 : Int), .slice A5 dn c5]) 57, .box g4 (#[.int .i64 0, .slice none 0 0]) 57, .box g c 113, .set (fun k => k ≠ g ∧ w0.heap.size ≤ k ∧ k < w.heap.size) w])) ?_ ?_
          · rintro ⟨gn, s26, gB, cB, g7⟩ wj ⟨S, wo, c, HR, O, V, H⟩
            refine norm_ (a' := ?_) ?_ ?_
            rotate_left
            · simp only [putAll, Act.put, zs1, zs2, zs3]
              rfl
            refine one_ (i := 6) (N := none) (bm 7 127) rfl rfl (by kernel_rfl) (by decide) (fun K hK => ?_)
            refine H.out.st_ 0 rfl (by rfl) (x := .tmp 7) (y := .tmp 28) rfl rfl rfl (#[.string s26, .slice (some ⟨gB, 0, none⟩) 3 cB]) rfl hs65 rfl (by simp [Value.oneCell']) ?_
            intro ws5 H1
            clear H; have H := H1; clear H1
            refine hK.out _ _ (H.out.sel [] _ (by decide) rfl) (fun hHeld => ?_)
            clear hK K
            refine norm_ (a' := ?_) ?_ ?_
            rotate_left
            · rfl
            refine done_ (by kernel_rfl) ?_
            try go_wp2
            go_meet
            case rel => exact ⟨g7, gB, cB, s26, _, _, _, _, rfl, ⟨gb_new⟩, ⟨HR.out.less (by omega)⟩, O, V, ⟨H.out.sel [0, 1, 2, 3, 4, 5] _ (by decide) rfl⟩⟩
          · intro hcont
            refine three_ (i := 1) (j := 3) (k := 5) (Ni := some 25) (Nj := some 27) (Nk := some 7) (bm 7 3) (bm 7 9) (bm 7 33) rfl rfl rfl rfl rfl rfl (by kernel_rfl) (by decide) (by decide) (by decide) ?_ ?_ ?_
            · intro K hK
              refine H.out.lit_ (by rfl) (#[.string ⟨#[97]⟩, .string ⟨#[98]⟩, .string ⟨#[99, 100]⟩, .string ⟨#[120, 121, 122]⟩, .string ⟨#[113]⟩, .string ⟨#[122, 122]⟩]) 9 6 ?hr ?_
              (case hr => first | (go_simp; done) | (go_simp; rfl))
              intro gn w25 H1
              clear H; have H := H1; clear H1
              refine hK.out _ _ ?_ (fun hHeld => ?_)
              · exact H.out.sel [] _ (by decide) rfl
              clear hK K hHeld
              refine three_ (i := 2) (j := 3) (k := 5) (Ni := some 26) (Nj := some 27) (Nk := some 7) (bm 7 7) (bm 7 11) (bm 7 35) rfl rfl rfl rfl rfl rfl (by kernel_rfl) (by decide) (by decide) (by decide) ?_ ?_ ?_
              · intro K hK
                refine goes_ Try.func114 (by kernel_rfl) rfl #[.pointer (some ⟨g, 0, none⟩), .slice (some ⟨gn, 0, none⟩) 6 6] (by rfl) rfl rfl (by (try simp only [List.map_toArray, List.map_cons, List.map_nil]); first | done | rfl) ?_
                refine (of_callq (m := m + 500 * (n6 - 1) + 498) (l := [⟨#[97]⟩, ⟨#[98]⟩, ⟨#[99, 100]⟩, ⟨#[120, 121, 122]⟩, ⟨#[113]⟩, ⟨#[122, 122]⟩]) HB.out H.out 4 0 (by decide) rfl rfl (by decide) rfl (by decide) (HR.out.less (by have := HP.out; omega))).mono ?_
                rintro e w26 ⟨s26, c26, rfl, _, hrd, h1⟩
                refine ⟨_, rfl, ?_⟩
                have HR1 := Az.mk hrd
                have H1 := Az.mk h1
                clear hrd h1
                clear H HR; have H := H1; have HR := HR1; clear H1 HR1
                refine hK.out _ _ ?_ (fun hHeld => ?_)
                · exact H.out.sel [] _ (by decide) rfl
                clear hK K hHeld
                refine two_ (i := 3) (j := 5) (Ni := some 27) (Nj := some 7) (bm 7 15) (bm 7 39) rfl rfl rfl rfl (by kernel_rfl) (by decide) (by decide) ?_ ?_
                · intro K hK
                  refine H.out.make29_ 2 rfl (by rfl) rfl rfl ?_
                  intro gB cB w27 H1 hup V
                  have O1 := Az.mk (R_up O.out hup)
                  clear hup
                  clear H O; have H := H1; have O := O1; clear H1 O1
                  refine hK.out _ _ ?_ (fun hHeld => ?_)
                  · exact H.out.sel [] _ (by decide) rfl
                  clear hK K hHeld
                  refine zP 4 (some 28) (bm 7 31) ?_
                  refine one_ (i := 5) (N := some 7) (bm 7 63) rfl rfl (by kernel_rfl) (by decide) (fun K hK => ?_)
                  refine H.out.bx_ (by rfl) (#[.string ⟨#[]⟩, .slice none 0 0]) 65 ?hr ?_
                  (case hr => first | (go_simp; done) | (go_simp; rfl))
                  intro g7 w7 H1
                  clear H; have H := H1; clear H1
                  refine hK.out _ _ ?_ (fun hHeld => ?_)
                  · exact H.out.sel [] _ (by decide) rfl
                  clear hK K hHeld
                  refine norm_ ?_ (hcont (gn, s26, gB, cB, g7) _ ⟨_, _, _, ⟨HR.out.less (by omega)⟩, O, V, ⟨H.out.sel [0, 3, 2, 4, 5, 6] _ (by decide) rfl⟩⟩)
                  simp only [putAll, Act.put, zs1, zs2, zs3]
                  rfl
                · intro K hK
                  refine H.out.bx_ (by rfl) (#[.string ⟨#[]⟩, .slice none 0 0]) 65 ?hr ?_
                  (case hr => first | (go_simp; done) | (go_simp; rfl))
                  intro g7 w7 H1
                  clear H; have H := H1; clear H1
                  refine hK.out _ _ ?_ (fun hHeld => ?_)
                  · exact H.out.sel [] _ (by decide) rfl
                  clear hK K hHeld
                  refine one_ (i := 3) (N := some 27) (bm 7 47) rfl rfl (by kernel_rfl) (by decide) (fun K hK => ?_)
                  refine H.out.make29_ 3 rfl (by rfl) rfl rfl ?_
                  intro gB cB w27 H1 hup V
                  have O1 := Az.mk (R_up O.out hup)
                  clear hup
                  clear H O; have H := H1; have O := O1; clear H1 O1
                  refine hK.out _ _ ?_ (fun hHeld => ?_)
                  · exact H.out.sel [] _ (by decide) rfl
                  clear hK K hHeld
                  refine zP 4 (some 28) (bm 7 63) ?_
                  refine norm_ ?_ (hcont (gn, s26, gB, cB, g7) _ ⟨_, _, _, ⟨HR.out.less (by omega)⟩, O, V, ⟨H.out.sel [0, 3, 2, 4, 5, 6] _ (by decide) rfl⟩⟩)
                  simp only [putAll, Act.put, zs1, zs2, zs3]
                  rfl
              · intro K hK
                refine H.out.make29_ 2 rfl (by rfl) rfl rfl ?_
                intro gB cB w27 H1 hup V
                have O1 := Az.mk (R_up O.out hup)
                clear hup
                clear H O; have H := H1; have O := O1; clear H1 O1
                refine hK.out _ _ ?_ (fun hHeld => ?_)
                · exact H.out.sel [] _ (by decide) rfl
                clear hK K hHeld
                refine two_ (i := 2) (j := 5) (Ni := some 26) (Nj := some 7) (bm 7 15) (bm 7 43) rfl rfl rfl rfl (by kernel_rfl) (by decide) (by decide) ?_ ?_
                · intro K hK
                  refine goes_ Try.func114 (by kernel_rfl) rfl #[.pointer (some ⟨g, 0, none⟩), .slice (some ⟨gn, 0, none⟩) 6 6] (by rfl) rfl rfl (by (try simp only [List.map_toArray, List.map_cons, List.map_nil]); first | done | rfl) ?_
                  refine (of_callq (m := m + 500 * (n6 - 1) + 498) (l := [⟨#[97]⟩, ⟨#[98]⟩, ⟨#[99, 100]⟩, ⟨#[120, 121, 122]⟩, ⟨#[113]⟩, ⟨#[122, 122]⟩]) HB.out H.out 4 0 (by decide) rfl rfl (by decide) rfl (by decide) (HR.out.less (by have := HP.out; omega))).mono ?_
                  rintro e w26 ⟨s26, c26, rfl, _, hrd, h1⟩
                  refine ⟨_, rfl, ?_⟩
                  have HR1 := Az.mk hrd
                  have H1 := Az.mk h1
                  clear hrd h1
                  clear H HR; have H := H1; have HR := HR1; clear H1 HR1
                  refine hK.out _ _ ?_ (fun hHeld => ?_)
                  · exact H.out.sel [] _ (by decide) rfl
                  clear hK K hHeld
                  refine zP 4 (some 28) (bm 7 31) ?_
                  refine one_ (i := 5) (N := some 7) (bm 7 63) rfl rfl (by kernel_rfl) (by decide) (fun K hK => ?_)
                  refine H.out.bx_ (by rfl) (#[.string ⟨#[]⟩, .slice none 0 0]) 65 ?hr ?_
                  (case hr => first | (go_simp; done) | (go_simp; rfl))
                  intro g7 w7 H1
                  clear H; have H := H1; clear H1
                  refine hK.out _ _ ?_ (fun hHeld => ?_)
                  · exact H.out.sel [] _ (by decide) rfl
                  clear hK K hHeld
                  refine norm_ ?_ (hcont (gn, s26, gB, cB, g7) _ ⟨_, _, _, ⟨HR.out.less (by omega)⟩, O, V, ⟨H.out.sel [0, 3, 2, 4, 5, 6] _ (by decide) rfl⟩⟩)
                  simp only [putAll, Act.put, zs1, zs2, zs3]
                  rfl
                · intro K hK
                  refine H.out.bx_ (by rfl) (#[.string ⟨#[]⟩, .slice none 0 0]) 65 ?hr ?_
                  (case hr => first | (go_simp; done) | (go_simp; rfl))
                  intro g7 w7 H1
                  clear H; have H := H1; clear H1
                  refine hK.out _ _ ?_ (fun hHeld => ?_)
                  · exact H.out.sel [] _ (by decide) rfl
                  clear hK K hHeld
                  refine one_ (i := 2) (N := some 26) (bm 7 47) rfl rfl (by kernel_rfl) (by decide) (fun K hK => ?_)
                  refine goes_ Try.func114 (by kernel_rfl) rfl #[.pointer (some ⟨g, 0, none⟩), .slice (some ⟨gn, 0, none⟩) 6 6] (by rfl) rfl rfl (by (try simp only [List.map_toArray, List.map_cons, List.map_nil]); first | done | rfl) ?_
                  refine (of_callq (m := m + 500 * (n6 - 1) + 498) (l := [⟨#[97]⟩, ⟨#[98]⟩, ⟨#[99, 100]⟩, ⟨#[120, 121, 122]⟩, ⟨#[113]⟩, ⟨#[122, 122]⟩]) HB.out H.out 5 1 (by decide) rfl rfl (by decide) rfl (by decide) (HR.out.less (by have := HP.out; omega))).mono ?_
                  rintro e w26 ⟨s26, c26, rfl, _, hrd, h1⟩
                  refine ⟨_, rfl, ?_⟩
                  have HR1 := Az.mk hrd
                  have H1 := Az.mk h1
                  clear hrd h1
                  clear H HR; have H := H1; have HR := HR1; clear H1 HR1
                  refine hK.out _ _ ?_ (fun hHeld => ?_)
                  · exact H.out.sel [] _ (by decide) rfl
                  clear hK K hHeld
                  refine zP 4 (some 28) (bm 7 63) ?_
                  refine norm_ ?_ (hcont (gn, s26, gB, cB, g7) _ ⟨_, _, _, ⟨HR.out.less (by omega)⟩, O, V, ⟨H.out.sel [0, 3, 2, 4, 5, 6] _ (by decide) rfl⟩⟩)
                  simp only [putAll, Act.put, zs1, zs2, zs3]
                  rfl
              · intro K hK
                refine H.out.bx_ (by rfl) (#[.string ⟨#[]⟩, .slice none 0 0]) 65 ?hr ?_
                (case hr => first | (go_simp; done) | (go_simp; rfl))
                intro g7 w7 H1
                clear H; have H := H1; clear H1
                refine hK.out _ _ ?_ (fun hHeld => ?_)
                · exact H.out.sel [] _ (by decide) rfl
                clear hK K hHeld
                refine two_ (i := 2) (j := 3) (Ni := some 26) (Nj := some 27) (bm 7 39) (bm 7 43) rfl rfl rfl rfl (by kernel_rfl) (by decide) (by decide) ?_ ?_
                · intro K hK
                  refine goes_ Try.func114 (by kernel_rfl) rfl #[.pointer (some ⟨g, 0, none⟩), .slice (some ⟨gn, 0, none⟩) 6 6] (by rfl) rfl rfl (by (try simp only [List.map_toArray, List.map_cons, List.map_nil]); first | done | rfl) ?_
                  refine (of_callq (m := m + 500 * (n6 - 1) + 498) (l := [⟨#[97]⟩, ⟨#[98]⟩, ⟨#[99, 100]⟩, ⟨#[120, 121, 122]⟩, ⟨#[113]⟩, ⟨#[122, 122]⟩]) HB.out H.out 5 1 (by decide) rfl rfl (by decide) rfl (by decide) (HR.out.less (by have := HP.out; omega))).mono ?_
                  rintro e w26 ⟨s26, c26, rfl, _, hrd, h1⟩
                  refine ⟨_, rfl, ?_⟩
                  have HR1 := Az.mk hrd
                  have H1 := Az.mk h1
                  clear hrd h1
                  clear H HR; have H := H1; have HR := HR1; clear H1 HR1
                  refine hK.out _ _ ?_ (fun hHeld => ?_)
                  · exact H.out.sel [] _ (by decide) rfl
                  clear hK K hHeld
                  refine one_ (i := 3) (N := some 27) (bm 7 47) rfl rfl (by kernel_rfl) (by decide) (fun K hK => ?_)
                  refine H.out.make29_ 3 rfl (by rfl) rfl rfl ?_
                  intro gB cB w27 H1 hup V
                  have O1 := Az.mk (R_up O.out hup)
                  clear hup
                  clear H O; have H := H1; have O := O1; clear H1 O1
                  refine hK.out _ _ ?_ (fun hHeld => ?_)
                  · exact H.out.sel [] _ (by decide) rfl
                  clear hK K hHeld
                  refine zP 4 (some 28) (bm 7 63) ?_
                  refine norm_ ?_ (hcont (gn, s26, gB, cB, g7) _ ⟨_, _, _, ⟨HR.out.less (by omega)⟩, O, V, ⟨H.out.sel [0, 3, 2, 4, 5, 6] _ (by decide) rfl⟩⟩)
                  simp only [putAll, Act.put, zs1, zs2, zs3]
                  rfl
                · intro K hK
                  refine H.out.make29_ 3 rfl (by rfl) rfl rfl ?_
                  intro gB cB w27 H1 hup V
                  have O1 := Az.mk (R_up O.out hup)
                  clear hup
                  clear H O; have H := H1; have O := O1; clear H1 O1
                  refine hK.out _ _ ?_ (fun hHeld => ?_)
                  · exact H.out.sel [] _ (by decide) rfl
                  clear hK K hHeld
                  refine one_ (i := 2) (N := some 26) (bm 7 47) rfl rfl (by kernel_rfl) (by decide) (fun K hK => ?_)
                  refine goes_ Try.func114 (by kernel_rfl) rfl #[.pointer (some ⟨g, 0, none⟩), .slice (some ⟨gn, 0, none⟩) 6 6] (by rfl) rfl rfl (by (try simp only [List.map_toArray, List.map_cons, List.map_nil]); first | done | rfl) ?_
                  refine (of_callq (m := m + 500 * (n6 - 1) + 498) (l := [⟨#[97]⟩, ⟨#[98]⟩, ⟨#[99, 100]⟩, ⟨#[120, 121, 122]⟩, ⟨#[113]⟩, ⟨#[122, 122]⟩]) HB.out H.out 5 1 (by decide) rfl rfl (by decide) rfl (by decide) (HR.out.less (by have := HP.out; omega))).mono ?_
                  rintro e w26 ⟨s26, c26, rfl, _, hrd, h1⟩
                  refine ⟨_, rfl, ?_⟩
                  have HR1 := Az.mk hrd
                  have H1 := Az.mk h1
                  clear hrd h1
                  clear H HR; have H := H1; have HR := HR1; clear H1 HR1
                  refine hK.out _ _ ?_ (fun hHeld => ?_)
                  · exact H.out.sel [] _ (by decide) rfl
                  clear hK K hHeld
                  refine zP 4 (some 28) (bm 7 63) ?_
                  refine norm_ ?_ (hcont (gn, s26, gB, cB, g7) _ ⟨_, _, _, ⟨HR.out.less (by omega)⟩, O, V, ⟨H.out.sel [0, 3, 2, 4, 5, 6] _ (by decide) rfl⟩⟩)
                  simp only [putAll, Act.put, zs1, zs2, zs3]
                  rfl
            · intro K hK
              refine H.out.make29_ 1 rfl (by rfl) rfl rfl ?_
              intro gB cB w27 H1 hup V
              have O1 := Az.mk (R_up O.out hup)
              clear hup
              clear H O; have H := H1; have O := O1; clear H1 O1
              refine hK.out _ _ ?_ (fun hHeld => ?_)
              · exact H.out.sel [] _ (by decide) rfl
              clear hK K hHeld
              refine two_ (i := 1) (j := 5) (Ni := some 25) (Nj := some 7) (bm 7 11) (bm 7 41) rfl rfl rfl rfl (by kernel_rfl) (by decide) (by decide) ?_ ?_
              · intro K hK
                refine H.out.lit_ (by rfl) (#[.string ⟨#[97]⟩, .string ⟨#[98]⟩, .string ⟨#[99, 100]⟩, .string ⟨#[120, 121, 122]⟩, .string ⟨#[113]⟩, .string ⟨#[122, 122]⟩]) 9 6 ?hr ?_
                (case hr => first | (go_simp; done) | (go_simp; rfl))
                intro gn w25 H1
                clear H; have H := H1; clear H1
                refine hK.out _ _ ?_ (fun hHeld => ?_)
                · exact H.out.sel [] _ (by decide) rfl
                clear hK K hHeld
                refine two_ (i := 2) (j := 5) (Ni := some 26) (Nj := some 7) (bm 7 15) (bm 7 43) rfl rfl rfl rfl (by kernel_rfl) (by decide) (by decide) ?_ ?_
                · intro K hK
                  refine goes_ Try.func114 (by kernel_rfl) rfl #[.pointer (some ⟨g, 0, none⟩), .slice (some ⟨gn, 0, none⟩) 6 6] (by rfl) rfl rfl (by (try simp only [List.map_toArray, List.map_cons, List.map_nil]); first | done | rfl) ?_
                  refine (of_callq (m := m + 500 * (n6 - 1) + 498) (l := [⟨#[97]⟩, ⟨#[98]⟩, ⟨#[99, 100]⟩, ⟨#[120, 121, 122]⟩, ⟨#[113]⟩, ⟨#[122, 122]⟩]) HB.out H.out 4 0 (by decide) rfl rfl (by decide) rfl (by decide) (HR.out.less (by have := HP.out; omega))).mono ?_
                  rintro e w26 ⟨s26, c26, rfl, _, hrd, h1⟩
                  refine ⟨_, rfl, ?_⟩
                  have HR1 := Az.mk hrd
                  have H1 := Az.mk h1
                  clear hrd h1
                  clear H HR; have H := H1; have HR := HR1; clear H1 HR1
                  refine hK.out _ _ ?_ (fun hHeld => ?_)
                  · exact H.out.sel [] _ (by decide) rfl
                  clear hK K hHeld
                  refine zP 4 (some 28) (bm 7 31) ?_
                  refine one_ (i := 5) (N := some 7) (bm 7 63) rfl rfl (by kernel_rfl) (by decide) (fun K hK => ?_)
                  refine H.out.bx_ (by rfl) (#[.string ⟨#[]⟩, .slice none 0 0]) 65 ?hr ?_
                  (case hr => first | (go_simp; done) | (go_simp; rfl))
                  intro g7 w7 H1
                  clear H; have H := H1; clear H1
                  refine hK.out _ _ ?_ (fun hHeld => ?_)
                  · exact H.out.sel [] _ (by decide) rfl
                  clear hK K hHeld
                  refine norm_ ?_ (hcont (gn, s26, gB, cB, g7) _ ⟨_, _, _, ⟨HR.out.less (by omega)⟩, O, V, ⟨H.out.sel [0, 3, 2, 4, 5, 6] _ (by decide) rfl⟩⟩)
                  simp only [putAll, Act.put, zs1, zs2, zs3]
                  rfl
                · intro K hK
                  refine H.out.bx_ (by rfl) (#[.string ⟨#[]⟩, .slice none 0 0]) 65 ?hr ?_
                  (case hr => first | (go_simp; done) | (go_simp; rfl))
                  intro g7 w7 H1
                  clear H; have H := H1; clear H1
                  refine hK.out _ _ ?_ (fun hHeld => ?_)
                  · exact H.out.sel [] _ (by decide) rfl
                  clear hK K hHeld
                  refine one_ (i := 2) (N := some 26) (bm 7 47) rfl rfl (by kernel_rfl) (by decide) (fun K hK => ?_)
                  refine goes_ Try.func114 (by kernel_rfl) rfl #[.pointer (some ⟨g, 0, none⟩), .slice (some ⟨gn, 0, none⟩) 6 6] (by rfl) rfl rfl (by (try simp only [List.map_toArray, List.map_cons, List.map_nil]); first | done | rfl) ?_
                  refine (of_callq (m := m + 500 * (n6 - 1) + 498) (l := [⟨#[97]⟩, ⟨#[98]⟩, ⟨#[99, 100]⟩, ⟨#[120, 121, 122]⟩, ⟨#[113]⟩, ⟨#[122, 122]⟩]) HB.out H.out 5 1 (by decide) rfl rfl (by decide) rfl (by decide) (HR.out.less (by have := HP.out; omega))).mono ?_
                  rintro e w26 ⟨s26, c26, rfl, _, hrd, h1⟩
                  refine ⟨_, rfl, ?_⟩
                  have HR1 := Az.mk hrd
                  have H1 := Az.mk h1
                  clear hrd h1
                  clear H HR; have H := H1; have HR := HR1; clear H1 HR1
                  refine hK.out _ _ ?_ (fun hHeld => ?_)
                  · exact H.out.sel [] _ (by decide) rfl
                  clear hK K hHeld
                  refine zP 4 (some 28) (bm 7 63) ?_
                  refine norm_ ?_ (hcont (gn, s26, gB, cB, g7) _ ⟨_, _, _, ⟨HR.out.less (by omega)⟩, O, V, ⟨H.out.sel [0, 3, 2, 4, 5, 6] _ (by decide) rfl⟩⟩)
                  simp only [putAll, Act.put, zs1, zs2, zs3]
                  rfl
              · intro K hK
                refine H.out.bx_ (by rfl) (#[.string ⟨#[]⟩, .slice none 0 0]) 65 ?hr ?_
                (case hr => first | (go_simp; done) | (go_simp; rfl))
                intro g7 w7 H1
                clear H; have H := H1; clear H1
                refine hK.out _ _ ?_ (fun hHeld => ?_)
                · exact H.out.sel [] _ (by decide) rfl
                clear hK K hHeld
                refine one_ (i := 1) (N := some 25) (bm 7 43) rfl rfl (by kernel_rfl) (by decide) (fun K hK => ?_)
                refine H.out.lit_ (by rfl) (#[.string ⟨#[97]⟩, .string ⟨#[98]⟩, .string ⟨#[99, 100]⟩, .string ⟨#[120, 121, 122]⟩, .string ⟨#[113]⟩, .string ⟨#[122, 122]⟩]) 9 6 ?hr ?_
                (case hr => first | (go_simp; done) | (go_simp; rfl))
                intro gn w25 H1
                clear H; have H := H1; clear H1
                refine hK.out _ _ ?_ (fun hHeld => ?_)
                · exact H.out.sel [] _ (by decide) rfl
                clear hK K hHeld
                refine one_ (i := 2) (N := some 26) (bm 7 47) rfl rfl (by kernel_rfl) (by decide) (fun K hK => ?_)
                refine goes_ Try.func114 (by kernel_rfl) rfl #[.pointer (some ⟨g, 0, none⟩), .slice (some ⟨gn, 0, none⟩) 6 6] (by rfl) rfl rfl (by (try simp only [List.map_toArray, List.map_cons, List.map_nil]); first | done | rfl) ?_
                refine (of_callq (m := m + 500 * (n6 - 1) + 498) (l := [⟨#[97]⟩, ⟨#[98]⟩, ⟨#[99, 100]⟩, ⟨#[120, 121, 122]⟩, ⟨#[113]⟩, ⟨#[122, 122]⟩]) HB.out H.out 5 0 (by decide) rfl rfl (by decide) rfl (by decide) (HR.out.less (by have := HP.out; omega))).mono ?_
                rintro e w26 ⟨s26, c26, rfl, _, hrd, h1⟩
                refine ⟨_, rfl, ?_⟩
                have HR1 := Az.mk hrd
                have H1 := Az.mk h1
                clear hrd h1
                clear H HR; have H := H1; have HR := HR1; clear H1 HR1
                refine hK.out _ _ ?_ (fun hHeld => ?_)
                · exact H.out.sel [] _ (by decide) rfl
                clear hK K hHeld
                refine zP 4 (some 28) (bm 7 63) ?_
                refine norm_ ?_ (hcont (gn, s26, gB, cB, g7) _ ⟨_, _, _, ⟨HR.out.less (by omega)⟩, O, V, ⟨H.out.sel [1, 3, 2, 4, 5, 6] _ (by decide) rfl⟩⟩)
                simp only [putAll, Act.put, zs1, zs2, zs3]
                rfl
            · intro K hK
              refine H.out.bx_ (by rfl) (#[.string ⟨#[]⟩, .slice none 0 0]) 65 ?hr ?_
              (case hr => first | (go_simp; done) | (go_simp; rfl))
              intro g7 w7 H1
              clear H; have H := H1; clear H1
              refine hK.out _ _ ?_ (fun hHeld => ?_)
              · exact H.out.sel [] _ (by decide) rfl
              clear hK K hHeld
              refine two_ (i := 1) (j := 3) (Ni := some 25) (Nj := some 27) (bm 7 35) (bm 7 41) rfl rfl rfl rfl (by kernel_rfl) (by decide) (by decide) ?_ ?_
              · intro K hK
                refine H.out.lit_ (by rfl) (#[.string ⟨#[97]⟩, .string ⟨#[98]⟩, .string ⟨#[99, 100]⟩, .string ⟨#[120, 121, 122]⟩, .string ⟨#[113]⟩, .string ⟨#[122, 122]⟩]) 9 6 ?hr ?_
                (case hr => first | (go_simp; done) | (go_simp; rfl))
                intro gn w25 H1
                clear H; have H := H1; clear H1
                refine hK.out _ _ ?_ (fun hHeld => ?_)
                · exact H.out.sel [] _ (by decide) rfl
                clear hK K hHeld
                refine two_ (i := 2) (j := 3) (Ni := some 26) (Nj := some 27) (bm 7 39) (bm 7 43) rfl rfl rfl rfl (by kernel_rfl) (by decide) (by decide) ?_ ?_
                · intro K hK
                  refine goes_ Try.func114 (by kernel_rfl) rfl #[.pointer (some ⟨g, 0, none⟩), .slice (some ⟨gn, 0, none⟩) 6 6] (by rfl) rfl rfl (by (try simp only [List.map_toArray, List.map_cons, List.map_nil]); first | done | rfl) ?_
                  refine (of_callq (m := m + 500 * (n6 - 1) + 498) (l := [⟨#[97]⟩, ⟨#[98]⟩, ⟨#[99, 100]⟩, ⟨#[120, 121, 122]⟩, ⟨#[113]⟩, ⟨#[122, 122]⟩]) HB.out H.out 5 0 (by decide) rfl rfl (by decide) rfl (by decide) (HR.out.less (by have := HP.out; omega))).mono ?_
                  rintro e w26 ⟨s26, c26, rfl, _, hrd, h1⟩
                  refine ⟨_, rfl, ?_⟩
                  have HR1 := Az.mk hrd
                  have H1 := Az.mk h1
                  clear hrd h1
                  clear H HR; have H := H1; have HR := HR1; clear H1 HR1
                  refine hK.out _ _ ?_ (fun hHeld => ?_)
                  · exact H.out.sel [] _ (by decide) rfl
                  clear hK K hHeld
                  refine one_ (i := 3) (N := some 27) (bm 7 47) rfl rfl (by kernel_rfl) (by decide) (fun K hK => ?_)
                  refine H.out.make29_ 3 rfl (by rfl) rfl rfl ?_
                  intro gB cB w27 H1 hup V
                  have O1 := Az.mk (R_up O.out hup)
                  clear hup
                  clear H O; have H := H1; have O := O1; clear H1 O1
                  refine hK.out _ _ ?_ (fun hHeld => ?_)
                  · exact H.out.sel [] _ (by decide) rfl
                  clear hK K hHeld
                  refine zP 4 (some 28) (bm 7 63) ?_
                  refine norm_ ?_ (hcont (gn, s26, gB, cB, g7) _ ⟨_, _, _, ⟨HR.out.less (by omega)⟩, O, V, ⟨H.out.sel [1, 3, 2, 4, 5, 6] _ (by decide) rfl⟩⟩)
                  simp only [putAll, Act.put, zs1, zs2, zs3]
                  rfl
                · intro K hK
                  refine H.out.make29_ 3 rfl (by rfl) rfl rfl ?_
                  intro gB cB w27 H1 hup V
                  have O1 := Az.mk (R_up O.out hup)
                  clear hup
                  clear H O; have H := H1; have O := O1; clear H1 O1
                  refine hK.out _ _ ?_ (fun hHeld => ?_)
                  · exact H.out.sel [] _ (by decide) rfl
                  clear hK K hHeld
                  refine one_ (i := 2) (N := some 26) (bm 7 47) rfl rfl (by kernel_rfl) (by decide) (fun K hK => ?_)
                  refine goes_ Try.func114 (by kernel_rfl) rfl #[.pointer (some ⟨g, 0, none⟩), .slice (some ⟨gn, 0, none⟩) 6 6] (by rfl) rfl rfl (by (try simp only [List.map_toArray, List.map_cons, List.map_nil]); first | done | rfl) ?_
                  refine (of_callq (m := m + 500 * (n6 - 1) + 498) (l := [⟨#[97]⟩, ⟨#[98]⟩, ⟨#[99, 100]⟩, ⟨#[120, 121, 122]⟩, ⟨#[113]⟩, ⟨#[122, 122]⟩]) HB.out H.out 5 0 (by decide) rfl rfl (by decide) rfl (by decide) (HR.out.less (by have := HP.out; omega))).mono ?_
                  rintro e w26 ⟨s26, c26, rfl, _, hrd, h1⟩
                  refine ⟨_, rfl, ?_⟩
                  have HR1 := Az.mk hrd
                  have H1 := Az.mk h1
                  clear hrd h1
                  clear H HR; have H := H1; have HR := HR1; clear H1 HR1
                  refine hK.out _ _ ?_ (fun hHeld => ?_)
                  · exact H.out.sel [] _ (by decide) rfl
                  clear hK K hHeld
                  refine zP 4 (some 28) (bm 7 63) ?_
                  refine norm_ ?_ (hcont (gn, s26, gB, cB, g7) _ ⟨_, _, _, ⟨HR.out.less (by omega)⟩, O, V, ⟨H.out.sel [1, 3, 2, 4, 5, 6] _ (by decide) rfl⟩⟩)
                  simp only [putAll, Act.put, zs1, zs2, zs3]
                  rfl
              · intro K hK
                refine H.out.make29_ 2 rfl (by rfl) rfl rfl ?_
                intro gB cB w27 H1 hup V
                have O1 := Az.mk (R_up O.out hup)
                clear hup
                clear H O; have H := H1; have O := O1; clear H1 O1
                refine hK.out _ _ ?_ (fun hHeld => ?_)
                · exact H.out.sel [] _ (by decide) rfl
                clear hK K hHeld
                refine one_ (i := 1) (N := some 25) (bm 7 43) rfl rfl (by kernel_rfl) (by decide) (fun K hK => ?_)
                refine H.out.lit_ (by rfl) (#[.string ⟨#[97]⟩, .string ⟨#[98]⟩, .string ⟨#[99, 100]⟩, .string ⟨#[120, 121, 122]⟩, .string ⟨#[113]⟩, .string ⟨#[122, 122]⟩]) 9 6 ?hr ?_
                (case hr => first | (go_simp; done) | (go_simp; rfl))
                intro gn w25 H1
                clear H; have H := H1; clear H1
                refine hK.out _ _ ?_ (fun hHeld => ?_)
                · exact H.out.sel [] _ (by decide) rfl
                clear hK K hHeld
                refine one_ (i := 2) (N := some 26) (bm 7 47) rfl rfl (by kernel_rfl) (by decide) (fun K hK => ?_)
                refine goes_ Try.func114 (by kernel_rfl) rfl #[.pointer (some ⟨g, 0, none⟩), .slice (some ⟨gn, 0, none⟩) 6 6] (by rfl) rfl rfl (by (try simp only [List.map_toArray, List.map_cons, List.map_nil]); first | done | rfl) ?_
                refine (of_callq (m := m + 500 * (n6 - 1) + 498) (l := [⟨#[97]⟩, ⟨#[98]⟩, ⟨#[99, 100]⟩, ⟨#[120, 121, 122]⟩, ⟨#[113]⟩, ⟨#[122, 122]⟩]) HB.out H.out 5 0 (by decide) rfl rfl (by decide) rfl (by decide) (HR.out.less (by have := HP.out; omega))).mono ?_
                rintro e w26 ⟨s26, c26, rfl, _, hrd, h1⟩
                refine ⟨_, rfl, ?_⟩
                have HR1 := Az.mk hrd
                have H1 := Az.mk h1
                clear hrd h1
                clear H HR; have H := H1; have HR := HR1; clear H1 HR1
                refine hK.out _ _ ?_ (fun hHeld => ?_)
                · exact H.out.sel [] _ (by decide) rfl
                clear hK K hHeld
                refine zP 4 (some 28) (bm 7 63) ?_
                refine norm_ ?_ (hcont (gn, s26, gB, cB, g7) _ ⟨_, _, _, ⟨HR.out.less (by omega)⟩, O, V, ⟨H.out.sel [1, 3, 2, 4, 5, 6] _ (by decide) rfl⟩⟩)
                simp only [putAll, Act.put, zs1, zs2, zs3]
                rfl
        case rest =>
          clear H O HR
          obtain ⟨g7, gB, cB, s7, l, S, wo, c, rfl, HL, HR, O, V, H⟩ := hcut
          obtain ⟨wc5, hwc⟩ : ∃ x, x = wc := ⟨_, rfl⟩
          rw [← hwc] at H ⊢
          clear hwc wc
          go_upto_if 33 with (first | ((with_reducible refine zqg (N := 29) rfl ?_); refine H.out.ld_row 2 rfl rfl rfl rfl Try.underlying57 rfl hs57 ?_; (try simp only [Act.put, zs1, zs2, zs3])) | ((with_reducible refine zqg (N := 31) rfl ?_); refine H.out.ld_cell 0 rfl 0 (v := .string s7) rfl rfl rfl rfl Try.underlying9 rfl ?_; (try simp only [Act.put, zs1, zs2, zs3])) | (go_at_call 115; have _tk := tk0; refine (find_callq' H.out 1 rfl HDN.out O.out (by have := HLE.out; omega) (r15 : Int) s7).mono ?_; rintro e w32 ⟨r32, rfl, hb⟩; have H1 := Az.mk (H.out.step hb); clear hb; clear H; have H := H1; clear H1; clear tk0 _tk; have tk1 : True := trivial))
          (try simp only [Act.put, zs1, zs2, zs3])
          go_wp2
          · skip
            go_roundg k1
            case measure => omega
            case rel => exact ⟨n6 - 1, A5, c5, dn, D, _, _, _, by have := HP.out; have := HN.out; rw [wrap_ok (by omega)]; congr 1; omega, ⟨by have := HP.out; have := HN.out; omega⟩, ⟨by have := HLE.out; omega⟩, HDN, HD, ⟨HR.out.less (by omega)⟩, O, ⟨H.out.sel [2, 1, 3, 4, 5] _ (by decide) rfl⟩⟩
          · skip
            go_loopg [8] 3 (fun kq v8 w' => ∃ (k : Nat) (D : List S65) (l : List S29) (S : Nat → Prop) (wo : World) (c : Array Value), v8 = .int .i64 (k : Int) ∧ Az (k + kq = 3) ∧ Az (D.length + n6 ≤ 4) ∧ Az (D.length = dn) ∧ Az (GV D) ∧ Az (GB l) ∧ Az (Rdr w0 b (m + 500 * (n6 - 1) + 100 * (3 - k)) c) ∧ Az (r65.R 65 wo w0.heap.size S (.slice A5 dn c5) D) ∧ Az (q29.R 29 wo w0.heap.size S (.slice (some ⟨gB, 0, none⟩) 3 cB) l) ∧ Az (Hq w0.heap.size w w' [.box g7 (#[.string s7, .slice (some ⟨gB, 0, none⟩) 3 cB]) 65, .set S wo, .box g5 (#[.int .i64 (r15 : Int), .slice A5 dn c5]) 57, .box g4 (#[.int .i64 0, .slice none 0 0]) 57, .box g c 113, .set (fun k => k ≠ g ∧ w0.heap.size ≤ k ∧ k < w.heap.size) w]))
            case atStart => exact ⟨0, D, l, _, _, _, rfl, ⟨rfl⟩, HLE, HDN, HD, HL, ⟨HR.out.less (by omega)⟩, O, V, ⟨H.out.sel [0, 1, 2, 3, 4, 5] _ (by decide) rfl⟩⟩
            case round =>
              clear H HR O V HD HDN HLE HL
              obtain ⟨k, D, l, S, wo, c, rfl, HK, HLE, HDN, HD, HL, HR, O, V, H⟩ := hrel
              have tk0 : True := trivial
              by_cases hk : (k : Int) < 3
              · have c35 : decide ((k : Int) < 3) = true := decide_eq_true hk
                have c35n : decide (k < 3) = true := decide_eq_true (by omega)
                have HK3 := Az.mk (show k < 3 by omega)
                clear hk
                obtain ⟨gk8, hg8⟩ : ∃ x, x = gk := ⟨_, rfl⟩
                subst hg8
                go_wp2_with (first | (go_at_call 94; have _tk := tk0; refine (ptr_callq (m := m + 500 * (n6 - 1) + 100 * (2 - k) + 10) HNN.out HB.out H.out 4 1 (by decide) rfl rfl (HR.out.less (by have := HK3.out; omega))).mono ?_; rintro e w40 ⟨y40, v40, c40, rfl, hy, hq, hrd, h1, hup⟩; obtain ⟨A40, d40, rfl, _⟩ := Kd.Q_slice hq; have HY := Az.mk hy; have P9 := Az.mk hq; have HR1 := Az.mk hrd; have H1 := Az.mk h1; have O1 := Az.mk (R_up O.out hup); have V1 := Az.mk (R_up V.out hup); clear hy hq hrd h1 hup; clear H HR O V; have H := H1; have HR := HR1; have O := O1; have V := V1; clear H1 HR1 O1 V1; clear tk0 _tk; have tk1 : True := trivial) | ((with_reducible refine zqg (N := 9) rfl ?_); refine H.out.bx rfl (#[.int .i64 0, .int .i64 0, .slice none 0 0]) 29 ?hr ?_; (case hr => first | (go_simp; done) | (go_simp; rfl)); intro g9 w9 H1; clear H; have H := H1; clear H1; (try simp only [Act.put, zs1, zs2, zs3])) | ((with_reducible refine gate_store (t := 29) (p := 9) rfl ?_); refine H.out.st_row 0 rfl rfl (x := .tmp 9) (y := .tmp 40) rfl rfl rfl (#[.int .i64 y40.f0, .int .i64 y40.f1, .slice A40 y40.f2.length d40]) rfl hs29 rfl (by simp [Value.oneCell']) ?_; intro ws10 H1; clear H; have H := H1; clear H1) | (go_at_call 65; have _tk := tk1; refine (pick_callq (m := m + 500 * (n6 - 1) + 100 * (2 - k) + 9) HB.out H.out 5 rfl (HR.out.less (by omega)) (3) (by omega)).mono ?_; rintro e w42 ⟨r42, c42, rfl, hr42, hrd, h1⟩; have HR1 := Az.mk hrd; have H1 := Az.mk h1; have hz42 := eq_true (Int.natCast_nonneg r42); clear hrd h1; clear H HR; have H := H1; have HR := HR1; clear H1 HR1; clear tk1 _tk; have tk2 : True := trivial) | ((with_reducible refine zqg (N := 44) rfl ?_); refine H.out.ld_row 3 rfl rfl rfl rfl Try.underlying57 rfl hs57 ?_; (try simp only [Act.put, zs1, zs2, zs3])) | (go_at_call 86; have _tk := tk2; refine (all_callq' H.out 2 rfl HDN.out O.out (by have := HLE.out; omega) HD.out (r15 : Int)).mono ?_; rintro e w45 ⟨v45, rfl, hal, h1, hup⟩; obtain ⟨A45, d45, rfl⟩ := Kd.R_slice hal; have AL := Az.mk hal; have H1 := Az.mk h1; have O1 := Az.mk (R_up O.out hup); have V1 := Az.mk (R_up V.out hup); have P91 := Az.mk (Q_up P9.out hup); clear hal h1 hup; clear H O V P9; have H := H1; have O := O1; have V := V1; have P9 := P91; clear H1 O1 V1 P91; clear tk2 _tk; have tk3 : True := trivial))
                obtain ⟨S9, wo9, AL, P9, O, V, H⟩ : ∃ (S9 : Nat → Prop) (wo9 : World), Az (q29.R 29 wo9 w0.heap.size S9 (.slice A45 (ptrs D).length d45) (ptrs D)) ∧ Az (k37.Q 37 wo9 w0.heap.size S9 (.slice A40 y40.f2.length d40) y40.f2) ∧ Az (r65.R 65 wo9 w0.heap.size S9 (.slice A5 dn c5) D) ∧ Az (q29.R 29 wo9 w0.heap.size S9 (.slice (some ⟨gB, 0, none⟩) 3 cB) l) ∧ Az (Hq w0.heap.size w w45 [.box g9 (#[.int .i64 y40.f0, .int .i64 y40.f1, .slice A40 y40.f2.length d40]) 29, .set S9 wo9, .box g7 (#[.string s7, .slice (some ⟨gB, 0, none⟩) 3 cB]) 65, .box g5 (#[.int .i64 (r15 : Int), .slice A5 dn c5]) 57, .box g4 (#[.int .i64 0, .slice none 0 0]) 57, .box g c42 113, .set (fun k => k ≠ g ∧ w0.heap.size ≤ k ∧ k < w.heap.size) w]) := ⟨_, _, AL, P9, O, V, ⟨H.out.sel [0, 2, 1, 3, 4, 5, 6] _ (by decide) rfl⟩⟩
                go_loopg [10, 12] (ptrs D).length (fun kq v10 v12 w' => ∃ (q : Bool) (i : Nat), v10 = .bool q ∧ v12 = .int .i64 (i : Int) ∧ Az (i + kq = (ptrs D).length) ∧ Az (Hq w0.heap.size w w' [.box g9 (#[.int .i64 y40.f0, .int .i64 y40.f1, .slice A40 y40.f2.length d40]) 29, .set S9 wo9, .box g7 (#[.string s7, .slice (some ⟨gB, 0, none⟩) 3 cB]) 65, .box g5 (#[.int .i64 (r15 : Int), .slice A5 dn c5]) 57, .box g4 (#[.int .i64 0, .slice none 0 0]) 57, .box g (c42) 113, .set (fun k => k ≠ g ∧ w0.heap.size ≤ k ∧ k < w.heap.size) w]))
                case atStart => exact ⟨_, 0, rfl, rfl, ⟨Nat.zero_add _⟩, ⟨H.out.sel [0, 1, 2, 3, 4, 5, 6] _ (by decide) rfl⟩⟩
                case round =>
                  clear H
                  obtain ⟨q, i, rfl, rfl, HI, H⟩ := hrel
                  by_cases hi : i < (ptrs D).length
                  · have c49 : decide ((i : Int) < ((ptrs D).length : Int)) = true := decide_eq_true (by omega)
                    have c49n : decide (i < (ptrs D).length) = true := decide_eq_true (by omega)
                    have p1 := eq_true (show (0 : Int) ≤ (i : Int) by omega)
                    have q1 := eq_true (show (i : Int) < ((ptrs D).length : Int) by omega)
                    have HE := Az.mk hi
                    obtain ⟨ga, A58, d58, eA, hs58, hx0, hx1, hx2, hq58⟩ := elem29 AL.out hi
                    subst eA
                    have HWi : Az (wrap64 ((i : Int) + 1) = ((i + 1 : Nat) : Int)) := ⟨by have := ptrs_small HD.out; have := HLE.out; rw [wrap_ok (by omega)]; omega⟩
                    obtain ⟨z, hz⟩ : ∃ z, z = (ptrs D).getD i z29 := ⟨_, rfl⟩
                    rw [← hz] at hx0 hx1 hx2 hq58
                    have hz5 : z.f2.length ≤ 5 := by rw [hz]; exact ptrs_five HD.out hi
                    have hs58 := Az.mk hs58
                    have hx0 := Az.mk hx0
                    have hx1 := Az.mk hx1
                    have hx2 := Az.mk hx2
                    have hq58 := Az.mk hq58
                    clear hi hz
                    obtain ⟨gk9, hg9⟩ : ∃ x, x = gk := ⟨_, rfl⟩
                    subst hg9
                    cases q with
                    | false =>
                      go_wp2
                      refine start_ (n := 11) (S := fun w' => Hq w0.heap.size w w' []) (ds := []) (bm 11 0) (by kernel_rfl) rfl rfl (H.out.drew.sel [] _ (by decide) rfl) (fun hHeld => ?_)
                      have H1 := Az.mk H.out.drew
                      clear H; have H := H1; clear H1
                      generalize World.drew wr = wd16 at hHeld H ⊢
                      refine zP 0 (some 52) (bm 11 1) ?_
                      refine zP 1 (some 53) (bm 11 3) ?_
                      refine zO 2 (some 54) (bm 11 7) ?_
                      refine zO 3 (some 55) (bm 11 15) ?_
                      refine zO 4 (some 56) (bm 11 31) ?_
                      refine zO 5 (some 57) (bm 11 63) ?_
                      refine zO 6 (some 58) (bm 11 127) ?_
                      refine zO 7 (some 59) (bm 11 255) ?_
                      refine zO 8 (some 60) (bm 11 511) ?_
                      refine zP 9 (some 61) (bm 11 1023) ?_
                      refine zP 10 (some 10) (bm 11 2047) ?_
                      refine done_ (by kernel_rfl) ?_
                      go_wp2
                      go_roundg ((ptrs D).length - (i + 1))
                      case measure => have := HI.out; have := HE.out; omega
                      case rel => exact ⟨_, i + 1, rfl, by rw [← HWi.out], ⟨by have := HE.out; omega⟩, ⟨H.out.sel [0, 1, 2, 3, 4, 5, 6] _ (by decide) rfl⟩⟩
                    | true =>
                      go_wp2
                      refine start_ (n := 11) (S := fun w' => Hq w0.heap.size w w' [.box g9 (#[.int .i64 y40.f0, .int .i64 y40.f1, .slice A40 y40.f2.length d40]) 29, .set S9 wo9]) (ds := []) (bm 11 0) (by kernel_rfl) rfl rfl (H.out.drew.sel [0, 1] _ (by decide) rfl) (fun hHeld => ?_)
                      have H1 := Az.mk H.out.drew
                      clear H; have H := H1; clear H1
                      generalize World.drew wr = wd16 at hHeld H ⊢
                      refine zP 0 (some 52) (bm 11 1) ?_
                      refine zP 1 (some 53) (bm 11 3) ?_
                      refine zqt (i := 2) (N := some 54) (v := .agg (#[.int .i64 y40.f0, .int .i64 y40.f1, .slice A40 y40.f2.length d40])) (a' := ?_) (bm 11 7) rfl rfl (by kernel_rfl) (fun _ _ _ h => h) (Or.inl ⟨by rfl, fun w' s0 => s0.run_row 0 rfl rfl rfl Try.underlying29 rfl hs29⟩) hHeld ?_ ?_
                      rotate_left
                      · simp only [Act.put, zs1, zs2, zs3, i64_w, i32_w]
                        rfl
                      refine zP 3 (some 55) (bm 11 15) ?_
                      refine zP 4 (some 56) (bm 11 31) ?_
                      refine zP 5 (some 57) (bm 11 63) ?_
                      refine zqt (i := 6) (N := some 58) (v := .agg #[.int .i64 z.f0, .int .i64 z.f1, .slice A58 z.f2.length d58]) (a' := ?_) (bm 11 127) rfl rfl (by kernel_rfl) (fun _ _ _ h => h) (Or.inl ⟨by rfl, fun w' s0 => run_ld29 (s0.cell 1 rfl hs58.out hx0.out) (s0.cell 1 rfl hs58.out hx1.out) (s0.cell 1 rfl hs58.out hx2.out) rfl rfl⟩) hHeld ?_ ?_
                      rotate_left
                      · simp only [Act.put, zs1, zs2, zs3, i64_w, i32_w]
                        rfl
                      refine one_ (i := 7) (N := some 59) (bm 11 255) rfl rfl (by kernel_rfl) (by decide) (fun K hK => ?_)
                      refine goes_ Try.func87 (by kernel_rfl) rfl #[.agg (#[.int .i64 y40.f0, .int .i64 y40.f1, .slice A40 y40.f2.length d40]), .agg #[.int .i64 z.f0, .int .i64 z.f1, .slice A58 z.f2.length d58]] (by rfl) rfl rfl (by (try simp only [List.map_toArray, List.map_cons, List.map_nil]); first | done | rfl) ?_
                      refine (meet_callq H.out 1 rfl P9.out hq58.out HY.out hz5).mono ?_
                      rintro e w59 ⟨r59, rfl, hb⟩
                      refine ⟨_, rfl, ?_⟩
                      have H1 := Az.mk (H.out.step hb)
                      clear hb
                      clear H; have H := H1; clear H1
                      refine hK.out _ _ (H.out.sel [0, 1] _ (by decide) rfl) (fun hHeld => ?_)
                      clear hK K
                      refine norm_ (a' := ?_) ?_ ?_
                      rotate_left
                      · show Act.put _ (some 59) _ = _
                        simp only [Act.put, zs1, zs2, zs3, i64_w, i32_w]
                        rfl
                      refine zP 8 (some 60) (bm 11 511) ?_
                      refine zP 9 (some 61) (bm 11 1023) ?_
                      refine zP 10 (some 10) (bm 11 2047) ?_
                      refine done_ (by kernel_rfl) ?_
                      go_wp2
                      go_roundg ((ptrs D).length - (i + 1))
                      case measure => have := HI.out; have := HE.out; omega
                      case rel => exact ⟨_, i + 1, rfl, by rw [← HWi.out], ⟨by have := HE.out; omega⟩, ⟨H.out.sel [0, 1, 2, 3, 4, 5, 6] _ (by decide) rfl⟩⟩
                  · have c49 : decide ((i : Int) < ((ptrs D).length : Int)) = false := decide_eq_false (by omega)
                    have c49n : decide (i < (ptrs D).length) = false := decide_eq_false (by omega)
                    clear hi HI
                    go_wp2
                    go_loopg [10, 13] k (fun kq v10 v13 w' => ∃ (q : Bool) (i : Nat), v10 = .bool q ∧ v13 = .int .i64 (i : Int) ∧ Az (i + kq = k) ∧ Az (Hq w0.heap.size w w' [.box g9 (#[.int .i64 y40.f0, .int .i64 y40.f1, .slice A40 y40.f2.length d40]) 29, .set S9 wo9, .box g7 (#[.string s7, .slice (some ⟨gB, 0, none⟩) 3 cB]) 65, .box g5 (#[.int .i64 (r15 : Int), .slice A5 dn c5]) 57, .box g4 (#[.int .i64 0, .slice none 0 0]) 57, .box g (c42) 113, .set (fun k => k ≠ g ∧ w0.heap.size ≤ k ∧ k < w.heap.size) w]))
                    case atStart => exact ⟨_, 0, rfl, rfl, ⟨Nat.zero_add _⟩, H⟩
                    case round =>
                      clear H c49 c49n
                      obtain ⟨q, i, rfl, rfl, HI, H⟩ := hrel
                      by_cases hi : i < k
                      · have c64 : decide ((i : Int) < (k : Int)) = true := decide_eq_true (by omega)
                        have c64n : decide (i < k) = true := decide_eq_true (by omega)
                        have p1 := eq_true (show (0 : Int) ≤ (i : Int) by omega)
                        have q1 := eq_true (show (i : Int) < (3 : Int) by have := HK3.out; omega)
                        have HE := Az.mk hi
                        obtain ⟨ga, A74, d74, eA, hs74, hx0, hx1, hx2, hq74⟩ := elem29 V.out (i := i) (by have := HL.out.1; have := HK3.out; omega)
                        cases eA
                        have HWi : Az (wrap64 ((i : Int) + 1) = ((i + 1 : Nat) : Int)) := ⟨by have := HK3.out; rw [wrap_ok (by omega)]; omega⟩
                        obtain ⟨z, hz⟩ : ∃ z, z = l.getD i z29 := ⟨_, rfl⟩
                        rw [← hz] at hx0 hx1 hx2 hq74
                        have hz5 : z.f2.length ≤ 5 := by rw [hz]; exact HL.out.2 _ (getD_mem (by have := HL.out.1; have := HK3.out; omega))
                        have hs74 := Az.mk hs74
                        have hx0 := Az.mk hx0
                        have hx1 := Az.mk hx1
                        have hx2 := Az.mk hx2
                        have hq74 := Az.mk hq74
                        clear hi hz
                        obtain ⟨gk9, hg9⟩ : ∃ x, x = gk := ⟨_, rfl⟩
                        subst hg9
                        cases q with
                        | false =>
                          go_wp2
                          refine start_ (n := 12) (S := fun w' => Hq w0.heap.size w w' []) (ds := []) (bm 12 0) (by kernel_rfl) rfl rfl (H.out.drew.sel [] _ (by decide) rfl) (fun hHeld => ?_)
                          have H1 := Az.mk H.out.drew
                          clear H; have H := H1; clear H1
                          generalize World.drew wr = wd20 at hHeld H ⊢
                          refine zP 0 (some 67) (bm 12 1) ?_
                          refine zP 1 (some 68) (bm 12 3) ?_
                          refine zO 2 (some 69) (bm 12 7) ?_
                          refine zO 3 (some 70) (bm 12 15) ?_
                          refine zO 4 (some 71) (bm 12 31) ?_
                          refine zO 5 (some 72) (bm 12 63) ?_
                          refine zO 6 (some 73) (bm 12 127) ?_
                          refine zO 7 (some 74) (bm 12 255) ?_
                          refine zO 8 (some 75) (bm 12 511) ?_
                          refine zO 9 (some 76) (bm 12 1023) ?_
                          refine zP 10 (some 77) (bm 12 2047) ?_
                          refine zP 11 (some 10) (bm 12 4095) ?_
                          refine done_ (by kernel_rfl) ?_
                          go_wp2
                          go_roundg (k - (i + 1))
                          case measure => have := HI.out; have := HE.out; omega
                          case rel => exact ⟨_, i + 1, rfl, by rw [← HWi.out], ⟨by have := HE.out; omega⟩, ⟨H.out.sel [0, 1, 2, 3, 4, 5, 6] _ (by decide) rfl⟩⟩
                        | true =>
                          go_wp2
                          refine start_ (n := 12) (S := fun w' => Hq w0.heap.size w w' [.box g9 (#[.int .i64 y40.f0, .int .i64 y40.f1, .slice A40 y40.f2.length d40]) 29, .set S9 wo9, .box g7 (#[.string s7, .slice (some ⟨gB, 0, none⟩) 3 cB]) 65]) (ds := []) (bm 12 0) (by kernel_rfl) rfl rfl (H.out.drew.sel [0, 1, 2] _ (by decide) rfl) (fun hHeld => ?_)
                          have H1 := Az.mk H.out.drew
                          clear H; have H := H1; clear H1
                          generalize World.drew wr = wd20 at hHeld H ⊢
                          refine zP 0 (some 67) (bm 12 1) ?_
                          refine zP 1 (some 68) (bm 12 3) ?_
                          refine zqt (i := 2) (N := some 69) (v := .agg (#[.int .i64 y40.f0, .int .i64 y40.f1, .slice A40 y40.f2.length d40])) (a' := ?_) (bm 12 7) rfl rfl (by kernel_rfl) (fun _ _ _ h => h) (Or.inl ⟨by rfl, fun w' s0 => s0.run_row 0 rfl rfl rfl Try.underlying29 rfl hs29⟩) hHeld ?_ ?_
                          rotate_left
                          · simp only [Act.put, zs1, zs2, zs3, i64_w, i32_w]
                            rfl
                          refine zP 3 (some 70) (bm 12 15) ?_
                          refine zqt (i := 4) (N := some 71) (v := .slice (some ⟨gB, 0, none⟩) 3 cB) (a' := ?_) (bm 12 31) rfl rfl (by kernel_rfl) (fun _ _ _ h => h) (Or.inl ⟨by rfl, fun w' s0 => s0.run_cell 2 rfl 1 rfl rfl rfl Try.underlying63 rfl⟩) hHeld ?_ ?_
                          rotate_left
                          · simp only [Act.put, zs1, zs2, zs3, i64_w, i32_w]
                            rfl
                          refine zP 5 (some 72) (bm 12 63) ?_
                          refine zP 6 (some 73) (bm 12 127) ?_
                          refine zqt (i := 7) (N := some 74) (v := .agg #[.int .i64 z.f0, .int .i64 z.f1, .slice A74 z.f2.length d74]) (a' := ?_) (bm 12 255) rfl rfl (by kernel_rfl) (fun _ _ _ h => h) (Or.inl ⟨by rfl, fun w' s0 => run_ld29 (s0.cell 1 rfl hs74.out hx0.out) (s0.cell 1 rfl hs74.out hx1.out) (s0.cell 1 rfl hs74.out hx2.out) rfl rfl⟩) hHeld ?_ ?_
                          rotate_left
                          · simp only [Act.put, zs1, zs2, zs3, i64_w, i32_w]
                            rfl
                          refine one_ (i := 8) (N := some 75) (bm 12 511) rfl rfl (by kernel_rfl) (by decide) (fun K hK => ?_)
                          refine goes_ Try.func87 (by kernel_rfl) rfl #[.agg (#[.int .i64 y40.f0, .int .i64 y40.f1, .slice A40 y40.f2.length d40]), .agg #[.int .i64 z.f0, .int .i64 z.f1, .slice A74 z.f2.length d74]] (by rfl) rfl rfl (by (try simp only [List.map_toArray, List.map_cons, List.map_nil]); first | done | rfl) ?_
                          refine (meet_callq H.out 1 rfl P9.out hq74.out HY.out hz5).mono ?_
                          rintro e w75 ⟨r75, rfl, hb⟩
                          refine ⟨_, rfl, ?_⟩
                          have H1 := Az.mk (H.out.step hb)
                          clear hb
                          clear H; have H := H1; clear H1
                          refine hK.out _ _ (H.out.sel [0, 1, 2] _ (by decide) rfl) (fun hHeld => ?_)
                          clear hK K
                          refine norm_ (a' := ?_) ?_ ?_
                          rotate_left
                          · show Act.put _ (some 75) _ = _
                            simp only [Act.put, zs1, zs2, zs3, i64_w, i32_w]
                            rfl
                          refine zP 9 (some 76) (bm 12 1023) ?_
                          refine zP 10 (some 77) (bm 12 2047) ?_
                          refine zP 11 (some 10) (bm 12 4095) ?_
                          refine done_ (by kernel_rfl) ?_
                          go_wp2
                          go_roundg (k - (i + 1))
                          case measure => have := HI.out; have := HE.out; omega
                          case rel => exact ⟨_, i + 1, rfl, by rw [← HWi.out], ⟨by have := HE.out; omega⟩, ⟨H.out.sel [0, 1, 2, 3, 4, 5, 6] _ (by decide) rfl⟩⟩
                      · have c64 : decide ((i : Int) < (k : Int)) = false := decide_eq_false (by omega)
                        have c64n : decide (i < k) = false := decide_eq_false (by omega)
                        clear hi HI
                        have HWk : Az (wrap64 ((k : Int) + 1) = ((k + 1 : Nat) : Int)) := ⟨by have := HK3.out; rw [wrap_ok (by omega)]; omega⟩
                        have tk0 : True := trivial
                        have p1 := eq_true (show (0 : Int) ≤ (k : Int) by omega)
                        have q1 := eq_true (show (k : Int) < (3 : Int) by have := HK3.out; omega)
                        have HG8 := Az.mk HK.out
                        cases q with
                        | true =>
                          go_wp2_with (first | ((with_reducible refine zqg (N := 80) rfl ?_); refine H.out.ld_cell 2 rfl 1 (v := .slice (some ⟨gB, 0, none⟩) 3 cB) rfl rfl rfl rfl Try.underlying63 rfl ?_; (try simp only [Act.put, zs1, zs2, zs3])) | ((with_reducible refine zqg (N := 82) rfl ?_); refine H.out.ld_row 0 rfl rfl rfl rfl Try.underlying29 rfl hs29 ?_; (try simp only [Act.put, zs1, zs2, zs3])) | ((with_reducible refine gate_store (t := 29) (p := 83) rfl ?_); refine H.out.st29 1 rfl O.out HD.out V.out HL.out HK3.out (q29_mkM (x := y40) P9.out) HY.out rfl rfl (x := .tmp 83) (z := .tmp 82) rfl rfl rfl ?_; intro D9 l9 w9 H1 O1 V1 e1 HD1 HL1; have HDN1 := Az.mk (e1.out.trans HDN.out); have HLE1 := Az.mk (show D9.length + n6 ≤ 4 by rw [e1.out]; exact HLE.out); clear e1 AL P9; clear H O V HD HL HDN HLE; have H := H1; have O := O1; have V := V1; have HD := HD1; have HL := HL1; have HDN := HDN1; have HLE := HLE1; clear H1 O1 V1 HD1 HL1 HDN1 HLE1))
                          go_wp2
                          go_roundg (3 - (k + 1))
                          case measure => have := HK.out; have := HK3.out; omega
                          case rel => exact ⟨k + 1, D9, l9, _, _, _, by rw [← HWk.out], ⟨by have := HK3.out; omega⟩, HLE, HDN, HD, HL, ⟨HR.out.less (by have := HK3.out; omega)⟩, O, V, ⟨H.out.sel [2, 1, 3, 4, 5, 6] _ (by decide) rfl⟩⟩
                        | false =>
                          by_cases y86 : 0 < (ptrs D).length
                          · skip
                            have y86d : decide (0 < (ptrs D).length) = true := decide_eq_true y86
                            have y86i : decide (0 < ((ptrs D).length : Int)) = true := decide_eq_true (by omega)
                            have HLP := Az.mk y86
                            clear y86
                            go_upto_if 91 with (first | (go_at_call 65; have _tk := tk0; refine (pick_callq (m := m + 500 * (n6 - 1) + 100 * (2 - k) + 8) HB.out H.out 5 rfl (HR.out.less (by omega)) (2) (by omega)).mono ?_; rintro e w89 ⟨r89, c89, rfl, hr89, hrd, h1⟩; have HR1 := Az.mk hrd; have H1 := Az.mk h1; have hz89 := eq_true (Int.natCast_nonneg r89); clear hrd h1; clear H HR; have H := H1; have HR := HR1; clear H1 HR1; clear tk0 _tk; have tk1 : True := trivial))
                            (try simp only [Act.put, zs1, zs2, zs3])
                            by_cases y89 : (r89 : Int) = 0
                            · skip
                              have y89a : ((r89 : Int) == 0) = true := beq_iff_eq.mpr y89
                              have y89b : decide ((r89 : Int) = 0) = true := decide_eq_true y89
                              clear y89
                              go_wp2
                              refine start_ (n := 12) (S := fun w' => Hq w0.heap.size w w' [.set S9 wo9, .box g7 (#[.string s7, .slice (some ⟨gB, 0, none⟩) 3 cB]) 65]) (ds := [11]) (bm 12 0) (by kernel_rfl) rfl rfl (H.out.drew.sel [1, 2] _ (by decide) rfl) (fun hHeld => ?_)
                              have H1 := Az.mk H.out.drew
                              clear H; have H := H1; clear H1
                              generalize World.drew w89 = wd24 at hHeld H ⊢
                              refine zP 0 (some 92) (bm 12 1) ?_
                              refine zqt (i := 1) (N := some 93) (v := .slice (some ⟨gB, 0, none⟩) 3 cB) (a' := ?_) (bm 12 3) rfl rfl (by kernel_rfl) (fun _ _ _ h => h) (Or.inl ⟨by rfl, fun w' s0 => s0.run_cell 1 rfl 1 rfl rfl rfl Try.underlying63 rfl⟩) hHeld ?_ ?_
                              rotate_left
                              · simp only [Act.put, zs1, zs2, zs3, i64_w, i32_w]
                                rfl
                              refine zP 2 (some 94) (bm 12 7) ?_
                              refine zP 3 (some 95) (bm 12 15) ?_
                              refine zP 4 (some 96) (bm 12 31) ?_
                              refine zP 5 (some 97) (bm 12 63) ?_
                              refine zP 6 (some 98) (bm 12 127) ?_
                              refine one_ (i := 7) (N := some 99) (bm 12 255) rfl rfl (by kernel_rfl) (by decide) (fun K hK => ?_)
                              refine goes_ Try.func65 (by kernel_rfl) rfl #[.pointer (some ⟨g, 0, none⟩), .int .i64 ((ptrs D).length : Int)] (by rfl) rfl rfl (by (try simp only [List.map_toArray, List.map_cons, List.map_nil]); first | done | rfl) ?_
                              refine (pick_callq (m := m + 500 * (n6 - 1) + 100 * (2 - k) + 7) HB.out H.out 5 rfl (HR.out.less (by omega)) (((ptrs D).length : Int)) (by have := HLP.out; have := ptrs_small HD.out; have := HLE.out; omega)).mono ?_
                              rintro e w99 ⟨r99, c99, rfl, hr99, hrd, h1⟩
                              refine ⟨_, rfl, ?_⟩
                              have HR1 := Az.mk hrd
                              have H1 := Az.mk h1
                              have hz99 := eq_true (Int.natCast_nonneg r99)
                              clear hrd h1
                              clear H HR; have H := H1; have HR := HR1; clear H1 HR1
                              refine hK.out _ _ (H.out.sel [1, 2] _ (by decide) rfl) (fun hHeld => ?_)
                              clear hK K
                              refine norm_ (a' := ?_) ?_ ?_
                              rotate_left
                              · show Act.put _ (some 99) _ = _
                                simp only [Act.put, zs1, zs2, zs3, i64_w, i32_w]
                                rfl
                              have q99 := eq_true hr99
                              obtain ⟨ga, A101, d101, eA, hs1, hx0, hx1, hx2, hq1⟩ := elem29 AL.out (i := r99) (by omega)
                              cases eA
                              obtain ⟨z, hz⟩ : ∃ z, z = (ptrs D).getD r99 z29 := ⟨_, rfl⟩
                              rw [← hz] at hx0 hx1 hx2 hq1
                              have hz5 : z.f2.length ≤ 5 := by rw [hz]; exact ptrs_five HD.out (by omega)
                              have hs1 := Az.mk hs1
                              have hx0 := Az.mk hx0
                              have hx1 := Az.mk hx1
                              have hx2 := Az.mk hx2
                              have hq1 := Az.mk hq1
                              clear hz
                              refine zP 8 (some 100) (bm 12 511) ?_
                              refine zqt (i := 9) (N := some 101) (v := .agg #[.int .i64 z.f0, .int .i64 z.f1, .slice A101 z.f2.length d101]) (a' := ?_) (bm 12 1023) rfl rfl (by kernel_rfl) (fun _ _ _ h => h) (Or.inl ⟨by rfl, fun w' s0 => run_ld29 (s0.cell 0 rfl hs1.out hx0.out) (s0.cell 0 rfl hs1.out hx1.out) (s0.cell 0 rfl hs1.out hx2.out) rfl rfl⟩) hHeld ?_ ?_
                              rotate_left
                              · simp only [Act.put, zs1, zs2, zs3, i64_w, i32_w]
                                rfl
                              refine zP 10 (some 102) (bm 12 2047) ?_
                              refine last_ (i := 11) (N := none) (bm 12 4095) rfl rfl (by kernel_rfl) (by decide) (fun K hK => ?_)
                              refine H.out.st29_ 1 rfl O.out HD.out V.out HL.out HK3.out (q29_mkM (x := z) hq1.out) hz5 (by rfl) rfl (x := .tmp 102) (z := .tmp 101) rfl rfl rfl ?_
                              intro D9 l9 w9 H1 O1 V1 e1 HD1 HL1
                              have HDN1 := Az.mk (e1.out.trans HDN.out)
                              have HLE1 := Az.mk (show D9.length + n6 ≤ 4 by rw [e1.out]; exact HLE.out)
                              clear e1 AL P9
                              clear H O V HD HL HDN HLE; have H := H1; have O := O1; have V := V1; have HD := HD1; have HL := HL1; have HDN := HDN1; have HLE := HLE1; clear H1 O1 V1 HD1 HL1 HDN1 HLE1
                              refine hK.out _ _ ?_
                              clear hK K
                              refine norm_ (a' := ?_) ?_ ?_
                              rotate_left
                              · rfl
                              refine done_ (by kernel_rfl) ?_
                              go_wp2
                              go_roundg (3 - (k + 1))
                              case measure => have := HK.out; have := HK3.out; omega
                              case rel => exact ⟨k + 1, D9, l9, _, _, _, by rw [← HWk.out], ⟨by have := HK3.out; omega⟩, HLE, HDN, HD, HL, ⟨HR.out.less (by have := HK3.out; omega)⟩, O, V, ⟨H.out.sel [2, 1, 3, 4, 5, 6] _ (by decide) rfl⟩⟩
                            · skip
                              have y89a : ((r89 : Int) == 0) = false := beq_eq_false_iff_ne.mpr y89
                              have y89b : decide ((r89 : Int) = 0) = false := decide_eq_false y89
                              clear y89
                              go_wp2
                              go_roundg (3 - (k + 1))
                              case measure => have := HK.out; have := HK3.out; omega
                              case rel => exact ⟨k + 1, D, l, _, _, _, by rw [← HWk.out], ⟨by have := HK3.out; omega⟩, HLE, HDN, HD, HL, ⟨HR.out.less (by have := HK3.out; omega)⟩, O, V, ⟨H.out.sel [2, 1, 3, 4, 5, 6] _ (by decide) rfl⟩⟩
                          · skip
                            have y86d : decide (0 < (ptrs D).length) = false := decide_eq_false y86
                            have y86i : decide (0 < ((ptrs D).length : Int)) = false := decide_eq_false (by omega)
                            clear y86
                            go_wp2
                            go_roundg (3 - (k + 1))
                            case measure => have := HK.out; have := HK3.out; omega
                            case rel => exact ⟨k + 1, D, l, _, _, _, by rw [← HWk.out], ⟨by have := HK3.out; omega⟩, HLE, HDN, HD, HL, ⟨HR.out.less (by have := HK3.out; omega)⟩, O, V, ⟨H.out.sel [2, 1, 3, 4, 5, 6] _ (by decide) rfl⟩⟩
              · have c35 : decide ((k : Int) < 3) = false := decide_eq_false hk
                have c35n : decide (k < 3) = false := decide_eq_false (by omega)
                clear hk
                go_wp2_with (first | ((with_reducible refine zqg (N := 104) rfl ?_); refine H.out.ld_cell 2 rfl 1 (v := .slice A5 dn c5) rfl rfl rfl rfl Try.underlying55 rfl ?_; (try simp only [Act.put, zs1, zs2, zs3])) | ((with_reducible refine zqg (N := 105) rfl ?_); refine H.out.ld_row 0 rfl rfl rfl rfl Try.underlying65 rfl hs65 ?_; (try simp only [Act.put, zs1, zs2, zs3])) | ((with_reducible refine zqg (N := 106) rfl ?_); refine lit65 (.string s7) (.slice (some ⟨gB, 0, none⟩) 3 cB) rfl ?hr ?_; (case hr => first | (go_simp; done) | (go_simp; rfl)); (try simp only [Act.put, zs1, zs2, zs3])) | ((with_reducible refine gate_builtin (b := .append) (xs := #[.tmp 104, .tmp 106]) rfl ?_); at_builtin; refine H.out.app65 1 rfl O.out V.out (s := s7) (by have := HLE.out; omega) rfl (.tmp 104) (.tmp 106) rfl rfl rfl ?_; intro A107 c107 w107 q107 HQ H1 O1; clear H O; have H := H1; have O := O1; clear H1 O1; (try simp only [Act.put, zs1, zs2, zs3])) | ((with_reducible refine gate_store (t := 55) (p := 108) rfl ?_); refine H.out.stb 2 rfl 1 (.slice A107 q107.length c107) rfl rfl size55q rfl rfl rfl rfl rfl ?_; intro ws25 H1; clear H; have H := H1; clear H1))
                go_roundg k1
                case measure => omega
                case rel => exact ⟨n6 - 1, A107, c107, q107.length, q107, _, _, c, by have := HP.out; have := HN.out; rw [wrap_ok (by omega)]; congr 1; omega, ⟨by have := HP.out; have := HN.out; omega⟩, ⟨by have := HLE.out; have := HP.out; rw [HQ.out, List.length_append, List.length_singleton]; omega⟩, ⟨rfl⟩, ⟨gv_snoc HQ.out HD.out HL.out⟩, ⟨HR.out.less (by omega)⟩, O, ⟨H.out.sel [2, 1, 3, 4, 5] _ (by decide) rfl⟩⟩
      · have c21 : decide (0 < (n6 : Int)) = false := decide_eq_false hn
        have c21n : decide (0 < n6) = false := decide_eq_false (by omega)
        obtain rfl := HDN.out
        clear hn
        go_wp2_with (first | ((with_reducible refine zqg (N := 109) rfl ?_); refine H.out.ld_row 0 rfl rfl rfl rfl Try.underlying57 rfl hs57 ?_; (try simp only [Act.put, zs1, zs2, zs3])) | ((with_reducible refine gate_store (t := 57) (p := 4) rfl ?_); refine H.out.st_row 2 rfl rfl (x := .tmp 4) (y := .tmp 109) rfl rfl rfl (#[.int .i64 (r15 : Int), .slice A5 D.length c5]) rfl hs57 rfl (by simp [Value.oneCell']) ?_; intro ws26 H1; clear H; have H := H1; clear H1))
        exact bodyPost_ret (results_cell_row rfl _ _ g4 57 _ (0, 0) _ rfl (H.out.box 2 rfl) Try.underlying57 rfl (by kernel_rfl)) rfl ⟨(r15 : Int), (A5, c5), D, c, rfl, HD.out, by have := HLE.out; omega, Kd.R_mono (H.out.rr 1 rfl O.out) (own_in H.out 3 4 1 rfl rfl rfl (by decide) (by decide)), HR.out.less (by omega), H.out.box 3 rfl, H.out.bel, kept_in H.out 4 rfl⟩
end Go.Proofs.Ytkoimmeghdbodaa.Hq
namespace Go.Proofs.Ytkoimmeghdbodaa.Hq
open Go.RowKit Go.Proofs.Ytkoimmeghdbodaa.Print Go.Proofs.YtkoimmeghdbodaaW.PrintWords Go.Proofs.YtkoimmeghdbodaaW.PrintLast Go.Proofs.YtkoimmeghdbodaaW.PrintMore Go.Proofs.Ytkoimmeghdbodaa.Pure Go.Proofs.Ytkoimmeghdbodaa.Hd
def litT (r : Nat) : Int := ([-1, 100000, 100001] : List Int).getD r 0
theorem litT_get {r : Nat} (h : (r : Int) < 3) : (#[.int .i64 (-1), .int .i64 100000, .int .i64 100001] : Array Value)[r]? = some (.int .i64 (litT r)) := by
  have : r = 0 ∨ r = 1 ∨ r = 2 := by omega
  rcases this with rfl | rfl | rfl <;> rfl
theorem Hq.drawn {base : Nat} {ws w w' : World} {L : List Part} (H : Hq base ws w L) (i : Nat) {g : Nat} {cs cs' : Array Value} (e : L[i]? = some (.box g cs 113)) (hbox : w'.heap[g]? = some (.cells cs' 113 (0, 0))) (hb : Below base w w') (hk : ∀ k, k < w.heap.size → k ≠ g → w'.heap[k]? = w.heap[k]?) : Hq base ws w' (.set (fun k => w.heap.size ≤ k ∧ k < w'.heap.size) w' :: L.set i (.box g cs' 113)) := by
  have H1 := H.put_box i e hbox hb hk
  refine ⟨H1.bel, H1.ge, fun q hq => ?_, List.pairwise_cons.2 ⟨fun q hq k h1 h2 => ?_, H1.dis⟩⟩
  · rcases List.mem_cons.1 hq with rfl | hq
    · exact ⟨fun k hk => ⟨Nat.le_trans H.ge hk.1, hk.2⟩, fun _ _ => rfl⟩
    · exact H1.all q hq
  · have h3 : k < w.heap.size := by
      rcases List.mem_or_eq_of_mem_set hq with hq | rfl
      · exact ((H.all q hq).1 k h2).2
      · obtain rfl : k = g := h2
        exact blk_lt (H.box i e)
    have := h1.1
    omega
theorem root_callq {w0 ws w : World} {L : List Part} {b : List Int} {g m : Nat} {n : Int} {cs : Array Value} (hn : 3 ≤ n ∧ n ≤ 4) (hB : Below w0.heap.size w0 ws) (H : Hq w0.heap.size ws w L) (i : Nat) (e : L[i]? = some (.box g cs 113)) (hr : Rdr w0 b (m + 2500) cs) :
    Calls Try.prog 89 #[.pointer (some ⟨g, 0, none⟩), .int .i64 n] w fun e w' => ∃ (tx : Int) (A : Option Addr) (c : Nat) (D : List S65) (cs' : Array Value), e = .returned (.agg #[.int .i64 tx, .slice A D.length c]) ∧ GV D ∧ D.length ≤ 4 ∧ r65.R 65 w' w0.heap.size (fun k => w.heap.size ≤ k ∧ k < w'.heap.size) (.slice A D.length c) D ∧ Rdr w0 b m cs' ∧ Hq w0.heap.size ws w' (.set (fun k => w.heap.size ≤ k ∧ k < w'.heap.size) w' :: L.set i (.box g cs' 113)) := by
  refine (l71Root_calls (m := m) hn (hB.trans H.bel) (H.box i e) (H.box_ge i e) hr).mono fun e' w' h => ?_
  obtain ⟨tx, M, D, cs', he, h1, h2, h3, h4, h5, h6, h7⟩ := h
  exact ⟨tx, M.1, M.2, D, cs', he, h1, h2, h3, h4, H.drawn i e h5 h6 h7⟩
theorem Hq.back {base : Nat} {ws w : World} {L : List Part} (H : Hq base ws w L) (j : Nat) {S S' : Nat → Prop} {wo w' : World} (ej : L[j]? = some (.set S' w')) (hup : ∀ k, S k → S' k ∧ w'.heap[k]? = wo.heap[k]?) : Hq base ws w (L.set j (.set S wo)) := by
  have hs := off_set (p' := .set S wo) H.dis ej (fun q hq ho k h1 h2 => ho k (hup k h1).1 h2)
  refine ⟨H.bel, H.ge, fun q hq => ?_, hs.1⟩
  rcases hs.2 q hq with rfl | ⟨h1, _⟩
  · exact ⟨fun k hk => H.set_in j ej k (hup k hk).1, fun k hk => (H.same j ej k (hup k hk).1).trans (hup k hk).2⟩
  · exact H.all q h1
theorem vol0 {wo : World} {b : Nat} {S : Nat → Prop} {A : Option Addr} {n c : Nat} {D : List S65} (hD : GV D) (O : r65.R 65 wo b S (.slice A n c) D) (hn : 0 < n) :
    ∃ (gv gB cB : Nat) (x : S65), A = some ⟨gv, 0, none⟩ ∧ S gv ∧ x ∈ D ∧ D.length = n ∧ wo.cell? ⟨gv, 0, none⟩ = some (.string x.f0) ∧ wo.cell? ⟨gv, 1, none⟩ = some (.slice (some ⟨gB, 0, none⟩) 3 cB) ∧ 3 ≤ cB ∧ q29.R 29 wo b S (.slice (some ⟨gB, 0, none⟩) 3 cB) x.f1 ∧ D.getD 0 z65 = x := by
  have hl := (Kd.R_reads' O).1
  obtain ⟨gv, cap, e, _⟩ := Kd.R_form O (by omega)
  injection e with e1 e2 e3
  subst e1 e3
  obtain ⟨cs, hcl, hM, hcc, _⟩ := Kd.R_elem O z65 0 (by omega) (by omega)
  obtain ⟨v1, rfl, hR⟩ := r65_openM hM
  have hx : D.getD (Int.toNat 0) z65 ∈ D := getD_mem (by show 0 < D.length; omega)
  have h3 := (hD _ hx).1
  obtain ⟨gB, cB, rfl, _⟩ := Kd.R_form hR (by omega)
  have hcap := (Kd.R_reads' hR).2.1
  rw [h3] at hcc hR hcap
  refine ⟨gv, gB, cB, _, rfl, O.1 gv (by simp [Value.ownBlock]), hx, hl.symm, ?_, ?_, by omega, Kd.R_mono hR fun k hk => hk.1, rfl⟩
  · have := hcc 0 _ rfl
    simpa using this
  · have := hcc 1 _ rfl
    simpa using this
section
variable {o : Oper} {a : Act}
theorem run_ld65 {w : World} {g f : Nat} {u0 u1 : Value} (h0 : w.cell? ⟨g, f, none⟩ = some u0) (h1 : w.cell? ⟨g, f + 1, none⟩ = some u1) {x : Operand} (ho : o.op = .load 65 x) (hx : a.eval x = .pointer (some ⟨g, f, none⟩)) :
    (execOp a.eval o).run Try.prog w = .ok (.value (.agg #[u0, u1])) w := by
  have hr := run_loadVar_mid (P := Try.prog) w g f 65 [u0, u1] _ (fun j v hv => by
    match j with
    | 0 => cases hv; exact h0
    | 1 => cases hv; exact h1
    | j + 2 => simp at hv) Try.underlying65 rfl (by kernel_rfl)
  unfold execOp
  simp only [ho, hx, Instr.loadAt, Instr.sureAddr, Sem.run_bind, Sem.run_pure, Result.andThen_ok, hr]
theorem elem63 : Try.prog.underlying 63 = some (.slice (Try.prog.elem 63)) := by
  have h := Try.underlying63
  have : Try.prog.elem 63 = 29 := by simp [Program.elem, h]
  rw [this]
  exact h
theorem run_cut {x : Operand} {gB cB : Nat} (w : World) (ho : o.op = .slice 63 x (some (.const (.int .i64 1))) none none) (hx : a.eval x = .slice (some ⟨gB, 0, none⟩) 3 cB) (hc : 3 ≤ cB) :
    (execOp a.eval o).run Try.prog w = .ok (.value (.slice (some ⟨gB, 3, none⟩) 2 (cB - 1))) w := by
  cases hq : Try.prog.info? 29 with
  | none => have := size29q; rw [hq] at this; simp at this
  | some i =>
    have hs : i.size = 3 := by have := size29q; rw [hq] at this; simpa using this
    have h := cut_from (P := Try.prog) 63 29 .i64 (i := i) Try.underlying63 hq 3 hs (some ⟨gB, 0, none⟩) 3 cB 1 (by omega) (by omega) w
    have hne : ¬ cB = Int.toNat 1 := by show ¬ cB = 1; omega
    rw [if_neg hne, Option.map_some] at h
    unfold execOp
    simp only [ho, hx, Option.map_some, Option.map_none]
    rw [show a.eval (Operand.const (.int .i64 1)) = .int .i64 1 from rfl, Sem.run_bind, run_sliceAt_slice (h := elem63), h]
    rfl
end
structure FV (D : List S65) : Prop where
  len : D.length ≤ 5
  vol : ∀ x ∈ D, x.f1.length ≤ 3 ∧ ∀ y ∈ x.f1, y.f2.length ≤ 5
theorem FV.fit {D : List S65} (h : FV D) : FitM D := ⟨by have := h.len; omega, fun x hx => by have := (h.vol x hx).1; omega, fun x hx y hy => by have := (h.vol x hx).2 y hy; omega⟩
theorem FV.of {D : List S65} (h : GV D) (hl : D.length ≤ 5) : FV D := ⟨hl, fun x hx => ⟨Nat.le_of_eq (h x hx).1, (h x hx).2⟩⟩
theorem cut0 {w : World} {b : Nat} {S : Nat → Prop} {gv n c gB cB : Nat} {D : List S65} (hD : GV D) (hl : D.length ≤ 5) (O : r65.R 65 w b S (.slice (some ⟨gv, 0, none⟩) n c) D) (hn : 0 < n) (hc1 : w.cell? ⟨gv, 1, none⟩ = some (.slice (some ⟨gB, 0, none⟩) 3 cB)) :
    ∃ D', q65.R 65 (w.setCell ⟨gv, 1, none⟩ (.slice (some ⟨gB, 3, none⟩) 2 (cB - 1))) b S (.slice (some ⟨gv, 0, none⟩) n c) D' ∧ FV D' ∧ D'.length = D.length ∧ w.grownBy (w.setCell ⟨gv, 1, none⟩ (.slice (some ⟨gB, 3, none⟩) 2 (cB - 1))) (some gv) := by
  have hl' := (Kd.R_reads' O).1
  obtain ⟨cs, hcl, hM, hcc, _⟩ := Kd.R_elem O z65 0 (by omega) (by omega)
  obtain ⟨v1, rfl, hR⟩ := r65_openM hM
  have hx : D.getD (Int.toNat 0) z65 ∈ D := getD_mem (by show 0 < D.length; omega)
  have h3 := hD _ hx
  have h1 := hcc 1 _ rfl
  have e1 : v1 = .slice (some ⟨gB, 0, none⟩) 3 cB := by
    have h1' : w.cell? ⟨gv, 1, none⟩ = some v1 := by simpa using h1
    rw [hc1] at h1'
    exact (Option.some.inj h1').symm
  subst e1
  have hcb := (Kd.R_reads' hR).2.1
  have hQ := Kd.Q_drop (k := 1) (Kd.Q_of_R hR) (by omega)
  rw [if_neg (show ¬ cB = 1 by omega)] at hQ
  have hQ' : q29.Q 29 w b (fun k => S k ∧ k ≠ gv) (.slice (some ⟨gB, 3, none⟩) 2 (cB - 1)) ((D.getD (Int.toNat 0) z65).f1.drop 1) := hQ
  have O' := R_q65 O
  have hs := Kd.R_seg O' 0 (by omega) (by omega) (c := [.string (D.getD (Int.toNat 0) z65).f0, .slice (some ⟨gB, 0, none⟩) 3 cB]) (seg := [.slice (some ⟨gB, 3, none⟩) 2 (cB - 1)]) (j := 1) rfl hcc (Nat.le_refl _) (x' := ⟨(D.getD (Int.toNat 0) z65).f0, (D.getD (Int.toNat 0) z65).f1.drop 1⟩) (okp := fun k => S k ∧ k ≠ gv) (q65_mkM (x := ⟨(D.getD (Int.toNat 0) z65).f0, (D.getD (Int.toNat 0) z65).f1.drop 1⟩) hQ') (fun k hk => hk)
  refine ⟨_, hs.1, ⟨by rw [List.length_set]; exact hl, fun y hy => ?_⟩, by rw [List.length_set], hs.2⟩
  rcases List.mem_or_eq_of_mem_set hy with h | h
  · exact ⟨Nat.le_of_eq (hD y h).1, (hD y h).2⟩
  · rw [h]
    refine ⟨by rw [List.length_drop]; omega, fun z hz => h3.2 z (List.mem_of_mem_drop hz)⟩
def DrawsOff (w0 : World) (b : List Int) (g m : Nat) (w : World) (e : Ending) (w' : World) : Prop := ∃ (tx : Int) (M : AC) (D : List S65) (cs' : Array Value), e = .returned (.agg (cR M (tx, D))) ∧ FV D ∧ q65.R 65 w' w0.heap.size (fun k => w.heap.size ≤ k ∧ k < w'.heap.size) (.slice M.1 D.length M.2) D ∧ Rdr w0 b m cs' ∧ w'.heap[g]? = some (.cells cs' 113 (0, 0)) ∧ Below w0.heap.size w w' ∧ ∀ k, k < w.heap.size → k ≠ g → w'.heap[k]? = w.heap[k]?
theorem off_of {w0 w w' wo : World} {b : List Int} {g m : Nat} {L : List Part} {cs' : Array Value} {S : Nat → Prop} {tx : Int} {A : Option Addr} {dn c : Nat} {D : List S65} (H : Hq w0.heap.size w w' L) (ig ir io : Nat) (eg : L[ig]? = some (.box g cs' 113)) (er : L[ir]? = some (.set (fun k => k ≠ g ∧ w0.heap.size ≤ k ∧ k < w.heap.size) w)) (eo : L[io]? = some (.set S wo)) (n1 : io ≠ ig) (n2 : io ≠ ir) (hr : Rdr w0 b m cs') (hn : D.length = dn) (O : q65.R 65 wo w0.heap.size S (.slice A dn c) D) (hf : FV D) : DrawsOff w0 b g m w (.returned (.agg #[.int .i64 tx, .slice A dn c])) w' := by
  subst hn
  exact ⟨tx, (A, c), D, cs', rfl, hf, Kd.R_mono (H.rr io eo O) (own_in H ig ir io eg er eo n1 n2), hr, H.box ig eg, H.bel, kept_in H ir er⟩
end Go.Proofs.Ytkoimmeghdbodaa.Hq
namespace Go.Proofs.Ytkoimmeghdbodaa.Hq
open Go.RowKit Go.Proofs.Ytkoimmeghdbodaa.Print Go.Proofs.YtkoimmeghdbodaaW.PrintWords Go.Proofs.YtkoimmeghdbodaaW.PrintLast Go.Proofs.YtkoimmeghdbodaaW.PrintMore Go.Proofs.Ytkoimmeghdbodaa.Pure Go.Proofs.Ytkoimmeghdbodaa.Hd
def litM (r : Nat) : Int := ([-1, 1000000000, 1000000001] : List Int).getD r 0
theorem litM_get {r : Nat} (h : (r : Int) < 3) : (#[.int .i64 (-1), .int .i64 1000000000, .int .i64 1000000001] : Array Value)[r]? = some (.int .i64 (litM r)) := by
  have : r = 0 ∨ r = 1 ∨ r = 2 := by omega
  rcases this with rfl | rfl | rfl <;> rfl
def litH (r : Nat) : Int := ([-1, 12] : List Int).getD r 0
theorem litH_get {r : Nat} (h : (r : Int) < 2) : (#[.int .i64 (-1), .int .i64 12] : Array Value)[r]? = some (.int .i64 (litH r)) := by
  have : r = 0 ∨ r = 1 := by omega
  rcases this with rfl | rfl <;> rfl
theorem k37_mkM {w : World} {b : Nat} {ok : Nat → Prop} (x : S37) : k37.M w b ok x [.int .i64 x.f0, .int .i64 x.f1] := ⟨_, _, rfl, rfl, rfl⟩
theorem k37_openM {w : World} {b : Nat} {ok : Nat → Prop} {x : S37} {cs : List Value} (h : k37.M w b ok x cs) : cs = [.int .i64 x.f0, .int .i64 x.f1] := by
  obtain ⟨_, _, rfl, rfl, rfl⟩ := h
  rfl
theorem elem37 {wo : World} {b : Nat} {S : Nat → Prop} {A : Option Addr} {n c : Nat} {l : List S37} (V : k37.R 37 wo b S (.slice A n c) l) {i : Nat} (hi : i < l.length) :
    ∃ g, A = some ⟨g, 0, none⟩ ∧ S g ∧ wo.cell? ⟨g, i * 2, none⟩ = some (.int .i64 (l.getD i z37).f0) ∧ wo.cell? ⟨g, i * 2 + 1, none⟩ = some (.int .i64 (l.getD i z37).f1) := by
  obtain ⟨g, cap, e, _⟩ := Kd.R_form V (by omega)
  injection e with e1 e2 e3
  subst e1 e2 e3
  obtain ⟨cs, hcl, hM, hcc, _⟩ := Kd.R_elem V z37 (i : Int) (by omega) (by omega)
  rw [Int.toNat_natCast] at hM hcc
  obtain rfl := k37_openM hM
  exact ⟨g, rfl, V.1 g (by simp [Value.ownBlock]), hcc 0 _ rfl, hcc 1 _ rfl⟩
theorem run_ld37 {o : Oper} {a : Act} {w : World} {g f : Nat} {u0 u1 : Value} (h0 : w.cell? ⟨g, f, none⟩ = some u0) (h1 : w.cell? ⟨g, f + 1, none⟩ = some u1) {x : Operand} (ho : o.op = .load 37 x) (hx : a.eval x = .pointer (some ⟨g, f, none⟩)) :
    (execOp a.eval o).run Try.prog w = .ok (.value (.agg #[u0, u1])) w := by
  have hr := run_loadVar_mid (P := Try.prog) w g f 37 [u0, u1] _ (fun j v hv => by
    match j with
    | 0 => cases hv; exact h0
    | 1 => cases hv; exact h1
    | j + 2 => simp at hv) Try.underlying37 rfl (by kernel_rfl)
  unfold execOp
  simp only [ho, hx, Instr.loadAt, Instr.sureAddr, Sem.run_bind, Sem.run_pure, Result.andThen_ok, hr]
set_option maxRecDepth 100000 in
theorem run_st37 {o : Oper} {a : Act} {w : World} {b : Nat} {S : Nat → Prop} {g n cap : Nat} {l : List S37} (V : k37.R 37 w b S (.slice (some ⟨g, 0, none⟩) n cap) l) {i : Nat} (hi : i < n) {x z : Operand} (ho : o.op = .store 37 x z) (hx : a.eval x = .pointer (some ⟨g, i * 2, none⟩)) {u0 u1 : Value} (hz : a.eval z = .agg #[u0, u1])
    (h1 : ∀ q ∈ [u0, u1], q.oneCell' = true) : (execOp a.eval o).run Try.prog w = .ok .skip (w.setCells g (i * 2) [u0, u1]) := by
  have hrun : (Instr.storeAt 37 (.pointer (some ⟨g, i * 2, none⟩)) (.agg #[u0, u1])).run Try.prog w = .ok () (w.setCells g (i * 2) [u0, u1]) := by
    obtain ⟨_, inner, hown, hr⟩ := V
    rcases hown.2 with ⟨hv, _⟩ | ⟨g', cap', cur, hv, hb, hh, hnc, hcm, hcs, _⟩
    · cases hv
    injection hv with ha hn hc
    injection ha with ha
    injection ha with hg'
    subst hg'; subst hc
    refine run_store_run 37 _ [u0, u1] hh rfl (by kernel_rfl) ?_ h1
    have h2 : i * 2 + 2 ≤ n * 2 := by omega
    have h3 : n * 2 ≤ cap * 2 := by rw [hn]; omega
    have h4 : cur.size = cap * 2 := hcs
    show i * 2 + 2 ≤ cur.size
    omega
  unfold execOp
  simp only [ho, hx, hz, Sem.run_bind, Sem.run_pure, Result.andThen_ok, hrun]
theorem elem27 : Try.prog.underlying 27 = some (.slice (Try.prog.elem 27)) := by
  have h := Try.underlying27
  have : Try.prog.elem 27 = 37 := by simp [Program.elem, h]
  rw [this]
  exact h
theorem size37o : (Try.prog.info? 37).map (·.size) = some 2 := by kernel_rfl
theorem size27q : (Try.prog.info? 27).map (·.size) = some 1 := by kernel_rfl
theorem run_cut37 {o : Oper} {a : Act} {x : Operand} {gp n c : Nat} (w : World) (ho : o.op = .slice 27 x (some (.const (.int .i64 1))) none none) (hx : a.eval x = .slice (some ⟨gp, 0, none⟩) n c) (hn : 2 ≤ n) (hc : n ≤ c) :
    (execOp a.eval o).run Try.prog w = .ok (.value (.slice (some ⟨gp, 2, none⟩) (n - 1) (c - 1))) w := by
  cases hq : Try.prog.info? 37 with
  | none => have := size37o; rw [hq] at this; simp at this
  | some i =>
    have hs : i.size = 2 := by have := size37o; rw [hq] at this; simpa using this
    have h := cut_from (P := Try.prog) 27 37 .i64 (i := i) Try.underlying27 hq 2 hs (some ⟨gp, 0, none⟩) n c 1 (by omega) (by omega) w
    have hne : ¬ c = Int.toNat 1 := by show ¬ c = 1; omega
    rw [if_neg hne, Option.map_some] at h
    unfold execOp
    simp only [ho, hx, Option.map_some, Option.map_none]
    rw [show a.eval (Operand.const (.int .i64 1)) = .int .i64 1 from rfl, Sem.run_bind, run_sliceAt_slice (h := elem27), h]
    rfl
theorem drop37 {w : World} {b : Nat} {S : Nat → Prop} {gp n c : Nat} {l : List S37} (O : k37.R 37 w b S (.slice (some ⟨gp, 0, none⟩) n c) l) (hn : 2 ≤ n) : k37.Q 37 w b S (.slice (some ⟨gp, 2, none⟩) (n - 1) (c - 1)) (l.drop 1) := by
  have hr := Kd.R_reads' O
  have hQ := Kd.Q_drop (k := 1) (Kd.Q_of_R O) (by omega)
  rw [if_neg (show ¬ c = 1 by omega)] at hQ
  exact hQ
section
variable {base : Nat} {ws w : World} {L : List Part} {S : Nat → Prop} {wo : World}
theorem st37_of (H : Hq base ws w L) (j : Nat) (ej : L[j]? = some (.set S wo)) {g n cap i : Nat} {l : List S37} {y : S37} (V : k37.R 37 wo base S (.slice (some ⟨g, 0, none⟩) n cap) l) (hi : i < n) :
    ∃ l', Hq base ws (w.setCells g (i * 2) [.int .i64 y.f0, .int .i64 y.f1]) (L.set j (.set S (w.setCells g (i * 2) [.int .i64 y.f0, .int .i64 y.f1]))) ∧ k37.R 37 (w.setCells g (i * 2) [.int .i64 y.f0, .int .i64 y.f1]) base S (.slice (some ⟨g, 0, none⟩) n cap) l' ∧ l'.length = l.length := by
  have V' := H.rr j ej V
  obtain ⟨c, c1, c2, c3, _⟩ := Kd.R_elem V' z37 (i : Int) (by omega) (by omega)
  have hs := Kd.R_seg V' (i : Int) (by omega) (by omega) (seg := [.int .i64 y.f0, .int .i64 y.f1]) (j := 0) c1 c3 (Nat.le_refl _) (x' := y) (okp := fun k => S k ∧ k ≠ g) (by
    rw [List.take_zero, List.nil_append, List.drop_of_length_le (by rw [c1]; exact Nat.le_refl _), List.append_nil]
    exact k37_mkM y) (fun k hk => hk)
  rw [Int.toNat_natCast, show i * k37.sz + 0 = i * 2 from rfl] at hs
  exact ⟨_, H.wrote' j ej (V.1 g (by simp [Value.ownBlock])) hs.2 (setCells_same g _ _ w).2.2.2, hs.1, by rw [List.length_set]⟩
theorem st37c_of (H : Hq base ws w L) (j : Nat) (ej : L[j]? = some (.set S wo)) {g n cap : Nat} {l : List S37} {y : S37} (V : k37.R 37 wo base S (.slice (some ⟨g, 0, none⟩) n cap) l) (hi : 0 < n) (hy : y.f0 = (l.getD 0 z37).f0) :
    ∃ l', Hq base ws (w.setCell ⟨g, 1, none⟩ (.int .i64 y.f1)) (L.set j (.set S (w.setCell ⟨g, 1, none⟩ (.int .i64 y.f1)))) ∧ k37.R 37 (w.setCell ⟨g, 1, none⟩ (.int .i64 y.f1)) base S (.slice (some ⟨g, 0, none⟩) n cap) l' ∧ l'.length = l.length := by
  have V' := H.rr j ej V
  obtain ⟨c, c1, c2, c3, _⟩ := Kd.R_elem V' z37 0 (by omega) (by omega)
  obtain rfl := k37_openM c2
  have hs := Kd.R_seg V' 0 (by omega) (by omega) (seg := [.int .i64 y.f1]) (j := 1) c1 c3 (Nat.le_refl _) (x' := y) (okp := fun k => S k ∧ k ≠ g) (by
    have := k37_mkM (w := w) (b := base) (ok := fun k => S k ∧ k ≠ g) y
    rw [hy] at this
    exact this) (fun k hk => hk)
  exact ⟨_, H.wrote' j ej (V.1 g (by simp [Value.ownBlock])) hs.2 (setCells_same g [.int .i64 y.f1] 1 w).2.2.2, hs.1, by rw [List.length_set]⟩
end
theorem frz_own37 {w : World} {b : Nat} {S : Nat → Prop} {g n c : Nat} {l : List S37} (O : k37.R 37 w b S (.slice (some ⟨g, 0, none⟩) n c) l) {j : Nat} : w.frozen? ⟨g, j, none⟩ = false := by
  obtain ⟨cs, hc⟩ := Kd.R_typed O g (by simp [Value.ownBlock])
  exact blk_frz0 hc j
def Draws29 (w0 : World) (b : List Int) (g m : Nat) (w : World) (e : Ending) (w' : World) : Prop := ∃ (y : S29) (v : Value) (cs' : Array Value), e = .returned (.agg #[.int .i64 y.f0, .int .i64 y.f1, v]) ∧ y.f2.length ≤ 5 ∧ k37.Q 37 w' w0.heap.size (fun k => w.heap.size ≤ k ∧ k < w'.heap.size) v y.f2 ∧ Rdr w0 b m cs' ∧ w'.heap[g]? = some (.cells cs' 113 (0, 0)) ∧ Below w0.heap.size w w' ∧ ∀ k, k < w.heap.size → k ≠ g → w'.heap[k]? = w.heap[k]?
theorem some_of {w0 w w' wo : World} {b : List Int} {g m : Nat} {L : List Part} {cs' : Array Value} {S : Nat → Prop} {s u : Int} {A : Option Addr} {dn c : Nat} {l : List S37} (H : Hq w0.heap.size w w' L) (ig ir io : Nat) (eg : L[ig]? = some (.box g cs' 113)) (er : L[ir]? = some (.set (fun k => k ≠ g ∧ w0.heap.size ≤ k ∧ k < w.heap.size) w)) (eo : L[io]? = some (.set S wo)) (n1 : io ≠ ig) (n2 : io ≠ ir) (hr : Rdr w0 b m cs') (hn : l.length = dn) (O : k37.Q 37 wo w0.heap.size S (.slice A dn c) l) (hl : l.length ≤ 5) : Draws29 w0 b g m w (.returned (.agg #[.int .i64 s, .int .i64 u, .slice A dn c])) w' :=
  ⟨⟨s, u, l⟩, _, cs', rfl, hl, Kd.Q_mono (H.qq io eo O) (own_in H ig ir io eg er eo n1 n2), hr, H.box ig eg, H.bel, kept_in H ir er⟩
theorem some_none {w0 w w' : World} {b : List Int} {g m : Nat} {L : List Part} {cs' : Array Value} (H : Hq w0.heap.size w w' L) (ig ir : Nat) (eg : L[ig]? = some (.box g cs' 113)) (er : L[ir]? = some (.set (fun k => k ≠ g ∧ w0.heap.size ≤ k ∧ k < w.heap.size) w)) (hr : Rdr w0 b m cs') : Draws29 w0 b g m w (.returned (.agg #[.int .i64 0, .int .i64 0, .slice none 0 0])) w' :=
  ⟨⟨0, 0, []⟩, _, cs', rfl, Nat.zero_le _, Kd.Q_nil _ _ _ _ _, hr, H.box ig eg, H.bel, kept_in H ir er⟩
theorem drawn29 {w0 ws w w' : World} {L : List Part} {b : List Int} {g m : Nat} {cs : Array Value} {e' : Ending} (H : Hq w0.heap.size ws w L) (i j : Nat) (hij : i ≠ j) (e : L[i]? = some (.box g cs 113)) {S : Nat → Prop} {wo : World} (ej : L[j]? = some (.set S wo)) (h : Draws29 w0 b g m w e' w') :
    ∃ (y : S29) (v : Value) (cs' : Array Value), e' = .returned (.agg #[.int .i64 y.f0, .int .i64 y.f1, v]) ∧ y.f2.length ≤ 5 ∧ Kd.Q k37 37 w' w0.heap.size (newS S w w') v y.f2 ∧ Rdr w0 b m cs' ∧
      Hq w0.heap.size ws w' ((L.set i (.box g cs' 113)).set j (.set (newS S w w') w')) ∧ ∀ k, S k → newS S w w' k ∧ w'.heap[k]? = wo.heap[k]? := by
  obtain ⟨y, v, cs', he, hy, hq, hr, hbox, hb, hk⟩ := h
  have hs : w.heap.size ≤ w'.heap.size := hb.size
  exact ⟨y, v, cs', he, hy, Kd.Q_mono hq fun k hk => ⟨.inr hk.1, hk.2⟩, hr, H.put2 i j hij e ej (p' := .box g cs' 113) (q' := .set (newS S w w') w') (fun _ h => h) (fun _ h => h) hbox (fun _ _ => rfl) hb fun k h1 h2 _ => hk k h1 h2, H.up j ej hs fun k hS => hk k (H.set_in j ej k hS).2 (fun hh => H.apart i j hij e ej k hh hS)⟩
theorem ptr_callR {w0 ws w : World} {L : List Part} {b : List Int} {g m : Nat} {n : Int} {cs : Array Value} (hn : 3 ≤ n ∧ n ≤ 4) (hB : Below w0.heap.size w0 ws) (H : Hq w0.heap.size ws w L) (i : Nat) (e : L[i]? = some (.box g cs 113)) (hr : Rdr w0 b (m + 90) cs) :
    Calls Try.prog 94 #[.pointer (some ⟨g, 0, none⟩), .int .i64 n] w fun e w' => ∃ (s u : Int) (gp c : Nat) (l : List S37) (cs' : Array Value), e = .returned (.agg #[.int .i64 s, .int .i64 u, .slice (some ⟨gp, 0, none⟩) l.length c]) ∧ 2 ≤ l.length ∧ l.length ≤ 5 ∧ k37.R 37 w' w0.heap.size (fun k => w.heap.size ≤ k ∧ k < w'.heap.size) (.slice (some ⟨gp, 0, none⟩) l.length c) l ∧ Rdr w0 b m cs' ∧ Hq w0.heap.size ws w' (.set (fun k => w.heap.size ≤ k ∧ k < w'.heap.size) w' :: L.set i (.box g cs' 113)) := by
  obtain ⟨A, c, p, h1, h2, h3, h4⟩ := hr.ok
  obtain ⟨s, u, l, q, e1, a1, a2, a3, a4⟩ := ptr_ev hr.code hn (p := p) (by omega)
  obtain ⟨K, hK⟩ := e1
  refine (spec_l71Ptr.calls K g b p n s u l q w0 w (is_of H i e h1 h2) (hB.trans H.bel) (hK K (Nat.le_refl _))).mono fun e' w' hh => ?_
  obtain ⟨v, he, hR, hI, hb, hk⟩ := hh
  obtain ⟨gp, cap, rfl, _⟩ := Kd.R_form hR (by omega)
  obtain ⟨A', c', i1, i2, i3⟩ := hI
  exact ⟨s, u, gp, cap, l, _, he, a1, a2, Kd.R_lower (Kd.R_mono (Kd.R_bound hR) fun k hk => ⟨hk.2.1, hk.2.2.1⟩) H.ge, ⟨⟨A', c', q, rfl, i3, by omega, by omega⟩, hr.code⟩, H.drawn i e i1 (bel_of hB H hb hk.1) fun k h1 h2 => hk.2 k h1 h2 (by simp)⟩
set_option maxHeartbeats 16000000 in
set_option maxRecDepth 100000 in
theorem l71Some_calls {w0 w : World} {b : List Int} {g m : Nat} {n : Int} {cs : Array Value} (hn : 3 ≤ n ∧ n ≤ 4) (hB : Below w0.heap.size w0 w) (hbox : w.heap[g]? = some (.cells cs 113 (0, 0))) (hge : w0.heap.size ≤ g) (hr : Rdr w0 b (m + 100) cs) : Calls Try.prog 64 #[.pointer (some ⟨g, 0, none⟩), .int .i64 n] w (Draws29 w0 b g m w) := by
  have hs29 := size29q
  have HNN := Az.mk hn
  have HB := Az.mk hB
  have HR := Az.mk hr
  have H := Az.mk (Hq.start_box' w hge hbox)
  have tk0 : True := trivial
  clear hB hbox hge hr hn
  go_enter Try.func64, Try.ntmps64
  go_upto_if 8 with (first | ((with_reducible refine zqg (N := 4) rfl ?_); refine H.out.bx rfl (#[.int .i64 0, .int .i64 0, .slice none 0 0]) 29 ?hr ?_; (case hr => first | (go_simp; done) | (go_simp; rfl)); intro g4 w4 H1; clear H; have H := H1; clear H1; (try simp only [Act.put, zs1, zs2, zs3])) | (go_at_call 65; have _tk := tk0; refine (pick_callq (m := m + 99) HB.out H.out 1 rfl (HR.out.less (by omega)) (5) (by omega)).mono ?_; rintro e w7 ⟨r7, c7, rfl, hr7, hrd, h1⟩; have HR1 := Az.mk hrd; have H1 := Az.mk h1; have hz7 := eq_true (Int.natCast_nonneg r7); clear hrd h1; clear H HR; have H := H1; have HR := HR1; clear H1 HR1; clear tk0 _tk; have tk1 : True := trivial))
  (try simp only [Act.put, zs1, zs2, zs3])
  by_cases y7 : (r7 : Int) = 0
  · skip
    have y7a : ((r7 : Int) == 0) = true := beq_iff_eq.mpr y7
    have y7b : decide ((r7 : Int) = 0) = true := decide_eq_true y7
    clear y7
    go_wp2_with (first | ((with_reducible refine gate_store (t := 29) (p := 4) rfl ?_); refine H.out.st_row 0 rfl rfl (x := .tmp 4) (y := .tmp 9) rfl rfl rfl (#[.int .i64 0, .int .i64 0, .slice none 0 0]) rfl hs29 rfl (by simp [Value.oneCell']) ?_; intro ws2 H1; clear H; have H := H1; clear H1))
    exact bodyPost_ret (results_cell_row rfl _ _ g4 29 _ (0, 0) _ rfl (H.out.box 0 rfl) Try.underlying29 rfl (by kernel_rfl)) rfl (some_none H.out 1 2 rfl rfl (HR.out.less (m' := m) (by omega)))
  · skip
    have y7a : ((r7 : Int) == 0) = false := beq_eq_false_iff_ne.mpr y7
    have y7b : decide ((r7 : Int) = 0) = false := decide_eq_false y7
    clear y7
    go_upto_if 15 with (first | (go_at_call 94; have _tk := tk1; refine (ptr_callR (m := m + 9) HNN.out HB.out H.out 1 rfl (HR.out.less (by omega))).mono ?_; rintro e w12 ⟨s12, u12, gp, c12, l, c94, rfl, h2, h5, ho, hrd, h1⟩; have HL2 := Az.mk h2; have HL5 := Az.mk h5; have O := Az.mk ho; have HR1 := Az.mk hrd; have H1 := Az.mk h1; clear h2 h5 ho hrd h1; obtain ⟨dn, hdn⟩ : ∃ dn, l.length = dn := ⟨_, rfl⟩; rw [hdn] at O HL2 HL5 ⊢; have HDN := Az.mk hdn; clear hdn; clear H HR; have H := H1; have HR := HR1; clear H1 HR1; clear tk1 _tk; have tk2 : True := trivial) | ((with_reducible refine zqg (N := 5) rfl ?_); refine H.out.bx rfl (#[.int .i64 0, .int .i64 0, .slice none 0 0]) 29 ?hr ?_; (case hr => first | (go_simp; done) | (go_simp; rfl)); intro g5 w5 H1; clear H; have H := H1; clear H1; (try simp only [Act.put, zs1, zs2, zs3])) | ((with_reducible refine gate_store (t := 29) (p := 5) rfl ?_); refine H.out.st_row 0 rfl rfl (x := .tmp 5) (y := .tmp 12) rfl rfl rfl (#[.int .i64 s12, .int .i64 u12, .slice (some ⟨gp, 0, none⟩) dn c12]) rfl hs29 rfl (by simp [Value.oneCell']) ?_; intro ws3 H1; clear H; have H := H1; clear H1) | (go_at_call 65; have _tk := tk2; refine (pick_callq (m := m + 8) HB.out H.out 3 rfl (HR.out.less (by omega)) (20) (by omega)).mono ?_; rintro e w14 ⟨r14, c14, rfl, hr14, hrd, h1⟩; have HR1 := Az.mk hrd; have H1 := Az.mk h1; have hz14 := eq_true (Int.natCast_nonneg r14); clear hrd h1; clear H HR; have H := H1; have HR := HR1; clear H1 HR1; clear tk2 _tk; have tk3 : True := trivial))
    (try simp only [Act.put, zs1, zs2, zs3])
    obtain ⟨S, wo, O, H⟩ : ∃ (S : Nat → Prop) (wo : World), Az (k37.R 37 wo w0.heap.size S (.slice (some ⟨gp, 0, none⟩) dn c12) l) ∧ Az (Hq w0.heap.size w w14 [.box g5 (#[.int .i64 s12, .int .i64 u12, .slice (some ⟨gp, 0, none⟩) dn c12]) 29, .set S wo, .box g4 (#[.int .i64 0, .int .i64 0, .slice none 0 0]) 29, .box g c14 113, .set (fun k => k ≠ g ∧ w0.heap.size ≤ k ∧ k < w.heap.size) w]) := ⟨_, _, O, ⟨H.out.sel [0, 1, 2, 3, 4] _ (by decide) rfl⟩⟩
    have q0 := eq_true (show (0 : Int) < (dn : Int) by have := HL2.out; omega)
    have q0n := eq_true (show 0 < dn by have := HL2.out; omega)
    have q1 := eq_true (show (1 : Int) < (dn : Int) by have := HL2.out; omega)
    have q1n := eq_true (show 1 < dn by have := HL2.out; omega)
    by_cases y0 : (r14 : Int) = 0
    · skip
      have y0a : ((r14 : Int) == 0) = true := beq_iff_eq.mpr y0
      have y0b : decide ((r14 : Int) = 0) = true := decide_eq_true y0
      clear y0
      go_wp2_with (first | (go_at_call 65; have _tk := tk3; refine (pick_callq (m := m + 7) HB.out H.out 3 rfl (HR.out.less (by omega)) (14) (by omega)).mono ?_; rintro e w18 ⟨r18, c18, rfl, hr18, hrd, h1⟩; have HR1 := Az.mk hrd; have H1 := Az.mk h1; have hz18 := eq_true (Int.natCast_nonneg r18); clear hrd h1; clear H HR; have H := H1; have HR := HR1; clear H1 HR1; clear tk3 _tk; have tk4 : True := trivial) | ((with_reducible refine gate_store (t := 3) (p := 20) rfl ?_); refine H.out.stb 0 rfl 0 (.int .i64 ((r18 : Int) - 1)) rfl rfl size3q rfl rfl rfl rfl rfl ?_; intro ws6 H1; clear H; have H := H1; clear H1) | ((with_reducible refine zqg (N := 55) rfl ?_); refine H.out.ld_row 0 rfl rfl rfl rfl Try.underlying29 rfl hs29 ?_; (try simp only [Act.put, zs1, zs2, zs3])) | ((with_reducible refine gate_store (t := 29) (p := 4) rfl ?_); refine H.out.st_row 2 rfl rfl (x := .tmp 4) (y := .tmp 55) rfl rfl rfl (#[.int .i64 ((r18 : Int) - 1), .int .i64 u12, .slice (some ⟨gp, 0, none⟩) dn c12]) rfl hs29 rfl (by simp [Value.oneCell']) ?_; intro ws15 H1; clear H; have H := H1; clear H1))
      exact bodyPost_ret (results_cell_row rfl _ _ g4 29 _ (0, 0) _ rfl (H.out.box 2 rfl) Try.underlying29 rfl (by kernel_rfl)) rfl (some_of H.out 3 4 1 rfl rfl rfl (by decide) (by decide) (HR.out.less (m' := m) (by omega)) (HDN.out) (Kd.Q_of_R O.out) (by have := HL5.out; have := HDN.out; omega))
    · skip
      have y0a : ((r14 : Int) == 0) = false := beq_eq_false_iff_ne.mpr y0
      have y0b : decide ((r14 : Int) = 0) = false := decide_eq_false y0
      clear y0
      by_cases y1 : (r14 : Int) = 1
      · skip
        have y1a : ((r14 : Int) == 1) = true := beq_iff_eq.mpr y1
        have y1b : decide ((r14 : Int) = 1) = true := decide_eq_true y1
        clear y1
        go_wp2_with (first | ((with_reducible refine zqg (N := 23) rfl ?_); refine H.out.lit rfl (#[.int .i64 (-1), .int .i64 1000000000, .int .i64 1000000001]) 3 3 ?hr ?_; (case hr => first | (go_simp; done) | (go_simp; rfl)); intro g23 w23 H1; clear H; have H := H1; clear H1; (try simp only [Act.put, zs1, zs2, zs3])) | (go_at_call 65; have _tk := tk3; refine (pick_callq (m := m + 7) HB.out H.out 4 rfl (HR.out.less (by omega)) (3) (by omega)).mono ?_; rintro e w25 ⟨r25, c25, rfl, hr25, hrd, h1⟩; have HR1 := Az.mk hrd; have H1 := Az.mk h1; have hz25 := eq_true (Int.natCast_nonneg r25); clear hrd h1; clear H HR; have H := H1; have HR := HR1; clear H1 HR1; clear tk3 _tk; have tk4 : True := trivial) | ((with_reducible refine zqg (N := 27) rfl ?_); refine H.out.ld_cell 0 rfl r25 (v := .int .i64 (litM r25)) (litM_get hr25) rfl rfl rfl Try.underlying3 rfl ?_; (try simp only [Act.put, zs1, zs2, zs3])) | ((with_reducible refine gate_store (t := 3) (p := 28) rfl ?_); refine H.out.stb 1 rfl 1 (.int .i64 (litM r25)) rfl rfl size3q rfl rfl rfl rfl rfl ?_; intro ws8 H1; clear H; have H := H1; clear H1) | ((with_reducible refine zqg (N := 55) rfl ?_); refine H.out.ld_row 1 rfl rfl rfl rfl Try.underlying29 rfl hs29 ?_; (try simp only [Act.put, zs1, zs2, zs3])) | ((with_reducible refine gate_store (t := 29) (p := 4) rfl ?_); refine H.out.st_row 3 rfl rfl (x := .tmp 4) (y := .tmp 55) rfl rfl rfl (#[.int .i64 s12, .int .i64 (litM r25), .slice (some ⟨gp, 0, none⟩) dn c12]) rfl hs29 rfl (by simp [Value.oneCell']) ?_; intro ws15 H1; clear H; have H := H1; clear H1))
        exact bodyPost_ret (results_cell_row rfl _ _ g4 29 _ (0, 0) _ rfl (H.out.box 3 rfl) Try.underlying29 rfl (by kernel_rfl)) rfl (some_of H.out 4 5 2 rfl rfl rfl (by decide) (by decide) (HR.out.less (m' := m) (by omega)) (HDN.out) (Kd.Q_of_R O.out) (by have := HL5.out; have := HDN.out; omega))
      · skip
        have y1a : ((r14 : Int) == 1) = false := beq_eq_false_iff_ne.mpr y1
        have y1b : decide ((r14 : Int) = 1) = false := decide_eq_false y1
        clear y1
        by_cases y2 : (r14 : Int) = 2
        · skip
          have y2a : ((r14 : Int) == 2) = true := beq_iff_eq.mpr y2
          have y2b : decide ((r14 : Int) = 2) = true := decide_eq_true y2
          clear y2
          go_wp2
          refine start_ (n := 10) (S := fun w' => Hq w0.heap.size w w' [.box g5 (#[.int .i64 s12, .int .i64 u12, .slice (some ⟨gp, 0, none⟩) dn c12]) 29]) (ds := [9]) (bm 10 0) (by kernel_rfl) rfl rfl (H.out.drew.sel [0] _ (by decide) rfl) (fun hHeld => ?_)
          have H1 := Az.mk H.out.drew
          clear H; have H := H1; clear H1
          generalize World.drew _ = wd10 at hHeld H ⊢
          refine zP 0 (some 31) (bm 10 1) ?_
          refine zqt (i := 1) (N := some 32) (v := .slice (some ⟨gp, 0, none⟩) dn c12) (a' := ?_) (bm 10 3) rfl rfl (by kernel_rfl) (fun _ _ _ h => h) (Or.inl ⟨by rfl, fun w' s0 => s0.run_cell 0 rfl 2 rfl rfl rfl Try.underlying27 rfl⟩) hHeld ?_ ?_
          rotate_left
          · simp only [Act.put, zs1, zs2, zs3, i64_w, i32_w]
            rfl
          refine zP 3 (some 34) (bm 10 11) ?_
          refine two_ (i := 2) (j := 4) (Ni := some 33) (Nj := some 35) (bm 10 15) (bm 10 27) rfl rfl rfl rfl (by kernel_rfl) (by decide) (by decide) ?_ ?_
          · intro K hK
            refine H.out.lit_ (by rfl) (#[.int .i64 (-1), .int .i64 12]) 3 2 ?hr ?_
            (case hr => first | (go_simp; done) | (go_simp; rfl))
            intro g33 w33 H1
            clear H; have H := H1; clear H1
            refine hK.out _ _ (H.out.sel [1] _ (by decide) rfl) (fun hHeld => ?_)
            clear hK K
            refine norm_ (a' := ?_) ?_ ?_
            rotate_left
            · show Act.put _ (some 33) _ = _
              simp only [Act.put, zs1, zs2, zs3, i64_w, i32_w]
              rfl
            refine one_ (i := 4) (N := some 35) (bm 10 31) rfl rfl (by kernel_rfl) (by decide) (fun K hK => ?_)
            refine goes_ Try.func65 (by kernel_rfl) rfl #[.pointer (some ⟨g, 0, none⟩), .int .i64 2] (by rfl) rfl rfl (by (try simp only [List.map_toArray, List.map_cons, List.map_nil]); first | done | rfl) ?_
            refine (pick_callq (m := m + 7) HB.out H.out 4 rfl (HR.out.less (by omega)) (2) (by omega)).mono ?_
            rintro e w35 ⟨r35, c35, rfl, hr35, hrd, h1⟩
            refine ⟨_, rfl, ?_⟩
            have HR1 := Az.mk hrd
            have H1 := Az.mk h1
            have hz35 := eq_true (Int.natCast_nonneg r35)
            clear hrd h1
            clear H HR; have H := H1; have HR := HR1; clear H1 HR1
            refine hK.out _ _ (H.out.sel [1] _ (by decide) rfl) (fun hHeld => ?_)
            clear hK K
            refine norm_ (a' := ?_) ?_ ?_
            rotate_left
            · show Act.put _ (some 35) _ = _
              simp only [Act.put, zs1, zs2, zs3, i64_w, i32_w]
              rfl
            refine zP 5 (some 36) (bm 10 63) ?_
            refine one_ (i := 6) (N := some 37) (bm 10 127) rfl rfl (by kernel_rfl) (by decide) (fun K hK => ?_)
            refine event_step (v := .int .i64 (litH r35)) (w1 := _) (by rfl) (H.out.run_cell 0 rfl r35 (litH_get hr35) rfl rfl Try.underlying3 rfl) ?_
            refine hK.out _ _ (H.out.sel [1] _ (by decide) rfl) (fun hHeld => ?_)
            clear hK K
            refine norm_ (a' := ?_) ?_ ?_
            rotate_left
            · show Act.put _ (some 37) _ = _
              simp only [Act.put, zs1, zs2, zs3, i64_w, i32_w]
              rfl
            refine zP 7 (some 38) (bm 10 255) ?_
            refine zP 8 (some 39) (bm 10 511) ?_
            obtain ⟨gq, eA, hs, h00, h01⟩ := elem37 O.out (i := 0) (by have := HDN.out; have := HL2.out; omega)
            cases eA
            obtain ⟨l', h1, hq, hl⟩ := st37c_of (y := ⟨(l.getD 0 z37).f0, litH r35⟩) H.out 2 rfl O.out (by have := HL2.out; omega) rfl
            have HC := Az.mk (H.out.cell 2 rfl hs h01)
            refine last_ (i := 9) (N := none) (bm 10 1023) rfl rfl (by kernel_rfl) (by decide) (fun K hK => ?_)
            refine last_st (by rfl) rfl (run_sc (v := .int .i64 (litH r35)) size3q HC.out (H.out.frz 2 rfl hs (frz_own37 O.out)) rfl rfl rfl rfl) ?_
            have H1 := Az.mk h1
            have OQ := Az.mk hq
            have HDN1 := Az.mk (hl.trans HDN.out)
            clear h1 hq hl HC h00 h01 hs
            clear H HDN; have H := H1; have HDN := HDN1; clear H1 HDN1
            refine hK.out _ _ ?_
            clear hK K
            refine norm_ (a' := ?_) ?_ ?_
            rotate_left
            · rfl
            refine done_ (by kernel_rfl) ?_
            go_wp2_with (first | ((with_reducible refine zqg (N := 55) rfl ?_); refine H.out.ld_row 1 rfl rfl rfl rfl Try.underlying29 rfl hs29 ?_; (try simp only [Act.put, zs1, zs2, zs3])) | ((with_reducible refine gate_store (t := 29) (p := 4) rfl ?_); refine H.out.st_row 3 rfl rfl (x := .tmp 4) (y := .tmp 55) rfl rfl rfl (#[.int .i64 s12, .int .i64 u12, .slice (some ⟨gp, 0, none⟩) dn c12]) rfl hs29 rfl (by simp [Value.oneCell']) ?_; intro ws15 H1; clear H; have H := H1; clear H1))
            exact bodyPost_ret (results_cell_row rfl _ _ g4 29 _ (0, 0) _ rfl (H.out.box 3 rfl) Try.underlying29 rfl (by kernel_rfl)) rfl (some_of H.out 4 5 2 rfl rfl rfl (by decide) (by decide) (HR.out.less (m' := m) (by omega)) (HDN.out) (Kd.Q_of_R OQ.out) (by have := HL5.out; have := HDN.out; omega))
          · intro K hK
            refine goes_ Try.func65 (by kernel_rfl) rfl #[.pointer (some ⟨g, 0, none⟩), .int .i64 2] (by rfl) rfl rfl (by (try simp only [List.map_toArray, List.map_cons, List.map_nil]); first | done | rfl) ?_
            refine (pick_callq (m := m + 7) HB.out H.out 3 rfl (HR.out.less (by omega)) (2) (by omega)).mono ?_
            rintro e w35 ⟨r35, c35, rfl, hr35, hrd, h1⟩
            refine ⟨_, rfl, ?_⟩
            have HR1 := Az.mk hrd
            have H1 := Az.mk h1
            have hz35 := eq_true (Int.natCast_nonneg r35)
            clear hrd h1
            clear H HR; have H := H1; have HR := HR1; clear H1 HR1
            refine hK.out _ _ (H.out.sel [0] _ (by decide) rfl) (fun hHeld => ?_)
            clear hK K
            refine norm_ (a' := ?_) ?_ ?_
            rotate_left
            · show Act.put _ (some 35) _ = _
              simp only [Act.put, zs1, zs2, zs3, i64_w, i32_w]
              rfl
            refine one_ (i := 2) (N := some 33) (bm 10 31) rfl rfl (by kernel_rfl) (by decide) (fun K hK => ?_)
            refine H.out.lit_ (by rfl) (#[.int .i64 (-1), .int .i64 12]) 3 2 ?hr ?_
            (case hr => first | (go_simp; done) | (go_simp; rfl))
            intro g33 w33 H1
            clear H; have H := H1; clear H1
            refine hK.out _ _ (H.out.sel [1] _ (by decide) rfl) (fun hHeld => ?_)
            clear hK K
            refine norm_ (a' := ?_) ?_ ?_
            rotate_left
            · show Act.put _ (some 33) _ = _
              simp only [Act.put, zs1, zs2, zs3, i64_w, i32_w]
              rfl
            refine zP 5 (some 36) (bm 10 63) ?_
            refine one_ (i := 6) (N := some 37) (bm 10 127) rfl rfl (by kernel_rfl) (by decide) (fun K hK => ?_)
            refine event_step (v := .int .i64 (litH r35)) (w1 := _) (by rfl) (H.out.run_cell 0 rfl r35 (litH_get hr35) rfl rfl Try.underlying3 rfl) ?_
            refine hK.out _ _ (H.out.sel [1] _ (by decide) rfl) (fun hHeld => ?_)
            clear hK K
            refine norm_ (a' := ?_) ?_ ?_
            rotate_left
            · show Act.put _ (some 37) _ = _
              simp only [Act.put, zs1, zs2, zs3, i64_w, i32_w]
              rfl
            refine zP 7 (some 38) (bm 10 255) ?_
            refine zP 8 (some 39) (bm 10 511) ?_
            obtain ⟨gq, eA, hs, h00, h01⟩ := elem37 O.out (i := 0) (by have := HDN.out; have := HL2.out; omega)
            cases eA
            obtain ⟨l', h1, hq, hl⟩ := st37c_of (y := ⟨(l.getD 0 z37).f0, litH r35⟩) H.out 2 rfl O.out (by have := HL2.out; omega) rfl
            have HC := Az.mk (H.out.cell 2 rfl hs h01)
            refine last_ (i := 9) (N := none) (bm 10 1023) rfl rfl (by kernel_rfl) (by decide) (fun K hK => ?_)
            refine last_st (by rfl) rfl (run_sc (v := .int .i64 (litH r35)) size3q HC.out (H.out.frz 2 rfl hs (frz_own37 O.out)) rfl rfl rfl rfl) ?_
            have H1 := Az.mk h1
            have OQ := Az.mk hq
            have HDN1 := Az.mk (hl.trans HDN.out)
            clear h1 hq hl HC h00 h01 hs
            clear H HDN; have H := H1; have HDN := HDN1; clear H1 HDN1
            refine hK.out _ _ ?_
            clear hK K
            refine norm_ (a' := ?_) ?_ ?_
            rotate_left
            · rfl
            refine done_ (by kernel_rfl) ?_
            go_wp2_with (first | ((with_reducible refine zqg (N := 55) rfl ?_); refine H.out.ld_row 1 rfl rfl rfl rfl Try.underlying29 rfl hs29 ?_; (try simp only [Act.put, zs1, zs2, zs3])) | ((with_reducible refine gate_store (t := 29) (p := 4) rfl ?_); refine H.out.st_row 3 rfl rfl (x := .tmp 4) (y := .tmp 55) rfl rfl rfl (#[.int .i64 s12, .int .i64 u12, .slice (some ⟨gp, 0, none⟩) dn c12]) rfl hs29 rfl (by simp [Value.oneCell']) ?_; intro ws15 H1; clear H; have H := H1; clear H1))
            exact bodyPost_ret (results_cell_row rfl _ _ g4 29 _ (0, 0) _ rfl (H.out.box 3 rfl) Try.underlying29 rfl (by kernel_rfl)) rfl (some_of H.out 4 5 2 rfl rfl rfl (by decide) (by decide) (HR.out.less (m' := m) (by omega)) (HDN.out) (Kd.Q_of_R OQ.out) (by have := HL5.out; have := HDN.out; omega))
        · skip
          have y2a : ((r14 : Int) == 2) = false := beq_eq_false_iff_ne.mpr y2
          have y2b : decide ((r14 : Int) = 2) = false := decide_eq_false y2
          clear y2
          by_cases y3 : (r14 : Int) = 3
          · skip
            have y3a : ((r14 : Int) == 3) = true := beq_iff_eq.mpr y3
            have y3b : decide ((r14 : Int) = 3) = true := decide_eq_true y3
            clear y3
            go_wp2
            obtain ⟨gq, eA, hs, h00, h01⟩ := elem37 O.out (i := 0) (by have := HDN.out; have := HL2.out; omega)
            cases eA
            obtain ⟨gq, eA, _, h10, h11⟩ := elem37 O.out (i := 1) (by have := HDN.out; have := HL2.out; omega)
            cases eA
            have hs := Az.mk hs
            have h10 := Az.mk h10
            have h11 := Az.mk h11
            clear h00 h01
            refine start_ (n := 8) (S := fun w' => Hq w0.heap.size w w' [.box g5 (#[.int .i64 s12, .int .i64 u12, .slice (some ⟨gp, 0, none⟩) dn c12]) 29, .set S wo]) (ds := [7]) (bm 8 0) (by kernel_rfl) rfl rfl (H.out.drew.sel [0, 1] _ (by decide) rfl) (fun hHeld => ?_)
            have H1 := Az.mk H.out.drew
            clear H; have H := H1; clear H1
            generalize World.drew _ = wd12 at hHeld H ⊢
            refine zP 0 (some 42) (bm 8 1) ?_
            refine zqt (i := 1) (N := some 43) (v := .slice (some ⟨gp, 0, none⟩) dn c12) (a' := ?_) (bm 8 3) rfl rfl (by kernel_rfl) (fun _ _ _ h => h) (Or.inl ⟨by rfl, fun w' s0 => s0.run_cell 0 rfl 2 rfl rfl rfl Try.underlying27 rfl⟩) hHeld ?_ ?_
            rotate_left
            · simp only [Act.put, zs1, zs2, zs3, i64_w, i32_w]
              rfl
            refine zP 2 (some 44) (bm 8 7) ?_
            refine zqt (i := 3) (N := some 45) (v := .slice (some ⟨gp, 0, none⟩) dn c12) (a' := ?_) (bm 8 15) rfl rfl (by kernel_rfl) (fun _ _ _ h => h) (Or.inl ⟨by rfl, fun w' s0 => s0.run_cell 0 rfl 2 rfl rfl rfl Try.underlying27 rfl⟩) hHeld ?_ ?_
            rotate_left
            · simp only [Act.put, zs1, zs2, zs3, i64_w, i32_w]
              rfl
            refine zP 4 (some 46) (bm 8 31) ?_
            refine zqt (i := 5) (N := some 47) (v := .agg #[.int .i64 (l.getD 1 z37).f0, .int .i64 (l.getD 1 z37).f1]) (a' := ?_) (bm 8 63) rfl rfl (by kernel_rfl) (fun _ _ _ h => h) (Or.inl ⟨by rfl, fun w' s0 => run_ld37 (s0.cell 1 rfl hs.out h10.out) (s0.cell 1 rfl hs.out h11.out) rfl rfl⟩) hHeld ?_ ?_
            rotate_left
            · simp only [Act.put, zs1, zs2, zs3, i64_w, i32_w]
              rfl
            refine zP 6 (some 48) (bm 8 127) ?_
            obtain ⟨l', h1, hq, hl⟩ := st37_of (i := 0) (y := l.getD 1 z37) H.out 1 rfl O.out (by have := HL2.out; omega)
            refine last_ (i := 7) (N := none) (bm 8 255) rfl rfl (by kernel_rfl) (by decide) (fun K hK => ?_)
            refine last_st (by rfl) rfl (run_st37 (H.out.rr 1 rfl O.out) (i := 0) (by have := HL2.out; omega) rfl rfl rfl (by simp [Value.oneCell'])) ?_
            have H1 := Az.mk h1
            have OQ := Az.mk hq
            have HDN1 := Az.mk (hl.trans HDN.out)
            clear h1 hq hl
            clear H HDN; have H := H1; have HDN := HDN1; clear H1 HDN1
            refine hK.out _ _ ?_
            clear hK K
            refine norm_ (a' := ?_) ?_ ?_
            rotate_left
            · rfl
            refine done_ (by kernel_rfl) ?_
            go_wp2_with (first | ((with_reducible refine zqg (N := 55) rfl ?_); refine H.out.ld_row 0 rfl rfl rfl rfl Try.underlying29 rfl hs29 ?_; (try simp only [Act.put, zs1, zs2, zs3])) | ((with_reducible refine gate_store (t := 29) (p := 4) rfl ?_); refine H.out.st_row 2 rfl rfl (x := .tmp 4) (y := .tmp 55) rfl rfl rfl (#[.int .i64 s12, .int .i64 u12, .slice (some ⟨gp, 0, none⟩) dn c12]) rfl hs29 rfl (by simp [Value.oneCell']) ?_; intro ws15 H1; clear H; have H := H1; clear H1))
            exact bodyPost_ret (results_cell_row rfl _ _ g4 29 _ (0, 0) _ rfl (H.out.box 2 rfl) Try.underlying29 rfl (by kernel_rfl)) rfl (some_of H.out 3 4 1 rfl rfl rfl (by decide) (by decide) (HR.out.less (m' := m) (by omega)) (HDN.out) (Kd.Q_of_R OQ.out) (by have := HL5.out; have := HDN.out; omega))
          · skip
            have y3a : ((r14 : Int) == 3) = false := beq_eq_false_iff_ne.mpr y3
            have y3b : decide ((r14 : Int) = 3) = false := decide_eq_false y3
            clear y3
            by_cases y4 : (r14 : Int) = 4
            · skip
              have y4a : ((r14 : Int) == 4) = true := beq_iff_eq.mpr y4
              have y4b : decide ((r14 : Int) = 4) = true := decide_eq_true y4
              clear y4
              go_wp2_with (first | ((with_reducible refine zqg (N := 52) rfl ?_); refine H.out.ld_cell 0 rfl 2 (v := .slice (some ⟨gp, 0, none⟩) dn c12) rfl rfl rfl rfl Try.underlying27 rfl ?_; (try simp only [Act.put, zs1, zs2, zs3])) | ((with_reducible refine zqg (N := 53) rfl ?_); refine Kd.event_run rfl (run_cut37 _ rfl rfl (by have := HL2.out; omega) (Kd.R_reads' O.out).2.1) ?_; (try simp only [Act.put, zs1, zs2, zs3])) | ((with_reducible refine gate_store (t := 27) (p := 54) rfl ?_); refine H.out.stb 0 rfl 2 (.slice (some ⟨gp, 2, none⟩) (dn - 1) (c12 - 1)) rfl rfl size27q rfl rfl rfl rfl rfl ?_; intro ws14 H1; clear H; have H := H1; clear H1) | ((with_reducible refine zqg (N := 55) rfl ?_); refine H.out.ld_row 0 rfl rfl rfl rfl Try.underlying29 rfl hs29 ?_; (try simp only [Act.put, zs1, zs2, zs3])) | ((with_reducible refine gate_store (t := 29) (p := 4) rfl ?_); refine H.out.st_row 2 rfl rfl (x := .tmp 4) (y := .tmp 55) rfl rfl rfl (#[.int .i64 s12, .int .i64 u12, .slice (some ⟨gp, 2, none⟩) (dn - 1) (c12 - 1)]) rfl hs29 rfl (by simp [Value.oneCell']) ?_; intro ws15 H1; clear H; have H := H1; clear H1))
              exact bodyPost_ret (results_cell_row rfl _ _ g4 29 _ (0, 0) _ rfl (H.out.box 2 rfl) Try.underlying29 rfl (by kernel_rfl)) rfl (some_of H.out 3 4 1 rfl rfl rfl (by decide) (by decide) (HR.out.less (m' := m) (by omega)) (by rw [List.length_drop, HDN.out]) (drop37 O.out HL2.out) (by rw [List.length_drop]; have := HL5.out; have := HDN.out; omega))
            · skip
              have y4a : ((r14 : Int) == 4) = false := beq_eq_false_iff_ne.mpr y4
              have y4b : decide ((r14 : Int) = 4) = false := decide_eq_false y4
              clear y4
              go_wp2_with (first | ((with_reducible refine zqg (N := 55) rfl ?_); refine H.out.ld_row 0 rfl rfl rfl rfl Try.underlying29 rfl hs29 ?_; (try simp only [Act.put, zs1, zs2, zs3])) | ((with_reducible refine gate_store (t := 29) (p := 4) rfl ?_); refine H.out.st_row 2 rfl rfl (x := .tmp 4) (y := .tmp 55) rfl rfl rfl (#[.int .i64 s12, .int .i64 u12, .slice (some ⟨gp, 0, none⟩) dn c12]) rfl hs29 rfl (by simp [Value.oneCell']) ?_; intro ws15 H1; clear H; have H := H1; clear H1))
              exact bodyPost_ret (results_cell_row rfl _ _ g4 29 _ (0, 0) _ rfl (H.out.box 2 rfl) Try.underlying29 rfl (by kernel_rfl)) rfl (some_of H.out 3 4 1 rfl rfl rfl (by decide) (by decide) (HR.out.less (m' := m) (by omega)) (HDN.out) (Kd.Q_of_R O.out) (by have := HL5.out; have := HDN.out; omega))
theorem some_callq {w0 ws w : World} {L : List Part} {b : List Int} {g m : Nat} {n : Int} {cs : Array Value} (hn : 3 ≤ n ∧ n ≤ 4) (hB : Below w0.heap.size w0 ws) (H : Hq w0.heap.size ws w L) (i j : Nat) (hij : i ≠ j) (e : L[i]? = some (.box g cs 113)) {S : Nat → Prop} {wo : World} (ej : L[j]? = some (.set S wo)) (hr : Rdr w0 b (m + 100) cs) :
    Calls Try.prog 64 #[.pointer (some ⟨g, 0, none⟩), .int .i64 n] w fun e w' => ∃ (y : S29) (v : Value) (cs' : Array Value), e = .returned (.agg #[.int .i64 y.f0, .int .i64 y.f1, v]) ∧ y.f2.length ≤ 5 ∧ Kd.Q k37 37 w' w0.heap.size (newS S w w') v y.f2 ∧ Rdr w0 b m cs' ∧
      Hq w0.heap.size ws w' ((L.set i (.box g cs' 113)).set j (.set (newS S w w') w')) ∧ ∀ k, S k → newS S w w' k ∧ w'.heap[k]? = wo.heap[k]? :=
  (l71Some_calls (m := m) hn (hB.trans H.bel) (H.box i e) (H.box_ge i e) hr).mono fun _ _ h => drawn29 H i j hij e ej h
end Go.Proofs.Ytkoimmeghdbodaa.Hq
namespace Go.Proofs.Ytkoimmeghdbodaa.Hq
open Go.RowKit Go.Proofs.Ytkoimmeghdbodaa.Print Go.Proofs.YtkoimmeghdbodaaW.PrintWords Go.Proofs.YtkoimmeghdbodaaW.PrintLast Go.Proofs.YtkoimmeghdbodaaW.PrintMore Go.Proofs.Ytkoimmeghdbodaa.Pure Go.Proofs.Ytkoimmeghdbodaa.Hd
theorem frz_own {wo : World} {b : Nat} {S : Nat → Prop} {gv n c : Nat} {D : List S65} (O : r65.R 65 wo b S (.slice (some ⟨gv, 0, none⟩) n c) D) (hg : S gv) {j : Nat} : wo.frozen? ⟨gv, j, none⟩ = false := by
  obtain ⟨cs, hc⟩ := Kd.R_typed O gv (by simp [Value.ownBlock])
  exact blk_frz0 hc j
theorem byte_at {w : World} {g : Nat} {x : Int} {t : TypeId} (h : w.heap[g]? = some (.cells #[.int .u8 x] t (0, 0))) : BytesAt w g [x] := fun i hi => by
  obtain rfl : i = 0 := by simpa using hi
  exact ⟨(zq4 h 0).trans rfl, blk_frz0 h 0⟩
set_option maxHeartbeats 16000000 in
set_option maxRecDepth 100000 in
theorem l71Off_calls {w0 w : World} {b : List Int} {g m : Nat} {n : Int} {cs : Array Value} (hn : 3 ≤ n ∧ n ≤ 4) (hB : Below w0.heap.size w0 w) (hbox : w.heap[g]? = some (.cells cs 113 (0, 0))) (hge : w0.heap.size ≤ g) (hr : Rdr w0 b (m + 3000) cs) : Calls Try.prog 82 #[.pointer (some ⟨g, 0, none⟩), .int .i64 n] w (DrawsOff w0 b g m w) := by
  have hs57 := size57
  have hs65 := size65q
  have hs29 := size29q
  have HNN := Az.mk hn
  have HB := Az.mk hB
  have HR := Az.mk hr
  have H := Az.mk (Hq.start_box' w hge hbox)
  have tk0 : True := trivial
  clear hB hbox hge hr hn
  go_enter Try.func82, Try.ntmps82
  go_upto_if 11 with (first | ((with_reducible refine zqg (N := 4) rfl ?_); refine H.out.bx rfl (#[.int .i64 0, .slice none 0 0]) 57 ?hr ?_; (case hr => first | (go_simp; done) | (go_simp; rfl)); intro g4 w4 H1; clear H; have H := H1; clear H1; (try simp only [Act.put, zs1, zs2, zs3])) | (go_at_call 89; have _tk := tk0; refine (root_callq (m := m + 500) HNN.out HB.out H.out 1 rfl (HR.out.less (by omega))).mono ?_; rintro e w8 ⟨tx, A5, c5, D, c8, rfl, hd, hl4, ho, hrd, h1⟩; have HD := Az.mk hd; have HL4 := Az.mk hl4; have O := Az.mk ho; have HR1 := Az.mk hrd; have H1 := Az.mk h1; clear hd hl4 ho hrd h1; clear H HR; have H := H1; have HR := HR1; clear H1 HR1; clear tk0 _tk; have tk1 : True := trivial) | ((with_reducible refine zqg (N := 5) rfl ?_); refine H.out.bx rfl (#[.int .i64 0, .slice none 0 0]) 57 ?hr ?_; (case hr => first | (go_simp; done) | (go_simp; rfl)); intro g5 w5 H1; clear H; have H := H1; clear H1; (try simp only [Act.put, zs1, zs2, zs3])) | ((with_reducible refine gate_store (t := 57) (p := 5) rfl ?_); refine H.out.st_row 0 rfl rfl (x := .tmp 5) (y := .tmp 8) rfl rfl rfl (#[.int .i64 tx, .slice A5 D.length c5]) rfl hs57 rfl (by simp [Value.oneCell']) ?_; intro ws1 H1; clear H; have H := H1; clear H1) | (go_at_call 65; have _tk := tk1; refine (pick_callq (m := m + 499) HB.out H.out 3 rfl (HR.out.less (by omega)) (12) (by omega)).mono ?_; rintro e w10 ⟨r10, c10, rfl, hr10, hrd, h1⟩; have HR1 := Az.mk hrd; have H1 := Az.mk h1; have hz10 := eq_true (Int.natCast_nonneg r10); clear hrd h1; clear H HR; have H := H1; have HR := HR1; clear H1 HR1; clear tk1 _tk; have tk2 : True := trivial))
  (try simp only [Act.put, zs1, zs2, zs3])
  obtain ⟨dn, hdn⟩ : ∃ dn, D.length = dn := ⟨_, rfl⟩
  rw [hdn] at O H ⊢
  have HDN := Az.mk hdn
  clear hdn
  obtain ⟨S, wo, O, H⟩ : ∃ (S : Nat → Prop) (wo : World), Az (r65.R 65 wo w0.heap.size S (.slice A5 dn c5) D) ∧ Az (Hq w0.heap.size w w10 [.box g5 (#[.int .i64 tx, .slice A5 dn c5]) 57, .set S wo, .box g4 (#[.int .i64 0, .slice none 0 0]) 57, .box g c10 113, .set (fun k => k ≠ g ∧ w0.heap.size ≤ k ∧ k < w.heap.size) w]) := ⟨_, _, O, ⟨H.out.sel [0, 1, 2, 3, 4] _ (by decide) rfl⟩⟩
  have HLE := HL4
  clear HL4
  by_cases hz : 0 < r10
  · have hzd : decide (0 < r10) = true := decide_eq_true hz
    have hzi : decide (0 < (r10 : Int)) = true := decide_eq_true (by omega)
    clear hz
    simp only [hzd]
    go_wp2_with (first | ((with_reducible refine zqg (N := 12) rfl ?_); refine H.out.ld_row 0 rfl rfl rfl rfl Try.underlying57 rfl hs57 ?_; (try simp only [Act.put, zs1, zs2, zs3])) | ((with_reducible refine gate_store (t := 57) (p := 4) rfl ?_); refine H.out.st_row 2 rfl rfl (x := .tmp 4) (y := .tmp 12) rfl rfl rfl (#[.int .i64 tx, .slice A5 dn c5]) rfl hs57 rfl (by simp [Value.oneCell']) ?_; intro ws3 H1; clear H; have H := H1; clear H1))
    exact bodyPost_ret (results_cell_row rfl _ _ g4 57 _ (0, 0) _ rfl (H.out.box 2 rfl) Try.underlying57 rfl (by kernel_rfl)) rfl (off_of H.out 3 4 1 rfl rfl rfl (by decide) (by decide) (HR.out.less (m' := m) (by omega)) HDN.out (R_q65 O.out) (FV.of HD.out (by have := HLE.out; omega)))
  · have hzd : decide (0 < r10) = false := decide_eq_false hz
    have hzi : decide (0 < (r10 : Int)) = false := decide_eq_false (by omega)
    clear hz
    simp only [hzd]
    go_upto_if 33 with (first | (go_at_call 65; have _tk := tk2; refine (pick_callq (m := m + 498) HB.out H.out 3 rfl (HR.out.less (by omega)) (6) (by omega)).mono ?_; rintro e w14 ⟨r14, c14, rfl, hr14, hrd, h1⟩; have HR1 := Az.mk hrd; have H1 := Az.mk h1; have hz14 := eq_true (Int.natCast_nonneg r14); clear hrd h1; clear H HR; have H := H1; have HR := HR1; clear H1 HR1; clear tk2 _tk; have tk3 : True := trivial))
    (try simp only [Act.put, zs1, zs2, zs3])
    by_cases y0 : (r14 : Int) = 0
    · skip
      have y0a : ((r14 : Int) == 0) = true := beq_iff_eq.mpr y0
      have y0b : decide ((r14 : Int) = 0) = true := decide_eq_true y0
      clear y0
      go_wp2_with (first | ((with_reducible refine zqg (N := 35) rfl ?_); refine H.out.lit rfl (#[.int .i64 (-1), .int .i64 100000, .int .i64 100001]) 3 3 ?hr ?_; (case hr => first | (go_simp; done) | (go_simp; rfl)); intro g35 w35 H1; clear H; have H := H1; clear H1; (try simp only [Act.put, zs1, zs2, zs3])) | (go_at_call 65; have _tk := tk3; refine (pick_callq (m := m + 497) HB.out H.out 4 rfl (HR.out.less (by omega)) (3) (by omega)).mono ?_; rintro e w37 ⟨r37, c37, rfl, hr37, hrd, h1⟩; have HR1 := Az.mk hrd; have H1 := Az.mk h1; have hz37 := eq_true (Int.natCast_nonneg r37); clear hrd h1; clear H HR; have H := H1; have HR := HR1; clear H1 HR1; clear tk3 _tk; have tk4 : True := trivial) | ((with_reducible refine zqg (N := 39) rfl ?_); refine H.out.ld_cell 0 rfl r37 (v := .int .i64 (litT r37)) (litT_get hr37) rfl rfl rfl Try.underlying3 rfl ?_; (try simp only [Act.put, zs1, zs2, zs3])) | ((with_reducible refine gate_store (t := 3) (p := 40) rfl ?_); refine H.out.stb 1 rfl 0 (.int .i64 (litT r37)) rfl rfl size3q rfl rfl rfl rfl rfl ?_; intro ws8 H1; clear H; have H := H1; clear H1) | ((with_reducible refine zqg (N := 96) rfl ?_); refine H.out.ld_row 1 rfl rfl rfl rfl Try.underlying57 rfl hs57 ?_; (try simp only [Act.put, zs1, zs2, zs3])) | ((with_reducible refine gate_store (t := 57) (p := 4) rfl ?_); refine H.out.st_row 3 rfl rfl (x := .tmp 4) (y := .tmp 96) rfl rfl rfl (#[.int .i64 (litT r37), .slice A5 dn c5]) rfl hs57 rfl (by simp [Value.oneCell']) ?_; intro ws20 H1; clear H; have H := H1; clear H1))
      exact bodyPost_ret (results_cell_row rfl _ _ g4 57 _ (0, 0) _ rfl (H.out.box 3 rfl) Try.underlying57 rfl (by kernel_rfl)) rfl (off_of H.out 4 5 2 rfl rfl rfl (by decide) (by decide) (HR.out.less (m' := m) (by omega)) HDN.out (R_q65 O.out) (FV.of HD.out (by have := HLE.out; omega)))
    · skip
      have y0a : ((r14 : Int) == 0) = false := beq_eq_false_iff_ne.mpr y0
      have y0b : decide ((r14 : Int) = 0) = false := decide_eq_false y0
      clear y0
      by_cases y1 : (r14 : Int) = 1
      · skip
        have y1a : ((r14 : Int) == 1) = true := beq_iff_eq.mpr y1
        have y1b : decide ((r14 : Int) = 1) = true := decide_eq_true y1
        clear y1
        go_wp2
        refine start_ (n := 8) (S := fun w' => Hq w0.heap.size w w' [.box g5 (#[.int .i64 tx, .slice A5 dn c5]) 57]) (ds := [7]) (bm 8 0) (by kernel_rfl) rfl rfl (H.out.drew.sel [0] _ (by decide) rfl) (fun hHeld => ?_)
        have H1 := Az.mk H.out.drew
        clear H; have H := H1; clear H1
        generalize World.drew _ = wd10 at hHeld H ⊢
        refine zP 0 (some 43) (bm 8 1) ?_
        refine zqt (i := 1) (N := some 44) (v := .slice A5 dn c5) (a' := ?_) (bm 8 3) rfl rfl (by kernel_rfl) (fun _ _ _ h => h) (Or.inl ⟨by rfl, fun w' s0 => s0.run_cell 0 rfl 1 rfl rfl rfl Try.underlying55 rfl⟩) hHeld ?_ ?_
        rotate_left
        · simp only [Act.put, zs1, zs2, zs3, i64_w, i32_w]
          rfl
        refine one_ (i := 2) (N := some 45) (bm 8 7) rfl rfl (by kernel_rfl) (by decide) (fun K hK => ?_)
        refine H.out.make29_ 1 rfl (by rfl) rfl rfl ?_
        intro gB cB w45 H1 hup V
        have O1 := Az.mk (R_up O.out hup)
        clear hup
        clear H O; have H := H1; have O := O1; clear H1 O1
        refine hK.out _ _ (H.out.sel [0] _ (by decide) rfl) (fun hHeld => ?_)
        clear hK K
        refine norm_ (a' := ?_) ?_ ?_
        rotate_left
        · show Act.put _ (some 45) _ = _
          simp only [Act.put, zs1, zs2, zs3, i64_w, i32_w]
          rfl
        refine zP 3 (some 46) (bm 8 15) ?_
        refine one_ (i := 4) (N := some 47) (bm 8 31) rfl rfl (by kernel_rfl) (by decide) (fun K hK => ?_)
        refine event_step (v := .slice (some ⟨w45.heap.size, 0, none⟩) 1 1) (w1 := w45.alloc (.cells #[.string ⟨#[65]⟩, .slice (some ⟨gB, 0, none⟩) 3 cB] 65)) (by rfl) (by first | (go_simp; done) | (go_simp; rfl)) ?_
        refine hK.out _ _ ((H.out.step (zq2 (Below.refl _ _) _)).sel [0] _ (by decide) rfl) (fun hHeld => ?_)
        clear hK K
        refine norm_ (a' := ?_) ?_ ?_
        rotate_left
        · show Act.put _ (some 47) _ = _
          simp only [Act.put, zs1, zs2, zs3, i64_w, i32_w]
          rfl
        refine one_ (i := 5) (N := some 48) (bm 8 63) rfl rfl (by kernel_rfl) (by decide) (fun K hK => ?_)
        refine H.out.app65_ 1 rfl O.out V.out (s := ⟨#[65]⟩) (by have := HLE.out; omega) (by rfl) (.tmp 44) (.tmp 47) rfl rfl rfl ?_
        intro A48 c48 w48 q48 HQ H1 O1
        clear H O; have H := H1; have O := O1; clear H1 O1
        refine hK.out _ _ (H.out.sel [0] _ (by decide) rfl) (fun hHeld => ?_)
        clear hK K
        refine norm_ (a' := ?_) ?_ ?_
        rotate_left
        · show Act.put _ (some 48) _ = _
          simp only [Act.put, zs1, zs2, zs3, i64_w, i32_w]
          rfl
        refine zP 6 (some 49) (bm 8 127) ?_
        refine last_ (i := 7) (N := none) (bm 8 255) rfl rfl (by kernel_rfl) (by decide) (fun K hK => ?_)
        refine H.out.last_cell 0 rfl 1 (.slice A48 q48.length c48) rfl (by rfl) size55q rfl rfl rfl rfl rfl ?_
        intro ws10 H1
        clear H; have H := H1; clear H1
        refine hK.out _ _ ?_
        clear hK K
        refine norm_ (a' := ?_) ?_ ?_
        rotate_left
        · rfl
        refine done_ (by kernel_rfl) ?_
        have HG := Az.mk (gv_snoc HQ.out HD.out gb_new)
        have HL5 := Az.mk (show q48.length ≤ 5 by have := HLE.out; rw [HQ.out, List.length_append, List.length_singleton]; omega)
        go_wp2_with (first | ((with_reducible refine zqg (N := 96) rfl ?_); refine H.out.ld_row 0 rfl rfl rfl rfl Try.underlying57 rfl hs57 ?_; (try simp only [Act.put, zs1, zs2, zs3])) | ((with_reducible refine gate_store (t := 57) (p := 4) rfl ?_); refine H.out.st_row 2 rfl rfl (x := .tmp 4) (y := .tmp 96) rfl rfl rfl (#[.int .i64 tx, .slice A48 q48.length c48]) rfl hs57 rfl (by simp [Value.oneCell']) ?_; intro ws20 H1; clear H; have H := H1; clear H1))
        exact bodyPost_ret (results_cell_row rfl _ _ g4 57 _ (0, 0) _ rfl (H.out.box 2 rfl) Try.underlying57 rfl (by kernel_rfl)) rfl (off_of H.out 3 4 1 rfl rfl rfl (by decide) (by decide) (HR.out.less (m' := m) (by omega)) (rfl) (R_q65 O.out) (FV.of HG.out HL5.out))
      · skip
        have y1a : ((r14 : Int) == 1) = false := beq_eq_false_iff_ne.mpr y1
        have y1b : decide ((r14 : Int) = 1) = false := decide_eq_false y1
        clear y1
        by_cases y2 : (r14 : Int) = 2
        · skip
          have y2a : ((r14 : Int) == 2) = true := beq_iff_eq.mpr y2
          have y2b : decide ((r14 : Int) = 2) = true := decide_eq_true y2
          clear y2
          have yp : 0 < dn ∨ ¬ 0 < dn := Decidable.em _
          rcases yp with yp | yp
          · have ypd : decide (0 < dn) = true := decide_eq_true yp
            have ypi : decide (0 < (dn : Int)) = true := decide_eq_true (by omega)
            obtain ⟨gv, gB, cB, x, eA, hgv, hx, _, hc0, hc1, hcB, hV, _⟩ := vol0 HD.out O.out yp
            subst eA
            have HV0 := Az.mk hc0
            have HV1 := Az.mk hc1
            have HGV := Az.mk hgv
            have HCB := Az.mk hcB
            have V := Az.mk hV
            have HX := Az.mk hx
            have YP := Az.mk yp
            have q0 := eq_true (show (0 : Int) < (dn : Int) by omega)
            have q3 := eq_true (show (0 : Int) ≤ 0 by omega)
            have q0n := eq_true yp
            clear hc0 hc1 hgv hcB hV hx yp
            go_upto_region 13 with (first | ((with_reducible refine zqg (N := 53) rfl ?_); refine H.out.ld_cell 0 rfl 1 (v := .slice (some ⟨gv, 0, none⟩) dn c5) rfl rfl rfl rfl Try.underlying55 rfl ?_; (try simp only [Act.put, zs1, zs2, zs3])))
            (try simp only [Act.put, zs1, zs2, zs3])
            refine start_ (n := 11) (S := fun w' => Hq w0.heap.size w w' [.box g5 (#[.int .i64 tx, .slice (some ⟨gv, 0, none⟩) dn c5]) 57, .set S wo]) (ds := [10]) (bm 11 0) (by kernel_rfl) rfl rfl (H.out.drew.sel [0, 1] _ (by decide) rfl) (fun hHeld => ?_)
            have H1 := Az.mk H.out.drew
            clear H; have H := H1; clear H1
            generalize World.drew _ = wd13 at hHeld H ⊢
            refine zP 0 (some 56) (bm 11 1) ?_
            refine zqt (i := 1) (N := some 57) (v := .slice (some ⟨gv, 0, none⟩) dn c5) (a' := ?_) (bm 11 3) rfl rfl (by kernel_rfl) (fun _ _ _ h => h) (Or.inl ⟨by rfl, fun w' s0 => s0.run_cell 0 rfl 1 rfl rfl rfl Try.underlying55 rfl⟩) hHeld ?_ ?_
            rotate_left
            · simp only [Act.put, zs1, zs2, zs3, i64_w, i32_w]
              rfl
            refine zP 2 (some 58) (bm 11 7) ?_
            refine zqt (i := 3) (N := some 59) (v := .slice (some ⟨gv, 0, none⟩) dn c5) (a' := ?_) (bm 11 15) rfl rfl (by kernel_rfl) (fun _ _ _ h => h) (Or.inl ⟨by rfl, fun w' s0 => s0.run_cell 0 rfl 1 rfl rfl rfl Try.underlying55 rfl⟩) hHeld ?_ ?_
            rotate_left
            · simp only [Act.put, zs1, zs2, zs3, i64_w, i32_w]
              rfl
            refine zP 4 (some 60) (bm 11 31) ?_
            refine zP 5 (some 61) (bm 11 63) ?_
            refine zqt (i := 6) (N := some 62) (v := .slice (some ⟨gB, 0, none⟩) 3 cB) (a' := ?_) (bm 11 127) rfl rfl (by kernel_rfl) (fun _ _ _ h => h) (Or.inl ⟨by rfl, fun w' s0 => run_c (v := .slice (some ⟨gB, 0, none⟩) 3 cB) (s0.cell 1 rfl HGV.out HV1.out) rfl rfl Try.underlying63 rfl⟩) hHeld ?_ ?_
            rotate_left
            · simp only [Act.put, zs1, zs2, zs3, i64_w, i32_w]
              rfl
            refine zqp (i := 7) (N := some 63) (v := .slice (some ⟨gB, 3, none⟩) 2 (cB - 1)) (a' := ?_) (bm 11 255) rfl rfl (by kernel_rfl) (fun _ _ _ h => h) (Or.inl ⟨by rfl, fun w' => run_cut w' rfl rfl HCB.out⟩) ?_ ?_
            rotate_left
            · simp only [Act.put, zs1, zs2, zs3, i64_w, i32_w]
              rfl
            refine zP 8 (some 64) (bm 11 511) ?_
            refine zP 9 (some 65) (bm 11 1023) ?_
            have HC := Az.mk (H.out.cell (v := .slice (some ⟨gB, 0, none⟩) 3 cB) 1 rfl HGV.out HV1.out)
            obtain ⟨D', hq, hfv, hln, hgr⟩ := cut0 (cB := cB) HD.out (by have := HLE.out; omega) (H.out.rr 1 rfl O.out) YP.out HC.out
            refine last_ (i := 10) (N := none) (bm 11 2047) rfl rfl (by kernel_rfl) (by decide) (fun K hK => ?_)
            refine last_st (by rfl) rfl (run_sc (v := .slice (some ⟨gB, 3, none⟩) 2 (cB - 1)) size63q HC.out (H.out.frz 1 rfl HGV.out (O.out |> fun O => ?hf)) rfl rfl rfl rfl) ?_
            (case hf => exact frz_own O HGV.out (j := 1))
            have H1 := Az.mk (H.out.wrote' 1 rfl HGV.out hgr (by simp [World.setCell]))
            have OQ := Az.mk hq
            have HF := Az.mk hfv
            have HDN1 := Az.mk (hln.trans HDN.out)
            clear hq hfv hln hgr HC
            clear H HDN; have H := H1; have HDN := HDN1; clear H1 HDN1
            refine hK.out _ _ ?_
            clear hK K
            refine norm_ (a' := ?_) ?_ ?_
            rotate_left
            · rfl
            refine done_ (by kernel_rfl) ?_
            go_wp2_with (first | ((with_reducible refine zqg (N := 96) rfl ?_); refine H.out.ld_row 0 rfl rfl rfl rfl Try.underlying57 rfl hs57 ?_; (try simp only [Act.put, zs1, zs2, zs3])) | ((with_reducible refine gate_store (t := 57) (p := 4) rfl ?_); refine H.out.st_row 2 rfl rfl (x := .tmp 4) (y := .tmp 96) rfl rfl rfl (#[.int .i64 tx, .slice (some ⟨gv, 0, none⟩) dn c5]) rfl hs57 rfl (by simp [Value.oneCell']) ?_; intro ws20 H1; clear H; have H := H1; clear H1))
            exact bodyPost_ret (results_cell_row rfl _ _ g4 57 _ (0, 0) _ rfl (H.out.box 2 rfl) Try.underlying57 rfl (by kernel_rfl)) rfl (off_of H.out 3 4 1 rfl rfl rfl (by decide) (by decide) (HR.out.less (m' := m) (by omega)) (HDN.out) (OQ.out) (HF.out))
          · have ypd : decide (0 < dn) = false := decide_eq_false yp
            have ypi : decide (0 < (dn : Int)) = false := decide_eq_false (by omega)
            clear yp
            go_wp2_with (first | ((with_reducible refine zqg (N := 53) rfl ?_); refine H.out.ld_cell 0 rfl 1 (v := .slice A5 dn c5) rfl rfl rfl rfl Try.underlying55 rfl ?_; (try simp only [Act.put, zs1, zs2, zs3])) | ((with_reducible refine zqg (N := 96) rfl ?_); refine H.out.ld_row 0 rfl rfl rfl rfl Try.underlying57 rfl hs57 ?_; (try simp only [Act.put, zs1, zs2, zs3])) | ((with_reducible refine gate_store (t := 57) (p := 4) rfl ?_); refine H.out.st_row 2 rfl rfl (x := .tmp 4) (y := .tmp 96) rfl rfl rfl (#[.int .i64 tx, .slice A5 dn c5]) rfl hs57 rfl (by simp [Value.oneCell']) ?_; intro ws20 H1; clear H; have H := H1; clear H1))
            exact bodyPost_ret (results_cell_row rfl _ _ g4 57 _ (0, 0) _ rfl (H.out.box 2 rfl) Try.underlying57 rfl (by kernel_rfl)) rfl (off_of H.out 3 4 1 rfl rfl rfl (by decide) (by decide) (HR.out.less (m' := m) (by omega)) (HDN.out) (R_q65 O.out) (FV.of HD.out (by have := HLE.out; omega)))
        · skip
          have y2a : ((r14 : Int) == 2) = false := beq_eq_false_iff_ne.mpr y2
          have y2b : decide ((r14 : Int) = 2) = false := decide_eq_false y2
          clear y2
          by_cases y3 : (r14 : Int) = 3
          · skip
            have y3a : ((r14 : Int) == 3) = true := beq_iff_eq.mpr y3
            have y3b : decide ((r14 : Int) = 3) = true := decide_eq_true y3
            clear y3
            have yp : 0 < dn ∨ ¬ 0 < dn := Decidable.em _
            rcases yp with yp | yp
            · have ypd : decide (0 < dn) = true := decide_eq_true yp
              have ypi : decide (0 < (dn : Int)) = true := decide_eq_true (by omega)
              obtain ⟨gv, gB, cB, x, eA, hgv, hx, _, hc0, hc1, hcB, hV, _⟩ := vol0 HD.out O.out yp
              subst eA
              have HV0 := Az.mk hc0
              have HV1 := Az.mk hc1
              have HGV := Az.mk hgv
              have HCB := Az.mk hcB
              have V := Az.mk hV
              have HX := Az.mk hx
              have YP := Az.mk yp
              have q0 := eq_true (show (0 : Int) < (dn : Int) by omega)
              have q3 := eq_true (show (0 : Int) ≤ 0 by omega)
              have q0n := eq_true yp
              clear hc0 hc1 hgv hcB hV hx yp
              go_upto_region 16 with (first | ((with_reducible refine zqg (N := 69) rfl ?_); refine H.out.ld_cell 0 rfl 1 (v := .slice (some ⟨gv, 0, none⟩) dn c5) rfl rfl rfl rfl Try.underlying55 rfl ?_; (try simp only [Act.put, zs1, zs2, zs3])))
              (try simp only [Act.put, zs1, zs2, zs3])
              refine start_ (n := 10) (S := fun w' => Hq w0.heap.size w w' [.box g5 (#[.int .i64 tx, .slice (some ⟨gv, 0, none⟩) dn c5]) 57, .set S wo]) (ds := [9]) (bm 10 0) (by kernel_rfl) rfl rfl (H.out.drew.sel [0, 1] _ (by decide) rfl) (fun hHeld => ?_)
              have H1 := Az.mk H.out.drew
              clear H; have H := H1; clear H1
              generalize World.drew _ = wd16 at hHeld H ⊢
              refine zP 0 (some 72) (bm 10 1) ?_
              refine zqt (i := 1) (N := some 73) (v := .slice (some ⟨gv, 0, none⟩) dn c5) (a' := ?_) (bm 10 3) rfl rfl (by kernel_rfl) (fun _ _ _ h => h) (Or.inl ⟨by rfl, fun w' s0 => s0.run_cell 0 rfl 1 rfl rfl rfl Try.underlying55 rfl⟩) hHeld ?_ ?_
              rotate_left
              · simp only [Act.put, zs1, zs2, zs3, i64_w, i32_w]
                rfl
              refine zP 2 (some 74) (bm 10 7) ?_
              refine zP 3 (some 75) (bm 10 15) ?_
              refine zqt (i := 4) (N := some 76) (v := .slice (some ⟨gB, 0, none⟩) 3 cB) (a' := ?_) (bm 10 31) rfl rfl (by kernel_rfl) (fun _ _ _ h => h) (Or.inl ⟨by rfl, fun w' s0 => run_c (v := .slice (some ⟨gB, 0, none⟩) 3 cB) (s0.cell 1 rfl HGV.out HV1.out) rfl rfl Try.underlying63 rfl⟩) hHeld ?_ ?_
              rotate_left
              · simp only [Act.put, zs1, zs2, zs3, i64_w, i32_w]
                rfl
              refine zP 5 (some 77) (bm 10 63) ?_
              refine zP 6 (some 78) (bm 10 127) ?_
              refine one_ (i := 7) (N := some 79) (bm 10 255) rfl rfl (by kernel_rfl) (by decide) (fun K hK => ?_)
              refine goes_ Try.func64 (by kernel_rfl) rfl #[.pointer (some ⟨g, 0, none⟩), .int .i64 n] (by rfl) rfl rfl (by (try simp only [List.map_toArray, List.map_cons, List.map_nil]); first | done | rfl) ?_
              refine (some_callq (m := m + 398) HNN.out HB.out H.out 3 1 (by decide) rfl rfl (HR.out.less (by omega))).mono ?_
              rintro e w79 ⟨y79, v79, c79, rfl, hy, hq, hrd, h1, hup⟩
              refine ⟨_, rfl, ?_⟩
              obtain ⟨A79, d79, rfl, _⟩ := Kd.Q_slice hq
              have HY := Az.mk hy
              have P9 := Az.mk hq
              have HR1 := Az.mk hrd
              have H1 := Az.mk h1
              have O1 := Az.mk (R_up O.out hup)
              have V1 := Az.mk (R_up V.out hup)
              have HH := (h1.back 1 rfl hup)
              clear hy hq hrd h1 hup
              clear H HR O V; have H := H1; have HR := HR1; have O := O1; have V := V1; clear H1 HR1 O1 V1
              refine hK.out _ _ (HH.sel [0, 1] _ (by decide) rfl) (fun hHeld => ?_)
              clear hK K HH
              refine norm_ (a' := ?_) ?_ ?_
              rotate_left
              · show Act.put _ (some 79) _ = _
                simp only [Act.put, zs1, zs2, zs3, i64_w, i32_w]
                rfl
              have HXL := Az.mk (show GB x.f1 from HD.out x HX.out)
              refine zP 8 (some 80) (bm 10 511) ?_
              refine last_ (i := 9) (N := none) (bm 10 1023) rfl rfl (by kernel_rfl) (by decide) (fun K hK => ?_)
              refine H.out.st29_ 1 rfl O.out HD.out V.out HXL.out (i := 0) (by decide) (q29_mkM (x := y79) P9.out) HY.out (by rfl) rfl (x := .tmp 80) (z := .tmp 79) rfl rfl rfl ?_
              intro D9 l9 w9 H1 O1 V1 e1 HD1 HL1
              have HDN1 := Az.mk (e1.out.trans HDN.out)
              have HLE1 := Az.mk (show D9.length ≤ 4 by rw [e1.out]; exact HLE.out)
              clear e1 P9 HX HXL V1
              clear H O HD HDN HLE; have H := H1; have O := O1; have HD := HD1; have HDN := HDN1; have HLE := HLE1; clear H1 O1 HD1 HDN1 HLE1
              refine hK.out _ _ ?_
              clear hK K
              refine norm_ (a' := ?_) ?_ ?_
              rotate_left
              · rfl
              refine done_ (by kernel_rfl) ?_
              go_wp2_with (first | ((with_reducible refine zqg (N := 96) rfl ?_); refine H.out.ld_row 0 rfl rfl rfl rfl Try.underlying57 rfl hs57 ?_; (try simp only [Act.put, zs1, zs2, zs3])) | ((with_reducible refine gate_store (t := 57) (p := 4) rfl ?_); refine H.out.st_row 2 rfl rfl (x := .tmp 4) (y := .tmp 96) rfl rfl rfl (#[.int .i64 tx, .slice (some ⟨gv, 0, none⟩) dn c5]) rfl hs57 rfl (by simp [Value.oneCell']) ?_; intro ws20 H1; clear H; have H := H1; clear H1))
              exact bodyPost_ret (results_cell_row rfl _ _ g4 57 _ (0, 0) _ rfl (H.out.box 2 rfl) Try.underlying57 rfl (by kernel_rfl)) rfl (off_of H.out 3 4 1 rfl rfl rfl (by decide) (by decide) (HR.out.less (m' := m) (by omega)) (HDN.out) (R_q65 O.out) (FV.of HD.out (by have := HLE.out; omega)))
            · have ypd : decide (0 < dn) = false := decide_eq_false yp
              have ypi : decide (0 < (dn : Int)) = false := decide_eq_false (by omega)
              clear yp
              go_wp2_with (first | ((with_reducible refine zqg (N := 69) rfl ?_); refine H.out.ld_cell 0 rfl 1 (v := .slice A5 dn c5) rfl rfl rfl rfl Try.underlying55 rfl ?_; (try simp only [Act.put, zs1, zs2, zs3])) | ((with_reducible refine zqg (N := 96) rfl ?_); refine H.out.ld_row 0 rfl rfl rfl rfl Try.underlying57 rfl hs57 ?_; (try simp only [Act.put, zs1, zs2, zs3])) | ((with_reducible refine gate_store (t := 57) (p := 4) rfl ?_); refine H.out.st_row 2 rfl rfl (x := .tmp 4) (y := .tmp 96) rfl rfl rfl (#[.int .i64 tx, .slice A5 dn c5]) rfl hs57 rfl (by simp [Value.oneCell']) ?_; intro ws20 H1; clear H; have H := H1; clear H1))
              exact bodyPost_ret (results_cell_row rfl _ _ g4 57 _ (0, 0) _ rfl (H.out.box 2 rfl) Try.underlying57 rfl (by kernel_rfl)) rfl (off_of H.out 3 4 1 rfl rfl rfl (by decide) (by decide) (HR.out.less (m' := m) (by omega)) (HDN.out) (R_q65 O.out) (FV.of HD.out (by have := HLE.out; omega)))
          · skip
            have y3a : ((r14 : Int) == 3) = false := beq_eq_false_iff_ne.mpr y3
            have y3b : decide ((r14 : Int) = 3) = false := decide_eq_false y3
            clear y3
            by_cases y4 : (r14 : Int) = 4
            · skip
              have y4a : ((r14 : Int) == 4) = true := beq_iff_eq.mpr y4
              have y4b : decide ((r14 : Int) = 4) = true := decide_eq_true y4
              clear y4
              have yp : 0 < dn ∨ ¬ 0 < dn := Decidable.em _
              rcases yp with yp | yp
              · have ypd : decide (0 < dn) = true := decide_eq_true yp
                have ypi : decide (0 < (dn : Int)) = true := decide_eq_true (by omega)
                obtain ⟨gv, gB, cB, x, eA, hgv, hx, _, hc0, hc1, hcB, hV, _⟩ := vol0 HD.out O.out yp
                subst eA
                have HV0 := Az.mk hc0
                have HV1 := Az.mk hc1
                have HGV := Az.mk hgv
                have HCB := Az.mk hcB
                have V := Az.mk hV
                have HX := Az.mk hx
                have YP := Az.mk yp
                have q0 := eq_true (show (0 : Int) < (dn : Int) by omega)
                have q3 := eq_true (show (0 : Int) ≤ 0 by omega)
                have q0n := eq_true yp
                clear hc0 hc1 hgv hcB hV hx yp
                go_upto_region 19 with (first | ((with_reducible refine zqg (N := 84) rfl ?_); refine H.out.ld_cell 0 rfl 1 (v := .slice (some ⟨gv, 0, none⟩) dn c5) rfl rfl rfl rfl Try.underlying55 rfl ?_; (try simp only [Act.put, zs1, zs2, zs3])))
                (try simp only [Act.put, zs1, zs2, zs3])
                refine start_ (n := 10) (S := fun w' => Hq w0.heap.size w w' [.box g5 (#[.int .i64 tx, .slice (some ⟨gv, 0, none⟩) dn c5]) 57, .set S wo]) (ds := [7, 9]) (bm 10 0) (by kernel_rfl) rfl rfl (H.out.drew.sel [0, 1] _ (by decide) rfl) (fun hHeld => ?_)
                have H1 := Az.mk H.out.drew
                clear H; have H := H1; clear H1
                generalize World.drew _ = wd19 at hHeld H ⊢
                refine zP 0 (some 87) (bm 10 1) ?_
                refine zqt (i := 1) (N := some 88) (v := .slice (some ⟨gv, 0, none⟩) dn c5) (a' := ?_) (bm 10 3) rfl rfl (by kernel_rfl) (fun _ _ _ h => h) (Or.inl ⟨by rfl, fun w' s0 => s0.run_cell 0 rfl 1 rfl rfl rfl Try.underlying55 rfl⟩) hHeld ?_ ?_
                rotate_left
                · simp only [Act.put, zs1, zs2, zs3, i64_w, i32_w]
                  rfl
                refine zP 2 (some 89) (bm 10 7) ?_
                refine zqt (i := 3) (N := some 90) (v := .slice (some ⟨gv, 0, none⟩) dn c5) (a' := ?_) (bm 10 15) rfl rfl (by kernel_rfl) (fun _ _ _ h => h) (Or.inl ⟨by rfl, fun w' s0 => s0.run_cell 0 rfl 1 rfl rfl rfl Try.underlying55 rfl⟩) hHeld ?_ ?_
                rotate_left
                · simp only [Act.put, zs1, zs2, zs3, i64_w, i32_w]
                  rfl
                refine zP 4 (some 91) (bm 10 31) ?_
                refine zqt (i := 5) (N := some 92) (v := .agg #[.string x.f0, .slice (some ⟨gB, 0, none⟩) 3 cB]) (a' := ?_) (bm 10 63) rfl rfl (by kernel_rfl) (fun _ _ _ h => h) (Or.inl ⟨by rfl, fun w' s0 => run_ld65 (s0.cell 1 rfl HGV.out HV0.out) (s0.cell 1 rfl HGV.out HV1.out) rfl rfl⟩) hHeld ?_ ?_
                rotate_left
                · simp only [Act.put, zs1, zs2, zs3, i64_w, i32_w]
                  rfl
                refine one_ (i := 6) (N := some 93) (bm 10 127) rfl rfl (by kernel_rfl) (by decide) (fun K hK => ?_)
                refine event_step (v := .slice (some ⟨wd19.heap.size, 0, none⟩) 1 1) (w1 := wd19.alloc (.cells #[.string x.f0, .slice (some ⟨gB, 0, none⟩) 3 cB] 65)) (by rfl) (by first | (go_simp; done) | (go_simp; rfl)) ?_
                refine hK.out _ _ ((H.out.step (zq2 (Below.refl _ _) _)).sel [0, 1] _ (by decide) rfl) (fun hHeld => ?_)
                clear hK K
                refine norm_ (a' := ?_) ?_ ?_
                rotate_left
                · show Act.put _ (some 93) _ = _
                  simp only [Act.put, zs1, zs2, zs3, i64_w, i32_w]
                  rfl
                have HXL := Az.mk (show GB x.f1 from HD.out x HX.out)
                refine last_ (i := 7) (N := some 94) (bm 10 255) rfl rfl (by kernel_rfl) (by decide) (fun K hK => ?_)
                refine H.out.app65_ 1 rfl O.out V.out (s := x.f0) (by have := HLE.out; omega) (by rfl) (.tmp 88) (.tmp 93) rfl rfl rfl ?_
                intro A94 c94 w94 q94 HQ H1 O1
                clear H O; have H := H1; have O := O1; clear H1 O1
                refine hK.out _ _ ?_
                clear hK K hHeld
                refine norm_ (a' := ?_) ?_ ?_
                rotate_left
                · show Act.put _ (some 94) _ = _
                  simp only [Act.put, zs1, zs2, zs3, i64_w, i32_w]
                  rfl
                refine zP 8 (some 95) (bm 10 511) ?_
                refine last_ (i := 9) (N := none) (bm 10 1023) rfl rfl (by kernel_rfl) (by decide) (fun K hK => ?_)
                refine H.out.last_cell 0 rfl 1 (.slice A94 q94.length c94) rfl (by rfl) size55q rfl rfl rfl rfl rfl ?_
                intro ws19 H1
                clear H; have H := H1; clear H1
                refine hK.out _ _ ?_
                clear hK K
                refine norm_ (a' := ?_) ?_ ?_
                rotate_left
                · rfl
                refine done_ (by kernel_rfl) ?_
                have HG := Az.mk (gv_snoc HQ.out HD.out HXL.out)
                have HL5 := Az.mk (show q94.length ≤ 5 by have := HLE.out; rw [HQ.out, List.length_append, List.length_singleton]; omega)
                go_wp2_with (first | ((with_reducible refine zqg (N := 96) rfl ?_); refine H.out.ld_row 0 rfl rfl rfl rfl Try.underlying57 rfl hs57 ?_; (try simp only [Act.put, zs1, zs2, zs3])) | ((with_reducible refine gate_store (t := 57) (p := 4) rfl ?_); refine H.out.st_row 2 rfl rfl (x := .tmp 4) (y := .tmp 96) rfl rfl rfl (#[.int .i64 tx, .slice A94 q94.length c94]) rfl hs57 rfl (by simp [Value.oneCell']) ?_; intro ws20 H1; clear H; have H := H1; clear H1))
                exact bodyPost_ret (results_cell_row rfl _ _ g4 57 _ (0, 0) _ rfl (H.out.box 2 rfl) Try.underlying57 rfl (by kernel_rfl)) rfl (off_of H.out 3 4 1 rfl rfl rfl (by decide) (by decide) (HR.out.less (m' := m) (by omega)) (rfl) (R_q65 O.out) (FV.of HG.out HL5.out))
              · have ypd : decide (0 < dn) = false := decide_eq_false yp
                have ypi : decide (0 < (dn : Int)) = false := decide_eq_false (by omega)
                clear yp
                go_wp2_with (first | ((with_reducible refine zqg (N := 84) rfl ?_); refine H.out.ld_cell 0 rfl 1 (v := .slice A5 dn c5) rfl rfl rfl rfl Try.underlying55 rfl ?_; (try simp only [Act.put, zs1, zs2, zs3])) | ((with_reducible refine zqg (N := 96) rfl ?_); refine H.out.ld_row 0 rfl rfl rfl rfl Try.underlying57 rfl hs57 ?_; (try simp only [Act.put, zs1, zs2, zs3])) | ((with_reducible refine gate_store (t := 57) (p := 4) rfl ?_); refine H.out.st_row 2 rfl rfl (x := .tmp 4) (y := .tmp 96) rfl rfl rfl (#[.int .i64 tx, .slice A5 dn c5]) rfl hs57 rfl (by simp [Value.oneCell']) ?_; intro ws20 H1; clear H; have H := H1; clear H1))
                exact bodyPost_ret (results_cell_row rfl _ _ g4 57 _ (0, 0) _ rfl (H.out.box 2 rfl) Try.underlying57 rfl (by kernel_rfl)) rfl (off_of H.out 3 4 1 rfl rfl rfl (by decide) (by decide) (HR.out.less (m' := m) (by omega)) (HDN.out) (R_q65 O.out) (FV.of HD.out (by have := HLE.out; omega)))
            · skip
              have y4a : ((r14 : Int) == 4) = false := beq_eq_false_iff_ne.mpr y4
              have y4b : decide ((r14 : Int) = 4) = false := decide_eq_false y4
              clear y4
              go_wp2
              simp only [y0a]
              go_loopg [] (6 - D.length) (fun kq w' => ∃ (A5 : Option Addr) (c5 dn : Nat) (D : List S65) (S : Nat → Prop) (wo : World), Az (D.length + kq = 6) ∧ Az (D.length ≤ 5) ∧ Az (D.length = dn) ∧ Az (GV D) ∧ Az (r65.R 65 wo w0.heap.size S (.slice A5 dn c5) D) ∧ Az (Hq w0.heap.size w w' [.box g5 (#[.int .i64 tx, .slice A5 dn c5]) 57, .set S wo, .box g4 (#[.int .i64 0, .slice none 0 0]) 57, .box g c14 113, .set (fun k => k ≠ g ∧ w0.heap.size ≤ k ∧ k < w.heap.size) w]))
              case atStart => exact ⟨A5, c5, dn, D, _, _, ⟨by have := HLE.out; omega⟩, ⟨by have := HLE.out; omega⟩, HDN, HD, O, H⟩
              case round =>
                clear H O HD HDN HLE
                obtain ⟨A5, c5, dn, D, S, wo, HKQ, HLE, HDN, HD, O, H⟩ := hrel
                have tk0 : True := trivial
                obtain ⟨gk5, hg5⟩ : ∃ x, x = gk := ⟨_, rfl⟩
                subst hg5
                by_cases hl : dn ≤ 4
                · have ypd : decide (dn ≤ 4) = true := decide_eq_true hl
                  have ypi : decide ((dn : Int) ≤ 4) = true := decide_eq_true (by omega)
                  have HDL := Az.mk hl
                  clear hl
                  go_upto_region 6 with (first | ((with_reducible refine zqg (N := 16) rfl ?_); refine H.out.ld_cell 0 rfl 1 (v := .slice A5 dn c5) rfl rfl rfl rfl Try.underlying55 rfl ?_; (try simp only [Act.put, zs1, zs2, zs3])))
                  (try simp only [Act.put, zs1, zs2, zs3])
                  refine start_ (n := 15) (S := fun w' => Hq w0.heap.size w w' [.box g5 (#[.int .i64 tx, .slice A5 dn c5]) 57]) (ds := [14]) (bm 15 0) (by kernel_rfl) rfl rfl (H.out.drew.sel [0] _ (by decide) rfl) (fun hHeld => ?_)
                  have H1 := Az.mk H.out.drew
                  clear H; have H := H1; clear H1
                  generalize World.drew wr = wd6 at hHeld H ⊢
                  refine zP 0 (some 19) (bm 15 1) ?_
                  refine zqt (i := 1) (N := some 20) (v := .slice A5 dn c5) (a' := ?_) (bm 15 3) rfl rfl (by kernel_rfl) (fun _ _ _ h => h) (Or.inl ⟨by rfl, fun w' s0 => s0.run_cell 0 rfl 1 rfl rfl rfl Try.underlying55 rfl⟩) hHeld ?_ ?_
                  rotate_left
                  · simp only [Act.put, zs1, zs2, zs3, i64_w, i32_w]
                    rfl
                  refine zP 2 (some 21) (bm 15 7) ?_
                  refine zqt (i := 3) (N := some 22) (v := .slice A5 dn c5) (a' := ?_) (bm 15 15) rfl rfl (by kernel_rfl) (fun _ _ _ h => h) (Or.inl ⟨by rfl, fun w' s0 => s0.run_cell 0 rfl 1 rfl rfl rfl Try.underlying55 rfl⟩) hHeld ?_ ?_
                  rotate_left
                  · simp only [Act.put, zs1, zs2, zs3, i64_w, i32_w]
                    rfl
                  refine zP 4 (some 23) (bm 15 31) ?_
                  refine zP 5 (some 24) (bm 15 63) ?_
                  refine zP 6 (some 25) (bm 15 127) ?_
                  refine join_ (σ := Nat × ByteArray × Nat × Nat) 5 (bm 15 1023) (fun s => [(26, .slice (some ⟨s.1, 0, none⟩) 1 1), (27, .string s.2.1), (28, .slice (some ⟨s.2.2.1, 0, none⟩) 3 s.2.2.2)]) (fun s w' => ∃ (S : Nat → Prop) (wo : World), Az (r65.R 65 wo w0.heap.size S (.slice A5 dn c5) D) ∧ Az (q29.R 29 wo w0.heap.size S (.slice (some ⟨s.2.2.1, 0, none⟩) 3 s.2.2.2) (List.replicate 3 z29)) ∧ Az (Hq w0.heap.size w w' [.box g5 (#[.int .i64 tx, .slice A5 dn c5]) 57, .set S wo, .box g4 (#[.int .i64 0, .slice none 0 0]) 57, .box g c14 113, .set (fun k => k ≠ g ∧ w0.heap.size ≤ k ∧ k < w.heap.size) w])) ?_ ?_
                  · rintro ⟨gn, s27, gB, cB⟩ wj ⟨S, wo, O, V, H⟩
                    refine norm_ (a' := ?_) ?_ ?_
                    rotate_left
                    · simp only [putAll, Act.put, zs1, zs2, zs3]
                      rfl
                    refine zP 10 (some 29) (bm 15 2047) ?_
                    refine one_ (i := 11) (N := some 30) (bm 15 4095) rfl rfl (by kernel_rfl) (by decide) (fun K hK => ?_)
                    refine event_step (v := .slice (some ⟨wj.heap.size, 0, none⟩) 1 1) (w1 := wj.alloc (.cells #[.string s27, .slice (some ⟨gB, 0, none⟩) 3 cB] 65)) (by rfl) (by first | (go_simp; done) | (go_simp; rfl)) ?_
                    refine hK.out _ _ ((H.out.step (zq2 (Below.refl _ _) _)).sel [0] _ (by decide) rfl) (fun hHeld => ?_)
                    clear hK K
                    refine norm_ (a' := ?_) ?_ ?_
                    rotate_left
                    · show Act.put _ (some 30) _ = _
                      simp only [Act.put, zs1, zs2, zs3, i64_w, i32_w]
                      rfl
                    refine one_ (i := 12) (N := some 31) (bm 15 8191) rfl rfl (by kernel_rfl) (by decide) (fun K hK => ?_)
                    refine H.out.app65_ 1 rfl O.out V.out (s := s27) (by have := HLE.out; omega) (by rfl) (.tmp 20) (.tmp 30) rfl rfl rfl ?_
                    intro A31 c31 w31 q31 HQ H1 O1
                    clear H O; have H := H1; have O := O1; clear H1 O1
                    refine hK.out _ _ (H.out.sel [0] _ (by decide) rfl) (fun hHeld => ?_)
                    clear hK K
                    refine norm_ (a' := ?_) ?_ ?_
                    rotate_left
                    · show Act.put _ (some 31) _ = _
                      simp only [Act.put, zs1, zs2, zs3, i64_w, i32_w]
                      rfl
                    refine zP 13 (some 32) (bm 15 16383) ?_
                    refine last_ (i := 14) (N := none) (bm 15 32767) rfl rfl (by kernel_rfl) (by decide) (fun K hK => ?_)
                    refine H.out.last_cell 0 rfl 1 (.slice A31 q31.length c31) rfl (by rfl) size55q rfl rfl rfl rfl rfl ?_
                    intro ws6 H1
                    clear H; have H := H1; clear H1
                    refine hK.out _ _ ?_
                    clear hK K
                    refine norm_ (a' := ?_) ?_ ?_
                    rotate_left
                    · rfl
                    refine done_ (by kernel_rfl) ?_
                    have HL5 := Az.mk (show q31.length = D.length + 1 by rw [HQ.out, List.length_append, List.length_singleton])
                    go_wp2
                    go_roundg (6 - q31.length)
                    case measure => have := HKQ.out; have := HL5.out; have := HLE.out; omega
                    case rel => exact ⟨A31, c31, q31.length, q31, _, _, ⟨by have := HL5.out; have := HDL.out; have := HDN.out; omega⟩, ⟨by have := HL5.out; have := HDL.out; have := HDN.out; omega⟩, ⟨rfl⟩, ⟨gv_snoc HQ.out HD.out gb_new⟩, O, ⟨H.out.sel [0, 1, 2, 3, 4] _ (by decide) rfl⟩⟩
                  · intro hcont
                    refine two_ (i := 7) (j := 9) (Ni := some 26) (Nj := some 28) (bm 15 255) (bm 15 639) rfl rfl rfl rfl (by kernel_rfl) (by decide) (by decide) ?_ ?_
                    · intro K hK
                      refine H.out.lit_ (by rfl) #[.int .u8 (IntKind.u8.wrap (wrap64 (107 + (dn : Int))))] 5 1 ?hr ?_
                      (case hr => first | (go_simp; done) | (go_simp; rfl))
                      intro gn w26 H1
                      clear H; have H := H1; clear H1
                      refine hK.out _ _ ?_ (fun hHeld => ?_)
                      · exact H.out.sel [1] _ (by decide) rfl
                      clear hK K hHeld
                      refine two_ (i := 8) (j := 9) (Ni := some 27) (Nj := some 28) (bm 15 511) (bm 15 767) rfl rfl rfl rfl (by kernel_rfl) (by decide) (by decide) ?_ ?_
                      · intro K hK
                        refine event_step (v := .string (strOfNums [IntKind.u8.wrap (wrap64 (107 + (dn : Int)))])) (by rfl) (run_back (xs := [IntKind.u8.wrap (wrap64 (107 + (dn : Int)))]) Try.underlying9 Try.underlying33 Try.underlying5 rfl rfl rfl (byte_at (H.out.box 0 rfl))) ?_
                        refine hK.out _ _ ?_ (fun hHeld => ?_)
                        · exact H.out.sel [1] _ (by decide) rfl
                        clear hK K hHeld
                        refine one_ (i := 9) (N := some 28) (bm 15 1023) rfl rfl (by kernel_rfl) (by decide) (fun K hK => ?_)
                        refine H.out.make29_ 2 rfl (by rfl) rfl rfl ?_
                        intro gB cB w28 H1 hup V
                        have O1 := Az.mk (R_up O.out hup)
                        clear hup
                        clear H O; have H := H1; have O := O1; clear H1 O1
                        refine hK.out _ _ ?_ (fun hHeld => ?_)
                        · exact H.out.sel [1] _ (by decide) rfl
                        clear hK K hHeld
                        refine norm_ ?_ (hcont (gn, strOfNums [IntKind.u8.wrap (wrap64 (107 + (dn : Int)))], gB, cB) _ ⟨_, _, O, V, ⟨H.out.sel [1, 2, 3, 4, 5] _ (by decide) rfl⟩⟩)
                        simp only [putAll, Act.put, zs1, zs2, zs3]
                        rfl
                      · intro K hK
                        refine H.out.make29_ 2 rfl (by rfl) rfl rfl ?_
                        intro gB cB w28 H1 hup V
                        have O1 := Az.mk (R_up O.out hup)
                        clear hup
                        clear H O; have H := H1; have O := O1; clear H1 O1
                        refine hK.out _ _ ?_ (fun hHeld => ?_)
                        · exact H.out.sel [1] _ (by decide) rfl
                        clear hK K hHeld
                        refine one_ (i := 8) (N := some 27) (bm 15 1023) rfl rfl (by kernel_rfl) (by decide) (fun K hK => ?_)
                        refine event_step (v := .string (strOfNums [IntKind.u8.wrap (wrap64 (107 + (dn : Int)))])) (by rfl) (run_back (xs := [IntKind.u8.wrap (wrap64 (107 + (dn : Int)))]) Try.underlying9 Try.underlying33 Try.underlying5 rfl rfl rfl (byte_at (H.out.box 0 rfl))) ?_
                        refine hK.out _ _ ?_ (fun hHeld => ?_)
                        · exact H.out.sel [1] _ (by decide) rfl
                        clear hK K hHeld
                        refine norm_ ?_ (hcont (gn, strOfNums [IntKind.u8.wrap (wrap64 (107 + (dn : Int)))], gB, cB) _ ⟨_, _, O, V, ⟨H.out.sel [1, 2, 3, 4, 5] _ (by decide) rfl⟩⟩)
                        simp only [putAll, Act.put, zs1, zs2, zs3]
                        rfl
                    · intro K hK
                      refine H.out.make29_ 1 rfl (by rfl) rfl rfl ?_
                      intro gB cB w28 H1 hup V
                      have O1 := Az.mk (R_up O.out hup)
                      clear hup
                      clear H O; have H := H1; have O := O1; clear H1 O1
                      refine hK.out _ _ ?_ (fun hHeld => ?_)
                      · exact H.out.sel [0] _ (by decide) rfl
                      clear hK K hHeld
                      refine one_ (i := 7) (N := some 26) (bm 15 767) rfl rfl (by kernel_rfl) (by decide) (fun K hK => ?_)
                      refine H.out.lit_ (by rfl) #[.int .u8 (IntKind.u8.wrap (wrap64 (107 + (dn : Int))))] 5 1 ?hr ?_
                      (case hr => first | (go_simp; done) | (go_simp; rfl))
                      intro gn w26 H1
                      clear H; have H := H1; clear H1
                      refine hK.out _ _ ?_ (fun hHeld => ?_)
                      · exact H.out.sel [1] _ (by decide) rfl
                      clear hK K hHeld
                      refine one_ (i := 8) (N := some 27) (bm 15 1023) rfl rfl (by kernel_rfl) (by decide) (fun K hK => ?_)
                      refine event_step (v := .string (strOfNums [IntKind.u8.wrap (wrap64 (107 + (dn : Int)))])) (by rfl) (run_back (xs := [IntKind.u8.wrap (wrap64 (107 + (dn : Int)))]) Try.underlying9 Try.underlying33 Try.underlying5 rfl rfl rfl (byte_at (H.out.box 0 rfl))) ?_
                      refine hK.out _ _ ?_ (fun hHeld => ?_)
                      · exact H.out.sel [1] _ (by decide) rfl
                      clear hK K hHeld
                      refine norm_ ?_ (hcont (gn, strOfNums [IntKind.u8.wrap (wrap64 (107 + (dn : Int)))], gB, cB) _ ⟨_, _, O, V, ⟨H.out.sel [1, 2, 3, 4, 5] _ (by decide) rfl⟩⟩)
                      simp only [putAll, Act.put, zs1, zs2, zs3]
                      rfl
                · have ypd : decide (dn ≤ 4) = false := decide_eq_false hl
                  have ypi : decide ((dn : Int) ≤ 4) = false := decide_eq_false (by omega)
                  clear hl
                  go_wp2_with (first | ((with_reducible refine zqg (N := 16) rfl ?_); refine H.out.ld_cell 0 rfl 1 (v := .slice A5 dn c5) rfl rfl rfl rfl Try.underlying55 rfl ?_; (try simp only [Act.put, zs1, zs2, zs3])) | ((with_reducible refine zqg (N := 96) rfl ?_); refine H.out.ld_row 0 rfl rfl rfl rfl Try.underlying57 rfl hs57 ?_; (try simp only [Act.put, zs1, zs2, zs3])) | ((with_reducible refine gate_store (t := 57) (p := 4) rfl ?_); refine H.out.st_row 2 rfl rfl (x := .tmp 4) (y := .tmp 96) rfl rfl rfl (#[.int .i64 tx, .slice A5 dn c5]) rfl hs57 rfl (by simp [Value.oneCell']) ?_; intro ws20 H1; clear H; have H := H1; clear H1))
                  exact bodyPost_ret (results_cell_row rfl _ _ g4 57 _ (0, 0) _ rfl (H.out.box 2 rfl) Try.underlying57 rfl (by kernel_rfl)) rfl (off_of H.out 3 4 1 rfl rfl rfl (by decide) (by decide) (HR.out.less (m' := m) (by omega)) (HDN.out) (R_q65 O.out) (FV.of HD.out HLE.out))
end Go.Proofs.Ytkoimmeghdbodaa.Hq
namespace Go.Proofs.Ytkoimmeghdbodaa.Hq
open Go.RowKit Go.Proofs.Ytkoimmeghdbodaa.Print Go.Proofs.YtkoimmeghdbodaaW.PrintWords Go.Proofs.YtkoimmeghdbodaaW.PrintLast Go.Proofs.YtkoimmeghdbodaaW.PrintMore Go.Proofs.Ytkoimmeghdbodaa.Pure Go.Proofs.Ytkoimmeghdbodaa.Hd
def Boxes : List Part → Prop
  | [] => True
  | .box _ _ t :: L => t ≠ 113 ∧ Boxes L
  | .set _ _ :: _ => False
theorem Boxes.all : ∀ {L : List Part}, Boxes L → ∀ p ∈ L, ∃ g' cs' t', p = .box g' cs' t' ∧ t' ≠ 113
  | .box g cs t :: L, h, p, hp => by
    rcases List.mem_cons.1 hp with rfl | hp
    · exact ⟨g, cs, t, rfl, h.1⟩
    · exact Boxes.all h.2 p hp
theorem Hq.opened {base : Nat} {ws w w' : World} {L : List Part} (H : Hq base ws w L) (hb : Below w.heap.size w w') {g : Nat} {cs : Array Value} (hg : base ≤ g) (hbox : w'.heap[g]? = some (.cells cs 113 (0, 0))) (ht : ∀ p ∈ L, ∃ g' cs' t', p = .box g' cs' t' ∧ t' ≠ 113) : Hq base ws w' (.box g cs 113 :: L) := by
  have H' := H.step hb
  refine ⟨H'.bel, H'.ge, fun q hq => ?_, List.pairwise_cons.2 ⟨fun q hq k h1 h2 => ?_, H'.dis⟩⟩
  · rcases List.mem_cons.1 hq with rfl | hq
    · exact ⟨fun k hk => by
        obtain rfl : k = g := hk
        exact ⟨hg, blk_lt hbox⟩, hbox⟩
    · exact H'.all q hq
  · obtain ⟨g', cs', t', rfl, hne⟩ := ht q hq
    have h3 := (H'.all _ hq).2
    obtain rfl : k = g := h1
    obtain rfl : k = g' := h2
    have h4 : w'.heap[k]? = some (.cells cs' t' (0, 0)) := h3
    rw [hbox] at h4
    injection h4 with h4
    injection h4 with _ h4
    exact hne h4.symm
section
variable {w0 w : World} {L : List Part}
theorem open_callq (H : Hq w0.heap.size w0 w L) {A : Option Addr} {c : Nat} {l : List Int} (hC : Kd.C (Kd.int .u8) w0 A l.length l) (hc : l.length ≤ c) (hw : ∀ x ∈ l, (Lit.int .u8 x).wf = true) (ht : Boxes L) :
    Calls Try.prog 62 #[.slice A l.length c] w fun e w' => ∃ (g : Nat) (cs : Array Value) (b : List Int), e = .returned (.pointer (some ⟨g, 0, none⟩)) ∧ Rdr w0 b 400000 cs ∧ Hq w0.heap.size w0 w' (.box g cs 113 :: L) := by
  obtain ⟨b, hb, hcode⟩ := open_ev l hw
  refine (spec_l6Open.calls A c l b 0 w0 w H.bel hC hc hb).mono fun e w' hh => ?_
  obtain ⟨g, he, ⟨A', c', h1, h2, h3⟩, _, hb2⟩ := hh
  exact ⟨g, _, b, he, ⟨⟨A', c', 0, rfl, h3, by omega, by omega⟩, hcode⟩, H.opened hb2 h2 h1 ht.all⟩
theorem off_callq {ws : World} {b : List Int} {g m : Nat} {n : Int} {cs : Array Value} (hn : 3 ≤ n ∧ n ≤ 4) (hB : Below w0.heap.size w0 ws) (H : Hq w0.heap.size ws w L) (i : Nat) (e : L[i]? = some (.box g cs 113)) (hr : Rdr w0 b (m + 3000) cs) :
    Calls Try.prog 82 #[.pointer (some ⟨g, 0, none⟩), .int .i64 n] w fun e w' => ∃ (tx : Int) (M : AC) (D : List S65) (cs' : Array Value), e = .returned (.agg #[.int .i64 tx, .slice M.1 D.length M.2]) ∧ FV D ∧ q65.R 65 w' w0.heap.size (fun k => w.heap.size ≤ k ∧ k < w'.heap.size) (.slice M.1 D.length M.2) D ∧ Rdr w0 b m cs' ∧ Hq w0.heap.size ws w' (.set (fun k => w.heap.size ≤ k ∧ k < w'.heap.size) w' :: L.set i (.box g cs' 113)) := by
  refine (l71Off_calls (m := m) hn (hB.trans H.bel) (H.box i e) (H.box_ge i e) hr).mono fun e' w' h => ?_
  obtain ⟨tx, M, D, cs', he, h1, h3, h4, h5, h6, h7⟩ := h
  exact ⟨tx, M, D, cs', he, h1, h3, h4, H.drawn i e h5 h6 h7⟩
theorem rdr_of {base : Nat} {ws w : World} {L : List Part} {S : Nat → Prop} {wo : World} {b : Nat} (H : Hq base ws w L) (j : Nat) (ej : L[j]? = some (.set S wo)) {M : AC} {D : List S65} (O : q65.R 65 wo b S (.slice M.1 D.length M.2) D) : RdR w M D := by
  have q := Kd.R_reads' (H.rr j ej O)
  exact ⟨q.2.1, C65 q.2.2⟩
end
def OwnQ (w w' : World) (M : AC) (D : List S65) : Prop := q65.R 65 w' w.heap.size (fun k => w.heap.size ≤ k ∧ k < w'.heap.size) (.slice M.1 D.length M.2) D
theorem ownq_of {ws w : World} {L : List Part} {S : Nat → Prop} {wo : World} (H : Hq ws.heap.size ws w L) (j : Nat) (ej : L[j]? = some (.set S wo)) {M : AC} {D : List S65} (O : q65.R 65 wo ws.heap.size S (.slice M.1 D.length M.2) D) : OwnQ ws w M D := Kd.R_mono (Kd.R_bound (H.rr j ej O)) fun k hk => ⟨hk.2.1, hk.2.2.1⟩
def GivesR (w : World) (e : Ending) (w' : World) : Prop := ∃ (n tx : Int) (M : AC) (D : List S65), e = .returned (.tuple #[.int .i64 n, .agg (cR M (tx, D))]) ∧ (3 ≤ n ∧ n ≤ 4) ∧ FV D ∧ OwnQ w w' M D ∧ Below w.heap.size w w'
set_option maxHeartbeats 8000000 in
set_option maxRecDepth 100000 in
theorem drawRoot_call (w : World) {A : Option Addr} {c : Nat} {l : List Int} (hC : Kd.C (Kd.int .u8) w A l.length l) (hc : l.length ≤ c) (hw : ∀ x ∈ l, (Lit.int .u8 x).wf = true) : Calls Try.prog 40 #[.slice A l.length c] w (GivesR w) := by
  have hs57 := size57
  have HC := Az.mk hC
  have HB := Az.mk (Below.refl w.heap.size w)
  have H := Az.mk (Hq.start w)
  have tk0 : True := trivial
  clear hC
  go_enter Try.func40, Try.ntmps40
  go_wp2_with (first | ((with_reducible refine zqg (N := 3) rfl ?_); refine H.out.bx rfl (#[.int .i64 0, .slice none 0 0]) 57 ?hr ?_; (case hr => first | (go_simp; done) | (go_simp; rfl)); intro g3 w3 H1; clear H; have H := H1; clear H1; (try simp only [Act.put, zs1, zs2, zs3])) | (go_at_call 62; refine (open_callq H.out HC.out hc hw (by simp [Boxes])).mono ?_; rintro e w7 ⟨g, c7, b, rfl, hrd, h1⟩; have HR := Az.mk hrd; have H1 := Az.mk h1; clear hrd h1; clear H; have H := H1; clear H1) | (go_at_call 63; refine (disks_callq (m := 0 + 399999) HB.out H.out 0 rfl (HR.out.less (by omega))).mono ?_; rintro e w9 ⟨n, c9, rfl, hn, hrd, h1⟩; have HN := Az.mk hn; have HR1 := Az.mk hrd; have H1 := Az.mk h1; clear hrd h1 hn; clear H HR; have H := H1; have HR := HR1; clear H1 HR1) | (go_at_call 82; refine (off_callq (m := 0 + 396999) HN.out HB.out H.out 0 rfl (HR.out.less (by omega))).mono ?_; rintro e w13 ⟨tx13, M13, D13, c13, rfl, hf, ho, hrd, h1⟩; have F13 := Az.mk hf; have O13 := Az.mk ho; have HR1 := Az.mk hrd; have H1 := Az.mk h1; clear hf ho hrd h1; clear H HR; have H := H1; have HR := HR1; clear H1 HR1) | ((with_reducible refine gate_store (t := 57) (p := 3) rfl ?_); refine H.out.st_row 2 rfl rfl (x := .tmp 3) (y := .tmp 13) rfl rfl rfl (#[.int .i64 tx13, .slice M13.1 D13.length M13.2]) rfl hs57 rfl (by simp [Value.oneCell']) ?_; intro ws3 H1; clear H; have H := H1; clear H1))
  exact bodyPost_ret (results_list (rs := [.tmp 2, .cell 3 57]) rfl (by simp) (.tmp (.cell g3 57 (#[.int .i64 tx13, .slice M13.1 D13.length M13.2]) (0, 0) _ rfl (H.out.box 2 rfl) Try.underlying57 rfl (by kernel_rfl) .nil))) rfl ⟨n, tx13, M13, D13, rfl, HN.out, F13.out, ownq_of H.out 0 rfl O13.out, H.out.bel⟩
end Go.Proofs.Ytkoimmeghdbodaa.Hq
namespace Go.Proofs.Ytkoimmeghdbodaa.Print
open Go.RowKit Go.Proofs.YtkoimmeghdbodaaW.PrintWords Go.Proofs.YtkoimmeghdbodaaW.PrintLast Go.Proofs.YtkoimmeghdbodaaW.PrintMore
attribute [local go_sem] max2_int min2_int max_two min_two max_three min_three max_four min_four
attribute [local go_sem high] eqA37
def laws_lpaPlaces.l0 : Nat → List (S37) → List (S37) → Int → Option (Bool)
  | 0, _, _, _ => none
  | k + 1, x0, x1, x5 => if x5 < (x0.length : Int) then (if 0 ≤ x5 then (if x5 < (x1.length : Int) then (if (!(((rd_T37 x0 x5).f0) == ((rd_T37 x1 x5).f0)) || (!(((rd_T37 x0 x5).f1) == ((rd_T37 x1 x5).f1)))) = true then (some false) else (laws_lpaPlaces.l0 k x0 x1 (wrap64 (x5 + 1)))) else (none)) else (none)) else (some true)
def laws_lpaPlaces.f (k : Nat) (l0 : List (S37)) (l1 : List (S37)) : Option (Bool) := if (l0.length : Int) = (l1.length : Int) then (laws_lpaPlaces.l0 k l0 l1 0) else (some false)
set_option maxHeartbeats 8000000 in
set_option maxRecDepth 100000 in
theorem laws_lpaPlaces.calls (k : Nat) (A0 : Option Addr) (c0 : Nat) (l0 : List (S37)) (A1 : Option Addr) (c1 : Nat) (l1 : List (S37)) (r : Bool) (w : World) (hr0 : Kd.C k37 w A0 l0.length l0) (hc0 : l0.length ≤ c0) (hr1 : Kd.C k37 w A1 l1.length l1) (hc1 : l1.length ≤ c1) (h : laws_lpaPlaces.f k l0 l1 = some r) :
    Calls Try.prog 28 #[.slice A0 l0.length c0, .slice A1 l1.length c1] w fun e w' => e = .returned (.bool r) ∧ Drawn0 w w' := by
  have hu37 := Try.underlying37
  have HR0 := Az.mk hr0
  have HC0 := Az.mk hc0
  clear hr0 hc0
  have HR1 := Az.mk hr1
  have HC1 := Az.mk hc1
  clear hr1 hc1
  have H : (if (l0.length : Int) = (l1.length : Int) then (laws_lpaPlaces.l0 k l0 l1 0) else (some false)) = some r := h
  clear h
  by_cases c3 : (l0.length : Int) = (l1.length : Int)
  · rw [if_pos c3] at H
    have c3b0 : ((l0.length : Int) == (l1.length : Int)) = true := beq_iff_eq.mpr c3
    have c3b1 : ((l0.length : Int) != (l1.length : Int)) = false := bne_eq_false_iff_eq.mpr c3
    have c3b2 : (l0.length == l1.length) = true := by first | simpa using c3 | (simp at c3 ⊢; omega)
    clear c3
    have H' := Az.mk H
    clear H
    go_enter Try.func28, Try.ntmps28
    go_wp2
    repeat (go_quiet (fail); try go_wp2)
    go_loopg [5] k (fun kq v5 w' => ∃ (x5_1 : Int), v5 = .int .i64 x5_1 ∧ Az (laws_lpaPlaces.l0 kq l0 l1 x5_1 = some r) ∧ Az (kq ≤ k) ∧ Drawn0 w w')
    case atStart => exact ⟨(0), (by first | rfl | (simp; done) | (simp [*]; done)), H', ⟨Nat.le_refl _⟩, by repeat (first | exact Drawn0.refl _ | apply Drawn0.step)⟩
    case round =>
      clear H'
      try clear c1
      try clear c2
      try clear p2
      try clear c3
      try clear c3b0
      try clear c3b1
      try clear c3b2
      obtain ⟨x5_1, rfl, HA, HK1, ⟨m1, rfl⟩⟩ := hrel
      cases gk with
      | zero => exact absurd HA.out (by simp [laws_lpaPlaces.l0])
      | succ k1 =>
        have H := HA.out
        clear HA
        simp only [laws_lpaPlaces.l0] at H
        by_cases c4 : x5_1 < (l0.length : Int)
        · rw [if_pos c4] at H
          have c4b0 : decide (x5_1 < (l0.length : Int)) = true := decide_eq_true c4
          clear c4
          by_cases c5 : 0 ≤ x5_1
          · rw [if_pos c5] at H
            have c5b0 : decide (0 ≤ x5_1) = true := decide_eq_true c5
            clear c5
            by_cases c6 : x5_1 < (l1.length : Int)
            · rw [if_pos c6] at H
              have c6b0 : decide (x5_1 < (l1.length : Int)) = true := decide_eq_true c6
              clear c6
              by_cases c7 : (!(((rd_T37 l0 x5_1).f0) == ((rd_T37 l1 x5_1).f0)) || (!(((rd_T37 l0 x5_1).f1) == ((rd_T37 l1 x5_1).f1)))) = true
              · rw [if_pos c7] at H
                have c7b0 : (!(((rd_T37 l0 x5_1).f0) == ((rd_T37 l1 x5_1).f0)) || (!(((rd_T37 l0 x5_1).f1) == ((rd_T37 l1 x5_1).f1)))) = true := c7
                clear c7
                obtain rfl := Option.some.inj H
                have p338 : 0 ≤ (x5_1 : Int) := of_decide_eq_true (by first | (with_reducible assumption) | assumption)
                have q338 : x5_1 < (l0.length : Int) := of_decide_eq_true (by first | (with_reducible assumption) | assumption)
                obtain ⟨ad338, e338, hx338_0, hx338_1⟩ := at_T37 HR0.out x5_1 p338 q338
                cases e338
                replace p338 := eq_true p338
                replace q338 := eq_true q338
                have p339 : 0 ≤ (x5_1 : Int) := of_decide_eq_true (by first | (with_reducible assumption) | assumption)
                have q339 : x5_1 < (l1.length : Int) := of_decide_eq_true (by first | (with_reducible assumption) | assumption)
                obtain ⟨ad339, e339, hx339_0, hx339_1⟩ := at_T37 HR1.out x5_1 p339 q339
                cases e339
                replace p339 := eq_true p339
                replace q339 := eq_true q339
                go_wp2
                repeat (go_quiet (fail); try go_wp2)
                go_ret
                exact ⟨by first | rfl | (simp; done) | (simp [*]; done), by repeat (first | exact Drawn0.refl _ | apply Drawn0.step)⟩
              · rw [if_neg c7] at H
                have c7b0 : (!(((rd_T37 l0 x5_1).f0) == ((rd_T37 l1 x5_1).f0)) || (!(((rd_T37 l0 x5_1).f1) == ((rd_T37 l1 x5_1).f1)))) = false := by simpa using c7
                clear c7
                have H' := Az.mk H
                clear H
                have p338 : 0 ≤ (x5_1 : Int) := of_decide_eq_true (by first | (with_reducible assumption) | assumption)
                have q338 : x5_1 < (l0.length : Int) := of_decide_eq_true (by first | (with_reducible assumption) | assumption)
                obtain ⟨ad338, e338, hx338_0, hx338_1⟩ := at_T37 HR0.out x5_1 p338 q338
                cases e338
                replace p338 := eq_true p338
                replace q338 := eq_true q338
                have p339 : 0 ≤ (x5_1 : Int) := of_decide_eq_true (by first | (with_reducible assumption) | assumption)
                have q339 : x5_1 < (l1.length : Int) := of_decide_eq_true (by first | (with_reducible assumption) | assumption)
                obtain ⟨ad339, e339, hx339_0, hx339_1⟩ := at_T37 HR1.out x5_1 p339 q339
                cases e339
                replace p339 := eq_true p339
                replace q339 := eq_true q339
                go_wp2
                repeat (go_quiet (fail); try go_wp2)
                go_roundg k1
                case measure => have := HK1.out; omega
                case rel => exact ⟨(wrap64 (x5_1 + 1)), (by first | rfl | (simp; done) | (simp [*]; done)), H', ⟨by have := HK1.out; omega⟩, by repeat (first | exact Drawn0.refl _ | apply Drawn0.step)⟩
            · rw [if_neg c6] at H
              exact absurd H (by simp)
          · rw [if_neg c5] at H
            exact absurd H (by simp)
        · rw [if_neg c4] at H
          have c4b0 : decide (x5_1 < (l0.length : Int)) = false := decide_eq_false c4
          clear c4
          obtain rfl := Option.some.inj H
          go_wp2
          repeat (go_quiet (fail); try go_wp2)
          go_ret
          exact ⟨by first | rfl | (simp; done) | (simp [*]; done), by repeat (first | exact Drawn0.refl _ | apply Drawn0.step)⟩
  · rw [if_neg c3] at H
    have c3b0 : ((l0.length : Int) == (l1.length : Int)) = false := beq_eq_false_iff_ne.mpr c3
    have c3b1 : ((l0.length : Int) != (l1.length : Int)) = true := bne_iff_ne.mpr c3
    have c3b2 : (l0.length == l1.length) = false := by first | simpa using c3 | (simp at c3 ⊢; omega)
    obtain rfl := Option.some.inj H
    go_enter Try.func28, Try.ntmps28
    go_wp2
    repeat (go_quiet (fail); try go_wp2)
    go_ret
    exact ⟨by first | rfl | (simp; done) | (simp [*]; done), by repeat (first | exact Drawn0.refl _ | apply Drawn0.step)⟩
end Go.Proofs.Ytkoimmeghdbodaa.Print
namespace Go.Proofs.Ytkoimmeghdbodaa.Print
open Go.RowKit Go.Proofs.YtkoimmeghdbodaaW.PrintWords Go.Proofs.YtkoimmeghdbodaaW.PrintLast Go.Proofs.YtkoimmeghdbodaaW.PrintMore
attribute [local go_sem] max2_int min2_int max_two min_two max_three min_three max_four min_four
attribute [local go_sem high] eqA37
def laws_lpaIn.l0 : Nat → List (S37) → Int → Int → Int → Option (Bool)
 | 0, _, _, _, _ => none
 | k + 1, x0, x5, x592000, x592001 => if x5 < (x0.length : Int) then (if 0 ≤ x5 then (if (((rd_T37 x0 x5).f0) == x592000 && (((rd_T37 x0 x5).f1) == x592001)) = true then (some true) else (laws_lpaIn.l0 k x0 (wrap64 (x5 + 1)) x592000 x592001)) else (none)) else (some false)
def laws_lpaIn.f (k : Nat) (l0 : List (S37)) (a1_0 : Int) (a1_1 : Int) : Option (Bool) := laws_lpaIn.l0 k l0 0 a1_0 a1_1
set_option maxHeartbeats 8000000 in
set_option maxRecDepth 100000 in
theorem laws_lpaIn.calls (k : Nat) (A0 : Option Addr) (c0 : Nat) (l0 : List (S37)) (a1_0 : Int) (a1_1 : Int) (r : Bool) (w : World) (hr0 : Kd.C k37 w A0 l0.length l0) (hc0 : l0.length ≤ c0) (h : laws_lpaIn.f k l0 a1_0 a1_1 = some r) :
  Calls Try.prog 42 #[.slice A0 l0.length c0, .agg #[.int .i64 a1_0, .int .i64 a1_1]] w fun e w' => e = .returned (.bool r) ∧ Below w.heap.size w w' := by
 have hu37 := Try.underlying37
 have HR0 := Az.mk hr0
 have HC0 := Az.mk hc0
 clear hr0 hc0
 have HB := Az.mk (Below.refl w.heap.size w)
 have H : (laws_lpaIn.l0 k l0 0 a1_0 a1_1) = some r := h
 clear h
 have H' := Az.mk H
 clear H
 go_enter Try.func42, Try.ntmps42
 go_wp2_with (first | ((with_reducible refine zqg (N := 3) rfl ?_); refine zqb ?hg (N := 3) ?hd (cs := #[.int .i64 a1_0, .int .i64 a1_1]) (t := 37) ?hr ?_; (case hd => rfl); (case hg => rfl); (case hr => first | (go_simp; done) | (go_simp; rfl)); intro gb591 hg w3 hbox hb; have n0_ := Az.mk (below_step zB hb); have n1_ := Az.mk (hbox); have n2_ := Az.mk ((by rw [hg]; exact (below_size zB) : w.heap.size ≤ gb591)); have n3_ := Az.mk ((by rw [hg]; exact (below_size zB) : w.heap.size ≤ gb591)); clear HB; have HB := n0_; have BK591 := n1_; have GW591 := n2_; have GE591 := n3_; clear n0_ n1_ n2_ n3_; clear hb hbox hg))
 repeat (go_quiet (first | ((with_reducible refine zqg (N := 3) rfl ?_); refine zqb ?hg (N := 3) ?hd (cs := #[.int .i64 a1_0, .int .i64 a1_1]) (t := 37) ?hr ?_; (case hd => rfl); (case hg => rfl); (case hr => first | (go_simp; done) | (go_simp; rfl)); intro gb591 hg w3 hbox hb; have n0_ := Az.mk (below_step zB hb); have n1_ := Az.mk (hbox); have n2_ := Az.mk ((by rw [hg]; exact (below_size zB) : w.heap.size ≤ gb591)); have n3_ := Az.mk ((by rw [hg]; exact (below_size zB) : w.heap.size ≤ gb591)); clear HB; have HB := n0_; have BK591 := n1_; have GW591 := n2_; have GE591 := n3_; clear n0_ n1_ n2_ n3_; clear hb hbox hg)); try go_wp2_with (first | ((with_reducible refine zqg (N := 3) rfl ?_); refine zqb ?hg (N := 3) ?hd (cs := #[.int .i64 a1_0, .int .i64 a1_1]) (t := 37) ?hr ?_; (case hd => rfl); (case hg => rfl); (case hr => first | (go_simp; done) | (go_simp; rfl)); intro gb591 hg w3 hbox hb; have n0_ := Az.mk (below_step zB hb); have n1_ := Az.mk (hbox); have n2_ := Az.mk ((by rw [hg]; exact (below_size zB) : w.heap.size ≤ gb591)); have n3_ := Az.mk ((by rw [hg]; exact (below_size zB) : w.heap.size ≤ gb591)); clear HB; have HB := n0_; have BK591 := n1_; have GW591 := n2_; have GE591 := n3_; clear n0_ n1_ n2_ n3_; clear hb hbox hg)))
 go_loopg [5] k (fun kq v5 w' => ∃ (x5_1 : Int), v5 = .int .i64 x5_1 ∧ Az (laws_lpaIn.l0 kq l0 x5_1 a1_0 a1_1 = some r) ∧ Az (kq ≤ k) ∧ Az (w'.heap[gb591]? = some (.cells #[.int .i64 a1_0, .int .i64 a1_1] 37 (0, 0))) ∧ Az (Below w.heap.size w w'))
 case atStart => exact ⟨(0), (by first | rfl | (simp; done) | (simp [*]; done)), H', ⟨Nat.le_refl _⟩, ⟨by (with_reducible repeat (first | refine zq6 ?_ _ | refine zq8 ?_ | refine zq7 ?_ _)); exact BK591.out⟩, ⟨by repeat (first | (with_reducible first | exact HB.out | apply zq2 | apply zq1 | apply zqd | refine zq3 ?_ GE591.out) | exact HB.out)⟩⟩
 case round =>
  clear H'
  try clear p2
  obtain ⟨x5_1, rfl, HA, HK1, BK591, HB⟩ := hrel
  cases gk with
  | zero => exact absurd HA.out (by simp [laws_lpaIn.l0])
  | succ k1 =>
   have H := HA.out
   clear HA
   simp only [laws_lpaIn.l0] at H
   by_cases c4 : x5_1 < (l0.length : Int)
   ·rw [if_pos c4] at H
    have c4b0 : decide (x5_1 < (l0.length : Int)) = true := decide_eq_true c4
    clear c4
    by_cases c5 : 0 ≤ x5_1
    ·rw [if_pos c5] at H
     have c5b0 : decide (0 ≤ x5_1) = true := decide_eq_true c5
     clear c5
     by_cases c6 : (((rd_T37 l0 x5_1).f0) == a1_0 && (((rd_T37 l0 x5_1).f1) == a1_1)) = true
     ·rw [if_pos c6] at H
      have c6b0 : (((rd_T37 l0 x5_1).f0) == a1_0 && (((rd_T37 l0 x5_1).f1) == a1_1)) = true := c6
      (try (have c6b1 : decide (((rd_T37 l0 x5_1).f0) = a1_0 && (((rd_T37 l0 x5_1).f1) == a1_1)) = true := by simpa using c6))
      (try (have c6b2 : (((rd_T37 l0 x5_1).f0) == a1_0 && (((rd_T37 l0 x5_1).f1) == a1_1)) = true := by simpa using c6))
      clear c6
      obtain rfl := Option.some.inj H
      have p592 : 0 ≤ (x5_1 : Int) := of_decide_eq_true (by first | (with_reducible assumption) | assumption)
      have q592 : x5_1 < (l0.length : Int) := of_decide_eq_true (by first | (with_reducible assumption) | assumption)
      obtain ⟨ad592, e592, hx592_0, hx592_1⟩ := at_T37 HR0.out x5_1 p592 q592
      cases e592
      replace hx592_0 := (HB.out.cell (World.block_lt_of_cell? w _ hx592_0)).trans hx592_0
      replace hx592_1 := (HB.out.cell (World.block_lt_of_cell? w _ hx592_1)).trans hx592_1
      replace p592 := eq_true p592
      replace q592 := eq_true q592
      have hcz7_0 : wr.cell? ⟨gb591, 0, none⟩ = some (.int .i64 a1_0) := (zq4 BK591.out 0).trans rfl
      have hcz7_1 : wr.cell? ⟨gb591, 1, none⟩ = some (.int .i64 a1_1) := (zq4 BK591.out 1).trans rfl
      have hfz7_0 := zq5 BK591.out 0
      have hfz7_1 := zq5 BK591.out 1
      go_wp2
      repeat (go_quiet (fail); try go_wp2)
      go_ret
      exact ⟨by first | rfl | (simp [errW_none, errW_some] <;> rfl) | (simp [*, errW_none, errW_some] <;> rfl), by repeat (first | (with_reducible first | exact HB.out | apply zq2 | apply zq1 | apply zqd | refine zq3 ?_ GE591.out) | exact HB.out)⟩
     ·rw [if_neg c6] at H
      have c6b0 : (((rd_T37 l0 x5_1).f0) == a1_0 && (((rd_T37 l0 x5_1).f1) == a1_1)) = false := by simpa using c6
      (try (have c6b1 : decide (((rd_T37 l0 x5_1).f0) = a1_0 && (((rd_T37 l0 x5_1).f1) == a1_1)) = false := by simpa using c6))
      (try (have c6b2 : (((rd_T37 l0 x5_1).f0) == a1_0 && (((rd_T37 l0 x5_1).f1) == a1_1)) = false := by simpa using c6))
      (try (have c6b3 : ¬ (((rd_T37 l0 x5_1).f0) = a1_0 && (((rd_T37 l0 x5_1).f1) == a1_1)) := by simpa using c6))
      clear c6
      have H' := Az.mk H
      clear H
      have p592 : 0 ≤ (x5_1 : Int) := of_decide_eq_true (by first | (with_reducible assumption) | assumption)
      have q592 : x5_1 < (l0.length : Int) := of_decide_eq_true (by first | (with_reducible assumption) | assumption)
      obtain ⟨ad592, e592, hx592_0, hx592_1⟩ := at_T37 HR0.out x5_1 p592 q592
      cases e592
      replace hx592_0 := (HB.out.cell (World.block_lt_of_cell? w _ hx592_0)).trans hx592_0
      replace hx592_1 := (HB.out.cell (World.block_lt_of_cell? w _ hx592_1)).trans hx592_1
      replace p592 := eq_true p592
      replace q592 := eq_true q592
      have hcz8_0 : wr.cell? ⟨gb591, 0, none⟩ = some (.int .i64 a1_0) := (zq4 BK591.out 0).trans rfl
      have hcz8_1 : wr.cell? ⟨gb591, 1, none⟩ = some (.int .i64 a1_1) := (zq4 BK591.out 1).trans rfl
      have hfz8_0 := zq5 BK591.out 0
      have hfz8_1 := zq5 BK591.out 1
      go_wp2
      repeat (go_quiet (fail); try go_wp2)
      go_roundg k1
      case measure => have := HK1.out; omega
      case rel => exact ⟨(wrap64 (x5_1 + 1)), (by first | rfl | (simp; done) | (simp [*]; done)), H', ⟨by have := HK1.out; omega⟩, ⟨by (with_reducible repeat (first | refine zq6 ?_ _ | refine zq8 ?_ | refine zq7 ?_ _)); exact BK591.out⟩, ⟨by repeat (first | (with_reducible first | exact HB.out | apply zq2 | apply zq1 | apply zqd | refine zq3 ?_ GE591.out) | exact HB.out)⟩⟩
    ·rw [if_neg c5] at H
     exact absurd H (by simp)
   ·rw [if_neg c4] at H
    have c4b0 : decide (x5_1 < (l0.length : Int)) = false := decide_eq_false c4
    clear c4
    obtain rfl := Option.some.inj H
    go_wp2
    repeat (go_quiet (fail); try go_wp2)
    go_ret
    exact ⟨by first | rfl | (simp [errW_none, errW_some] <;> rfl) | (simp [*, errW_none, errW_some] <;> rfl), by repeat (first | (with_reducible first | exact HB.out | apply zq2 | apply zq1 | apply zqd | refine zq3 ?_ GE591.out) | exact HB.out)⟩
end Go.Proofs.Ytkoimmeghdbodaa.Print
namespace Go.Proofs.Ytkoimmeghdbodaa.Print
open Go.RowKit Go.Proofs.YtkoimmeghdbodaaW.PrintWords Go.Proofs.YtkoimmeghdbodaaW.PrintLast Go.Proofs.YtkoimmeghdbodaaW.PrintMore
attribute [local go_sem] max2_int min2_int max_two min_two max_three min_three max_four min_four
end Go.Proofs.Ytkoimmeghdbodaa.Print
namespace Go.Proofs.Ytkoimmeghdbodaa.Print
open Go.RowKit Go.Proofs.YtkoimmeghdbodaaW.PrintWords Go.Proofs.YtkoimmeghdbodaaW.PrintLast Go.Proofs.YtkoimmeghdbodaaW.PrintMore
attribute [local go_sem] max2_int min2_int max_two min_two max_three min_three max_four min_four
end Go.Proofs.Ytkoimmeghdbodaa.Print
namespace Go.Proofs.Ytkoimmeghdbodaa.Print
open Go.RowKit Go.Proofs.YtkoimmeghdbodaaW.PrintWords Go.Proofs.YtkoimmeghdbodaaW.PrintLast Go.Proofs.YtkoimmeghdbodaaW.PrintMore Go.Proofs.Ytkoimmeghdbodaa.Pure
attribute [local go_sem] max2_int min2_int max_two min_two max_three min_three max_four min_four
open Classical in
noncomputable def sRootOk.f (k : Nat) (a0 : Int) (a1_0 : Int) (l1_1 : List S65) : Option Bool := if FitM l1_1 then some (rootB a0 a1_0 l1_1) else none
mutual
def sRPlaces.l0 : Nat → Int → List (S37) → List (S29) → Int → Option ((List (S37)))
  | 0, _, _, _, _ => none
  | k + 1, x0, x5, x6, x7 => if x7 < x0 then (sRPlaces.l1 k x0 x5 x6 x7 0) else (some x5)
def sRPlaces.l1 : Nat → Int → List (S37) → List (S29) → Int → Int → Option ((List (S37)))
  | 0, _, _, _, _, _ => none
  | k + 1, x0, x5, x6, x7, x8 => if x8 < 12 then (sRPlaces.l2 k x0 x5 x6 x7 x8 false 0 0 0 (([(⟨x7, x8⟩ : S37)] : List (S37)))) else (sRPlaces.l0 k x0 x5 x6 (wrap64 (x7 + 1)))
def sRPlaces.l2 : Nat → Int → List (S37) → List (S29) → Int → Int → Bool → Int → Int → Int → List (S37) → Option ((List (S37)))
  | 0, _, _, _, _, _, _, _, _, _, _ => none
  | k + 1, x0, x5, x6, x7, x8, x10, x11, x606000, x606001, x606002 => if x11 < (x6.length : Int) then (if x10 = true then (sRPlaces.l2 k x0 x5 x6 x7 x8 true (wrap64 (x11 + 1)) x606000 x606001 x606002) else (if 0 ≤ x11 then ((spec_l2Meet.f k x606000 x606001 x606002 ((rd_T29 x6 x11).f0) ((rd_T29 x6 x11).f1) ((rd_T29 x6 x11).f2)).bind fun t607 => (sRPlaces.l2 k x0 x5 x6 x7 x8 t607 (wrap64 (x11 + 1)) x606000 x606001 x606002)) else (none))) else (if x10 = true then (if x5.length < 8796093022208 then (sRPlaces.l1 k x0 (x5 ++ [(⟨x7, x8⟩ : S37)]) x6 x7 (wrap64 (x8 + 1))) else (none)) else (sRPlaces.l1 k x0 x5 x6 x7 (wrap64 (x8 + 1))))
end
noncomputable def sRPlaces.f (k : Nat) (a0 : Int) (a1_0 : Int) (l1_1 : List (S65)) : Option ((List (S37))) := (some (([] : List (S37)) : List (S37))).bind fun y595 => ((sRootOk.f k a0 a1_0 l1_1).bind fun t598 => (if t598 = true then ((spec_l2All.f k a1_0 l1_1).bind fun t599 => (sRPlaces.l0 k a0 y595 t599 0)) else (some y595)))
end Go.Proofs.Ytkoimmeghdbodaa.Print
namespace Go.Proofs.Ytkoimmeghdbodaa.Pure
open Go.RowKit Go.Lib Go.Sort Go.Proofs.Ytkoimmeghdbodaa.Print Go.Proofs.YtkoimmeghdbodaaW.PrintWords Go.Proofs.YtkoimmeghdbodaaW.PrintLast
end Go.Proofs.Ytkoimmeghdbodaa.Pure
namespace Go.Proofs.Ytkoimmeghdbodaa.Hd
open Go.RowKit Go.Proofs.Ytkoimmeghdbodaa.Print Go.Proofs.YtkoimmeghdbodaaW.PrintWords Go.Proofs.YtkoimmeghdbodaaW.PrintLast Go.Proofs.YtkoimmeghdbodaaW.PrintMore Go.Proofs.Ytkoimmeghdbodaa.Pure
end Go.Proofs.Ytkoimmeghdbodaa.Hd
namespace Go.Proofs.Ytkoimmeghdbodaa.Hq
open Go.RowKit Go.Proofs.Ytkoimmeghdbodaa.Print Go.Proofs.YtkoimmeghdbodaaW.PrintWords Go.Proofs.YtkoimmeghdbodaaW.PrintLast Go.Proofs.YtkoimmeghdbodaaW.PrintMore Go.Proofs.Ytkoimmeghdbodaa.Pure Go.Proofs.Ytkoimmeghdbodaa.Hd
theorem lpaPl_l0 (l : List S37) (hl : l.length ≤ 1048576) (d : Nat) : ∀ i : Nat, i + d = l.length → Ev (fun k => laws_lpaPlaces.l0 k l l (i : Int)) true := by
  induction d with
  | zero =>
    intro i hi
    refine Ev.next ?_
    simp only [laws_lpaPlaces.l0]
    exact Ev.neg (by omega) (Ev.ret rfl)
  | succ d ih =>
    intro i hi
    have e : wrap64 ((i : Int) + 1) = ((i + 1 : Nat) : Int) := by rw [wrap_ok (by omega)]; omega
    have hih := ih (i + 1) (by omega)
    refine Ev.next ?_
    simp only [laws_lpaPlaces.l0, e]
    clear e
    exact Ev.pos (by omega) (Ev.pos (by omega) (Ev.pos (by omega) (Ev.neg (by simp) hih)))
theorem lpaIn_l0 (l : List S37) (p : S37) (hl : l.length ≤ 1048576) (d : Nat) : ∀ i : Nat, i + d = l.length → Ev (fun k => laws_lpaIn.l0 k l (i : Int) p.f0 p.f1) (decide (p ∈ l.drop i)) := by
  induction d with
  | zero =>
    intro i hi
    refine Ev.next ?_
    simp only [laws_lpaIn.l0]
    exact Ev.neg (by omega) (Ev.ret (by rw [List.drop_of_length_le (by omega)]; simp))
  | succ d ih =>
    intro i hi
    have e : wrap64 ((i : Int) + 1) = ((i + 1 : Nat) : Int) := by rw [wrap_ok (by omega)]; omega
    have hih := ih (i + 1) (by omega)
    have hd := drop_getD l z37 i (by omega)
    refine Ev.next ?_
    simp only [laws_lpaIn.l0, e, rd37n]
    clear e
    refine Ev.pos (by omega) (Ev.pos (by omega) ?_)
    have key := eq37 (l.getD i z37) p
    rw [key, hd]
    by_cases c : l.getD i z37 = p
    · refine Ev.pos (decide_eq_true c) (Ev.ret ?_)
      rw [c]
      simp
    · refine Ev.neg (by rw [decide_eq_true_iff]; exact c) ?_
      have : decide (p ∈ l.getD i z37 :: l.drop (i + 1)) = decide (p ∈ l.drop (i + 1)) := by
        rw [Bool.eq_iff_iff, decide_eq_true_iff, decide_eq_true_iff, List.mem_cons]
        exact ⟨fun h => h.resolve_left fun h => c h.symm, Or.inr⟩
      rw [this]
      exact hih
section
variable {base : Nat} {ws w : World} {L : List Part} {S : Nat → Prop} {wc : World} {B lo hi : Nat} {M M' : AC} {l l' : List S37}
theorem Hq.rdP (h : Hq base ws w L) (i : Nat) (e : L[i]? = some (.set (fun k => lo ≤ k ∧ k < hi) wc)) (O : OwP wc B lo hi M l) : RdP w M l := by
  have := Kd.R_reads' (h.rr i e O)
  exact ⟨this.2.1, this.2.2⟩
theorem lpaPl_call (hl : l.length ≤ 1048576) (e : l' = l) (h : RdP w M l) (h' : RdP w M' l') : Calls Try.prog 28 #[pV M l, pV M' l'] w fun e w' => e = .returned (.bool true) ∧ Below w.heap.size w w' := by
  subst e
  obtain ⟨k, hk⟩ := Ev.rounds (show Ev (fun k => laws_lpaPlaces.f k l' l') true from Ev.pos rfl (lpaPl_l0 l' hl _ 0 (Nat.zero_add _)))
  exact (laws_lpaPlaces.calls k M.1 M.2 l' M'.1 M'.2 l' true w h.2 h.1 h'.2 h'.1 hk).mono fun e w' h => ⟨h.1, h.2.below⟩
theorem lpaIn_call (hl : l.length ≤ 1048576) (p : S37) (h : RdP w M l) : Calls Try.prog 42 #[pV M l, .agg #[.int .i64 p.f0, .int .i64 p.f1]] w fun e w' => e = .returned (.bool (decide (p ∈ l))) ∧ Below w.heap.size w w' := by
  have h0 := lpaIn_l0 l p hl l.length 0 (Nat.zero_add _)
  rw [List.drop_zero] at h0
  obtain ⟨k, hk⟩ := Ev.rounds h0
  exact laws_lpaIn.calls k M.1 M.2 l p.f0 p.f1 _ w h.2 h.1 hk
end
section
variable {w : World} {n : Int} {M : AC} {B : Nat} {D : List S65} {l : List S37}
theorem implPl_q (tx : Int) (e : rootPl n tx D = l) (hF : FitM D) (h : RdR w M D) (hB : B ≤ w.heap.size) : Calls Try.prog 41 #[.int .i64 n, .agg (cR M (tx, D))] w fun e w' => ∃ M', e = .returned (pV M' l) ∧ OwP w' B w.heap.size w'.heap.size M' l ∧ Below w.heap.size w w' := e ▸ implPl_call n tx hF h hB
theorem specRt_q (tx : Int) {r : Bool} (e : rootB n tx D = r) (hF : FitM D) (h : RdR w M D) : Calls Try.prog 36 #[.int .i64 n, .agg (cR M (tx, D))] w fun e w' => e = .returned (.bool r) ∧ Below w.heap.size w w' := e ▸ sRoot_call n tx M.1 M.2 D w h.2 h.1 hF
theorem implRt_q (tx : Int) {r : Bool} (e : rootB n tx D = r) (hF : FitM D) (h : RdR w M D) : Calls Try.prog 38 #[.int .i64 n, .agg (cR M (tx, D))] w fun e w' => e = .returned (.bool r) ∧ Below w.heap.size w w' := by
  refine impl_RootOk.calls n tx M.1 M.2 D r w h.2 h.1 ?_
  unfold impl_RootOk.f
  rw [if_pos (List.all_eq_true.2 fun x hx => List.all_eq_true.2 fun y hy => decide_eq_true (hF.places x hx y hy)), ← e]
variable {ta tb : Int} {Ma Mb : AC} {Da Db : List S65}
end
end Go.Proofs.Ytkoimmeghdbodaa.Hq
namespace Go.Proofs.Ytkoimmeghdbodaa.Pure
open Go.RowKit Go.Proofs.Ytkoimmeghdbodaa.Print Go.Proofs.YtkoimmeghdbodaaW.PrintWords Go.Proofs.YtkoimmeghdbodaaW.PrintLast
structure GoodR (n tx : Int) (vs : List S65) : Prop where
  hn : 3 ≤ n ∧ n ≤ 4
  ht : 0 ≤ tx ∧ tx ≤ 100000
  len : vs.length ≤ 4
  vol : ∀ x ∈ vs, volB x.f0 = true ∧ x.f1.length = 3
  far : vs.Pairwise fun x y => x.f0.toList ≠ y.f0.toList
  ptr : ∀ p ∈ ptrs vs, ptrC n p = true
  pair : (ptrs vs).Pairwise fun p q => pairB q p = true
theorem all_at {α : Type} {l : List α} {z : α} {P : α → Prop} : (∀ i, i < l.length → P (l.getD i z)) ↔ ∀ x ∈ l, P x := by
  constructor
  · intro h x hx
    obtain ⟨i, hi, rfl⟩ := List.getElem_of_mem hx
    have := h i hi
    simpa [List.getD, List.getElem?_eq_getElem hi] using this
  · intro h i hi
    exact h _ (getD_mem hi)
theorem pair_at {α : Type} {l : List α} {z : α} {R : α → α → Prop} : (∀ i, i < l.length → ∀ q, q < i → R (l.getD q z) (l.getD i z)) ↔ l.Pairwise R := by
  rw [List.pairwise_iff_getElem]
  constructor
  · intro h i j hi hj hij
    have := h j hj i hij
    simpa [List.getD, List.getElem?_eq_getElem hi, List.getElem?_eq_getElem hj] using this
  · intro h i hi q hq
    have := h q i (by omega) hi hq
    simpa [List.getD, List.getElem?_eq_getElem hi, List.getElem?_eq_getElem (show q < l.length by omega)] using this
theorem good_iff (n tx : Int) (vs : List S65) : rootB n tx vs = true ↔ GoodR n tx vs := by
  rw [rootB_eq]
  unfold specB nameAt ptrAt
  simp only [Bool.and_eq_true, decide_eq_true_iff]
  constructor
  · rintro ⟨h1, h2, h3, h4, h5⟩
    exact ⟨h1, h2, h3, all_at.1 fun i hi => ⟨(h4 i hi).1, (h4 i hi).2.1⟩, pair_at.1 fun i hi q hq => (h4 i hi).2.2 q hq, all_at.1 fun i hi => (h5 i hi (Nat.zero_le _)).1, pair_at.1 fun i hi q hq => (h5 i hi (Nat.zero_le _)).2 q hq⟩
  · intro h
    exact ⟨h.hn, h.ht, h.len, fun i hi => ⟨(all_at.2 h.vol i hi).1, (all_at.2 h.vol i hi).2, fun q hq => pair_at.2 h.far i hi q hq⟩, fun i hi _ => ⟨all_at.2 h.ptr i hi, fun q hq => pair_at.2 h.pair i hi q hq⟩⟩
def lessV (D : List S65) (v : Nat) : List S65 := D.take v ++ D.drop (v + 1)
def moreV (D : List S65) (v : Nat) : List S65 := lessV D v ++ [⟨(D.getD v z65).f0, List.replicate 3 z29⟩]
theorem split_at {D : List S65} {v : Nat} (hv : v < D.length) : D = D.take v ++ D.getD v z65 :: D.drop (v + 1) := by
  have h := List.take_append_drop v D
  rw [List.drop_eq_getElem_cons hv] at h
  have e : D.getD v z65 = D[v] := by simp [List.getD, List.getElem?_eq_getElem hv]
  rw [e]
  exact h.symm
theorem less_sub {D : List S65} {v : Nat} (hv : v < D.length) : List.Sublist (lessV D v) D := by
  conv => rhs; rw [split_at hv]
  exact List.Sublist.append (List.Sublist.refl _) (List.sublist_cons_self _ _)
theorem ptrs_app (a b : List S65) : ptrs (a ++ b) = ptrs a ++ ptrs b := by simp [ptrs]
theorem less_ptrs {D : List S65} {v : Nat} (hv : v < D.length) : List.Sublist (ptrs (lessV D v)) (ptrs D) := by
  conv => rhs; rw [split_at hv]
  unfold lessV
  rw [ptrs_app, ptrs_app, show D.getD v z65 :: D.drop (v + 1) = [D.getD v z65] ++ D.drop (v + 1) from rfl, ptrs_app]
  exact List.Sublist.append (List.Sublist.refl _) (List.sublist_append_right _ _)
theorem less_ok {n tx : Int} {D : List S65} {v : Nat} (h : rootB n tx D = true) (hv : v < D.length) : rootB n tx (lessV D v) = true := by
  rw [good_iff] at h ⊢
  have hs := less_sub hv
  have hp := less_ptrs hv
  exact ⟨h.hn, h.ht, Nat.le_trans hs.length_le h.len, fun x hx => h.vol x (hs.subset hx), h.far.sublist hs, fun p hp' => h.ptr p (hp.subset hp'), h.pair.sublist hp⟩
theorem none_pl (l : List S29) : placesAll (l ++ List.replicate 3 z29) = placesAll l := by
  unfold placesAll
  rw [List.flatMap_append]
  have : (List.replicate 3 z29).flatMap (fun p => p.f2) = [] := rfl
  rw [this, List.append_nil]
theorem more_ptrs (D : List S65) (v : Nat) : ptrs (moreV D v) = ptrs (lessV D v) ++ List.replicate 3 z29 := by
  unfold moreV
  rw [ptrs_app]
  rfl
theorem less_in {n tx : Int} {D : List S65} {v : Nat} (h : rootB n tx D = true) (hv : v < D.length) {p : S37} (hp : p ∈ rootPl n tx (lessV D v)) : p ∈ rootPl n tx D := by
  rw [rootPl_mem (less_ok h hv)] at hp
  rw [rootPl_mem h]
  obtain ⟨q, hq, hpq⟩ := List.mem_flatMap.1 hp
  exact List.mem_flatMap.2 ⟨q, (less_ptrs hv).subset hq, hpq⟩
theorem pairB_none (x : S29) : pairB z29 x = true := rfl
theorem ptrC_none {n : Int} (hn : 3 ≤ n ∧ n ≤ 4) : ptrC n z29 = true := by
  unfold ptrC
  rw [decide_eq_true_iff]
  exact ⟨hn, Or.inl ⟨rfl, rfl, rfl⟩⟩
theorem more_ok {n tx : Int} {D : List S65} {v : Nat} (h : rootB n tx D = true) (hv : v < D.length) : rootB n tx (moreV D v) = true := by
  have hl := less_ok h hv
  rw [good_iff] at h hl ⊢
  have hd : D.getD v z65 ∈ D := getD_mem hv
  have hlen : (lessV D v).length + 1 = D.length := by
    conv => rhs; rw [split_at hv]
    unfold lessV
    simp only [List.length_append, List.length_cons]
    omega
  have hne : ∀ x ∈ lessV D v, x.f0.toList ≠ (D.getD v z65).f0.toList := fun x hx => by
    have hf := h.far
    rw [split_at hv, List.pairwise_append, List.pairwise_cons] at hf
    rcases List.mem_append.1 hx with hx | hx
    · exact hf.2.2 x hx _ (List.mem_cons_self ..)
    · exact fun e => hf.2.1.1 x hx e.symm
  have hz : ∀ q ∈ List.replicate 3 z29, q = z29 := fun q hq => (List.mem_replicate.1 hq).2
  refine ⟨h.hn, h.ht, ?_, fun x hx => ?_, ?_, fun p hp => ?_, ?_⟩
  · unfold moreV
    rw [List.length_append, List.length_singleton, hlen]
    exact h.len
  · rcases List.mem_append.1 hx with hx | hx
    · exact hl.vol x hx
    · rw [List.mem_singleton.1 hx]
      exact ⟨(h.vol _ hd).1, rfl⟩
  · unfold moreV
    rw [List.pairwise_append]
    exact ⟨hl.far, List.pairwise_singleton _ _, fun x hx y hy => by rw [List.mem_singleton.1 hy]; exact hne x hx⟩
  · rw [more_ptrs] at hp
    rcases List.mem_append.1 hp with hp | hp
    · exact hl.ptr p hp
    · rw [hz p hp]
      exact ptrC_none h.hn
  · rw [more_ptrs, List.pairwise_append]
    refine ⟨hl.pair, ?_, fun x hx y hy => ?_⟩
    · refine List.Pairwise.imp_of_mem (R := fun _ _ => True) (fun {x y} hx hy _ => ?_) (by simp [List.pairwise_iff_getElem])
      rw [hz y hy]
      exact pairB_none x
    · rw [hz y hy]
      exact pairB_none x
theorem more_pl {n tx : Int} {D : List S65} {v : Nat} (h : rootB n tx D = true) (hv : v < D.length) : rootPl n tx (moreV D v) = rootPl n tx (lessV D v) := by
  unfold rootPl
  rw [if_pos (more_ok h hv), if_pos (less_ok h hv), more_ptrs, none_pl]
end Go.Proofs.Ytkoimmeghdbodaa.Pure
namespace Go.Proofs.Ytkoimmeghdbodaa.Hq
open Go.RowKit Go.Proofs.Ytkoimmeghdbodaa.Print Go.Proofs.YtkoimmeghdbodaaW.PrintWords Go.Proofs.YtkoimmeghdbodaaW.PrintLast Go.Proofs.YtkoimmeghdbodaaW.PrintMore Go.Proofs.Ytkoimmeghdbodaa.Pure Go.Proofs.Ytkoimmeghdbodaa.Hd
theorem Q_readsM {α : Type} {d : Kd α} {e : Nat} {w : World} {base : Nat} {ok : Nat → Prop} {xs : List α} {A : Option Addr} {n c : Nat} (h : d.Q e w base ok (.slice A n c) xs) : ReadsRow (d.M w base ok) d.sz w A n xs := by
  obtain ⟨_, inner, ho, hr⟩ := h
  obtain ⟨A', c', he, hl⟩ := q_slice ho
  injection he with h1 h2 h3
  subst h1; subst h2; subst h3
  refine ⟨rfl, q_max ho, fun hp => ?_⟩
  obtain ⟨ad, ha, hc⟩ := q_cells ho hp
  refine ⟨ad, ha, fun j p hj => ⟨(inner.drop (j * d.sz)).take d.sz, ?_, d.M_mono (fun k hk => hk.1) (hr.2 j p hj), fun i u hu => ?_⟩⟩
  · have hjl := (List.getElem?_eq_some_iff.1 hj).1
    have h1 : j * d.sz + d.sz ≤ inner.length := by rw [hr.1, ← Nat.succ_mul]; exact Nat.mul_le_mul_right _ hjl
    rw [List.length_take, List.length_drop]
    omega
  · refine hc _ u ?_
    rw [List.getElem?_take] at hu
    split at hu
    · rw [List.getElem?_drop] at hu
      exact hu
    · cases hu
theorem Hq.merge {base : Nat} {ws w : World} {L : List Part} {S T : Nat → Prop} {wa wb : World} (H : Hq base ws w (.set S wa :: .set T wb :: L)) (h : ∀ k, S k → wb.heap[k]? = wa.heap[k]?) : Hq base ws w (.set (fun k => S k ∨ T k) wb :: L) := by
  have h1 := List.pairwise_cons.1 H.dis
  have h2 := List.pairwise_cons.1 h1.2
  refine ⟨H.bel, H.ge, fun q hq => ?_, List.pairwise_cons.2 ⟨fun q hq k hk hq' => ?_, h2.2⟩⟩
  · rcases List.mem_cons.1 hq with rfl | hq
    · exact ⟨fun k hk => hk.elim (H.set_in 0 rfl k) (H.set_in 1 rfl k), fun k hk => hk.elim (fun hS => (H.same 0 rfl k hS).trans (h k hS).symm) (H.same 1 rfl k)⟩
    · exact H.all q (List.mem_cons_of_mem _ (List.mem_cons_of_mem _ hq))
  · rcases hk with hk | hk
    · exact h1.1 q (List.mem_cons_of_mem _ hq) k hk hq'
    · exact h2.1 q hq k hk hq'
structure NewR (b : Nat) (Sr So : Nat → Prop) (wr wo : World) (v : Value) (D : List S65) : Prop where
  row : q65.R 65 wo b (fun k => Sr k ∨ So k) v D
  root : ∀ k, Sr k → wo.heap[k]? = wr.heap[k]?
  own : ∀ k, v.ownBlock = some k → So k
section
variable {ops : Array Oper} {Q : Exit → Act → World → Prop} {rest : List Oper} {o : Oper} {a : Act} {b : Nat} {ws W : World} {L : List Part} {Sr So : Nat → Prop} {wr wo : World} {Kc : Act → World → Prop}
theorem NewR.at {v : Value} {D : List S65} (N : NewR b Sr So wr wo v D) (H : Hq b ws W L) (jr jo : Nat) (er : L[jr]? = some (.set Sr wr)) (eo : L[jo]? = some (.set So wo)) : q65.R 65 W b (fun k => Sr k ∨ So k) v D :=
  Kd.R_move N.row fun k hk => hk.elim (fun h => (H.same jr er k h).trans (N.root k h).symm) (H.same jo eo k)
theorem src_root (H : Hq b ws W L) (jr jo : Nat) (hne : jr ≠ jo) (er : L[jr]? = some (.set Sr wr)) (eo : L[jo]? = some (.set So wo)) {v : Value} {D ys : List S65} (N : NewR b Sr So wr wo v D) {A : Option Addr} {m c : Nat} (h : q65.Q 65 W b Sr (.slice A m c) ys) : ReadsRow (q65.M W b (fun k => (Sr k ∨ So k) ∧ some k ≠ v.ownBlock)) 2 W A m ys :=
  (Q_readsM h).imp_ (Below.refl _ _) (fun x cs hM => q65.M_mono (fun k hk => ⟨.inl hk, fun e => H.apart jr jo hne er eo k hk (N.own k e.symm)⟩) hM)
theorem Hq.noneQ_ (H : Hq b ws W L) (jr : Nat) (er : L[jr]? = some (.set Sr wr)) (hw : Region.wanted o (yielded ops a.tmps) = true)
    (hrun : (execOp a.eval o).run Try.prog W = .ok (.value (.slice (some ⟨W.heap.size, 0, none⟩) 0 0)) (W.alloc (.cells #[] 65)))
    (k : ∀ g w1, Az (Hq b ws w1 (.set (fun k => k = g) w1 :: L)) → Az (NewR b Sr (fun k => k = g) wr w1 (.slice (some ⟨g, 0, none⟩) 0 0) []) → Kc (a.put o.dst (.slice (some ⟨g, 0, none⟩) 0 0)) w1) : if Region.wanted o (yielded ops a.tmps) = true then Oper.wp Try.prog o a W Kc Q else Kc (a.put o.dst undef) W := by
  rw [if_pos hw]
  unfold Oper.wp
  rw [hrun]
  have hb : Below W.heap.size W (W.alloc (.cells #[] 65)) := zq2 (Below.refl _ _) _
  exact k _ _ ⟨H.more (p := .set (fun k => k = W.heap.size) _) hb (fun k hk => by obtain rfl : k = W.heap.size := hk; exact ⟨Nat.le_refl _, by simp⟩) (fun _ _ => rfl)⟩ ⟨Kd.R_mono (R_q65 (new65 W H.ge)) fun _ hk => .inr hk, fun k hk => (hb.block k (H.set_in jr er k hk).2).trans (H.same jr er k hk), fun k hk => by simpa [Value.ownBlock] using hk.symm⟩
theorem Hq.appQ_ (H : Hq b ws W L) (jr jo : Nat) (hne : jr ≠ jo) (er : L[jr]? = some (.set Sr wr)) (eo : L[jo]? = some (.set So wo)) {v : Value} {D ys : List S65} (N : NewR b Sr So wr wo v D) {A : Option Addr} {m c : Nat} (HR : ReadsRow (q65.M W b (fun k => (Sr k ∨ So k) ∧ some k ≠ v.ownBlock)) 2 W A m ys) (hl : D.length + m ≤ 1000) (hw : Region.wanted o (yielded ops a.tmps) = true) (x y : Operand) (ho : o.op = .call { callee := .builtin .append, args := #[x, y], argTypes := #[55, 55] }) (hx : a.eval x = v) (hy : a.eval y = .slice A m c)
    (k : ∀ A' c' w1 (q : List S65), Az (q = D ++ ys) → Az (Hq b ws w1 (L.set jo (.set (newS So W w1) w1))) → Az (NewR b Sr (newS So W w1) wr w1 (.slice A' q.length c') q) → Kc (a.put o.dst (.slice A' q.length c')) w1) :
    if Region.wanted o (yielded ops a.tmps) = true then Oper.wp Try.prog o a W Kc Q else Kc (a.put o.dst undef) W := by
  refine Kd.R_append_rows_step q65 (Rr := q65.M W b (fun k => (Sr k ∨ So k) ∧ some k ≠ v.ownBlock)) (w0 := ws) b hw x y 55 65 (.agg #[.string ⟨#[]⟩, .slice none 0 0]) 40 ho Try.underlying55 info65 rfl (by decide) (by omega) v D ys A m c (fun k => (Sr k ∨ So k) ∨ W.heap.size ≤ k) (fun k => (Sr k ∨ So k) ∧ some k ≠ v.ownBlock) hx hy (Kd.R_mono (N.at H jr jo er eo) fun _ hk => .inl hk) HR (fun _ _ h => h) (fun _ hk => ⟨.inl hk.1, hk.2⟩) (fun k hk => .inr hk) H.bel H.ge (by omega) ?_
  intro v1 w1 hr hb hg hat
  obtain ⟨A', c', rfl⟩ := Kd.R_slice hr
  have hbel := H.bel
  have hin : ∀ k, v.ownBlock = some k → So k := N.own
  refine k A' c' w1 _ ⟨rfl⟩ ⟨H.wrote jo eo ⟨hb.os.trans hbel.os.symm, hb.tape.trans hbel.tape.symm, hb.output.trans hbel.output.symm, hg.size, fun k h1 => (hb.block k h1).trans (hbel.block k h1).symm⟩ (fun k h1 h2 => hg.block k h1 fun e => h2 (hin k e.symm))⟩ ⟨?_, fun k hk => ?_, fun k hk => ?_⟩
  · exact Kd.R_mono (Kd.R_bound hr) fun k hk => by
      rcases hk.1 with (h | h) | h
      · exact .inl h
      · exact .inr ⟨.inl h, hk.2.2.1⟩
      · exact .inr ⟨.inr h, hk.2.2.1⟩
  · exact (hg.block k (H.set_in jr er k hk).2 fun e => H.apart jr jo hne er eo k hk (hin k e.symm)).trans (H.same jr er k hk)
  · have hlt : k < w1.heap.size := by
      obtain ⟨cs, hc⟩ := Kd.R_typed hr k hk
      exact blk_lt (show Blk w1 k cs 65 from hc)
    rcases hat with h | ⟨b', h, hge⟩
    · exact ⟨.inl (hin k (h ▸ hk)), hlt⟩
    · rw [hk] at h
      cases h
      exact ⟨.inr hge, hlt⟩
end
end Go.Proofs.Ytkoimmeghdbodaa.Hq
namespace Go.Proofs.Ytkoimmeghdbodaa.Hq
open Go.RowKit Go.Proofs.Ytkoimmeghdbodaa.Print Go.Proofs.YtkoimmeghdbodaaW.PrintWords Go.Proofs.YtkoimmeghdbodaaW.PrintLast Go.Proofs.YtkoimmeghdbodaaW.PrintMore Go.Proofs.Ytkoimmeghdbodaa.Pure Go.Proofs.Ytkoimmeghdbodaa.Hd
theorem elem65 {wo : World} {b : Nat} {S : Nat → Prop} {A : Option Addr} {n c : Nat} {l : List S65} (V : q65.R 65 wo b S (.slice A n c) l) {i : Nat} (hi : i < l.length) :
    ∃ g, A = some ⟨g, 0, none⟩ ∧ S g ∧ wo.cell? ⟨g, i * 2, none⟩ = some (.string (l.getD i z65).f0) := by
  obtain ⟨g, cap, e, _⟩ := Kd.R_form V (by omega)
  injection e with e1 e2 e3
  subst e1 e2 e3
  obtain ⟨cs, hcl, hM, hcc, _⟩ := Kd.R_elem V z65 (i : Int) (by omega) (by omega)
  rw [Int.toNat_natCast] at hM hcc
  obtain ⟨v2, rfl, hQ⟩ := q65_openM hM
  exact ⟨g, rfl, V.1 g (by simp [Value.ownBlock]), hcc 0 _ rfl⟩
section
variable {ops : Array Oper} {Q : Exit → Act → World → Prop} {rest : List Oper} {o : Oper} {a : Act} {b : Nat} {ws W : World} {L : List Part} {Sr So : Nat → Prop} {wr wo : World} {Kc : Act → World → Prop}
theorem Hq.make29n_ (H : Hq b ws W L) (hw : Region.wanted o (yielded ops a.tmps) = true) {N : Tmp} (hd : o.dst = some N) (ho : o.op = .makeSlice 63 (.const (.int .i64 3)) (.const (.int .i64 3)))
    (k : ∀ g c w1, Az (Hq b ws w1 (.set (fun k => W.heap.size ≤ k ∧ k < w1.heap.size) w1 :: L)) → Az (q29.R 29 w1 b (fun k => W.heap.size ≤ k ∧ k < w1.heap.size) (.slice (some ⟨g, 0, none⟩) 3 c) (List.replicate 3 z29)) → Az (∀ k, k < W.heap.size → w1.heap[k]? = W.heap[k]?) → Kc (a.put o.dst (.slice (some ⟨g, 0, none⟩) 3 c)) w1) : if Region.wanted o (yielded ops a.tmps) = true then Oper.wp Try.prog o a W Kc Q else Kc (a.put o.dst undef) W := by
  refine Kd.R_make_step q29 (w0 := ws) b 29 hw hd 63 _ _ ho 3 rfl rfl Try.underlying63 (.agg #[.int .i64 0, .int .i64 0, .slice none 0 0]) 40 info29 rfl (by decide) (by omega) z29 (ok := fun k => W.heap.size ≤ k) (okp := fun _ => False) (q29_mkM (x := z29) (Kd.Q_nil _ _ _ _ _)) (fun _ h => h.elim) (Nat.le_refl _) (by omega) (by decide) H.bel H.ge ?_
  intro v1 w1 hr hb hg hf
  obtain ⟨g, c, rfl, _⟩ := Kd.R_form hr (by decide)
  have hbw : Below W.heap.size W w1 := ⟨hg.os, hg.tape, hg.output, hg.size, fun k hk => hg.block k hk (by simp)⟩
  exact k g c w1 ⟨H.made hbw⟩ ⟨Kd.R_mono (Kd.R_bound hr) fun k hk => ⟨hk.1, hk.2.2.1⟩⟩ ⟨fun k hk => hbw.block k hk⟩
theorem src_lit (H : Hq b ws W L) (i : Nat) {g : Nat} {s : ByteArray} {vB : Value} (e : L[i]? = some (.box g #[.string s, vB] 65)) {ok : Nat → Prop} {l : List S29} (V : q29.Q 29 W b ok vB l) : ReadsRow (q65.M W b ok) 2 W (some ⟨g, 0, none⟩) 1 [⟨s, l⟩] := by
  refine ⟨rfl, by decide, fun _ => ⟨⟨g, 0, none⟩, rfl, fun j p hp => ?_⟩⟩
  have hj := (List.getElem?_eq_some_iff.1 hp).1
  have : j = 0 := by simpa using hj
  subst this
  obtain rfl : (⟨s, l⟩ : S65) = p := by simpa using hp
  refine ⟨[.string s, vB], rfl, q65_mkM (x := ⟨s, l⟩) V, fun i u hu => ?_⟩
  match i with
  | 0 => cases hu; exact (zq4 (H.box _ e) 0).trans rfl
  | 1 => cases hu; exact (zq4 (H.box _ e) 1).trans rfl
  | i + 2 => simp at hu
end
end Go.Proofs.Ytkoimmeghdbodaa.Hq
