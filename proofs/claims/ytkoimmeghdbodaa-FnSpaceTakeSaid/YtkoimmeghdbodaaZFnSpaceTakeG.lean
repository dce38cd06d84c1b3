/- Proved, with what follows on it: the row of the law FnSpaceTake. Conditions: the row's alone. Texts of this session and words that the kit's print laid for this seat, merged and cut by shrink.py, a program of this session. -/
import Derived.Test.YtkoimmeghdbodaaZFnSpaceTakeF
set_option linter.unusedVariables false
set_option linter.unusedSimpArgs false
namespace Go.Proofs.Ytkoimmeghdbodaa.Hq
open Go.RowKit Go.Proofs.Ytkoimmeghdbodaa.Print Go.Proofs.YtkoimmeghdbodaaW.PrintWords Go.Proofs.YtkoimmeghdbodaaW.PrintLast Go.Proofs.YtkoimmeghdbodaaW.PrintMore Go.Proofs.Ytkoimmeghdbodaa.Pure Go.Proofs.Ytkoimmeghdbodaa.Hd
def litM (r : Nat) : Int := ([-1, 1000000000, 1000000001] : List Int).getD r 0
theorem litM_get {r : Nat} (h : (r : Int) < 3) : (#[.int .i64 (-1), .int .i64 1000000000, .int .i64 1000000001] : Array Value)[r]? = some (.int .i64 (litM r)) := by
  have : r = 0 ∨ r = 1 ∨ r = 2 := by omega
  rcases this with rfl | rfl | rfl <;> rfl
def litH (r : Nat) : Int := ([-1, 12] : List Int).getD r 0
theorem litH_get {r : Nat} (h : (r : Int) < 2) : (#[.int .i64 (-1), .int .i64 12] : Array Value)[r]? = some (.int .i64 (litH r)) := by
  have : r = 0 ∨ r = 1 := by omega
  rcases this with rfl | rfl <;> rfl
theorem k37_mkM {w : World} {b : Nat} {ok : Nat → Prop} (x : S37) : k37.M w b ok x [.int .i64 x.f0, .int .i64 x.f1] := ⟨_, _, rfl, rfl, rfl⟩
theorem k37_openM {w : World} {b : Nat} {ok : Nat → Prop} {x : S37} {cs : List Value} (h : k37.M w b ok x cs) : cs = [.int .i64 x.f0, .int .i64 x.f1] := by
  obtain ⟨_, _, rfl, rfl, rfl⟩ := h
  rfl
theorem elem37 {wo : World} {b : Nat} {S : Nat → Prop} {A : Option Addr} {n c : Nat} {l : List S37} (V : k37.R 37 wo b S (.slice A n c) l) {i : Nat} (hi : i < l.length) :
    ∃ g, A = some ⟨g, 0, none⟩ ∧ S g ∧ wo.cell? ⟨g, i * 2, none⟩ = some (.int .i64 (l.getD i z37).f0) ∧ wo.cell? ⟨g, i * 2 + 1, none⟩ = some (.int .i64 (l.getD i z37).f1) := by
  obtain ⟨g, cap, e, _⟩ := Kd.R_form V (by omega)
  injection e with e1 e2 e3
  subst e1 e2 e3
  obtain ⟨cs, hcl, hM, hcc, _⟩ := Kd.R_elem V z37 (i : Int) (by omega) (by omega)
  rw [Int.toNat_natCast] at hM hcc
  obtain rfl := k37_openM hM
  exact ⟨g, rfl, V.1 g (by simp [Value.ownBlock]), hcc 0 _ rfl, hcc 1 _ rfl⟩
theorem run_ld37 {o : Oper} {a : Act} {w : World} {g f : Nat} {u0 u1 : Value} (h0 : w.cell? ⟨g, f, none⟩ = some u0) (h1 : w.cell? ⟨g, f + 1, none⟩ = some u1) {x : Operand} (ho : o.op = .load 37 x) (hx : a.eval x = .pointer (some ⟨g, f, none⟩)) :
    (execOp a.eval o).run Try.prog w = .ok (.value (.agg #[u0, u1])) w := by
  have hr := run_loadVar_mid (P := Try.prog) w g f 37 [u0, u1] _ (fun j v hv => by
    match j with
    | 0 => cases hv; exact h0
    | 1 => cases hv; exact h1
    | j + 2 => simp at hv) Try.underlying37 rfl (by kernel_rfl)
  unfold execOp
  simp only [ho, hx, Instr.loadAt, Instr.sureAddr, Sem.run_bind, Sem.run_pure, Result.andThen_ok, hr]
set_option maxRecDepth 100000 in
theorem run_st37 {o : Oper} {a : Act} {w : World} {b : Nat} {S : Nat → Prop} {g n cap : Nat} {l : List S37} (V : k37.R 37 w b S (.slice (some ⟨g, 0, none⟩) n cap) l) {i : Nat} (hi : i < n) {x z : Operand} (ho : o.op = .store 37 x z) (hx : a.eval x = .pointer (some ⟨g, i * 2, none⟩)) {u0 u1 : Value} (hz : a.eval z = .agg #[u0, u1])
    (h1 : ∀ q ∈ [u0, u1], q.oneCell' = true) : (execOp a.eval o).run Try.prog w = .ok .skip (w.setCells g (i * 2) [u0, u1]) := by
  have hrun : (Instr.storeAt 37 (.pointer (some ⟨g, i * 2, none⟩)) (.agg #[u0, u1])).run Try.prog w = .ok () (w.setCells g (i * 2) [u0, u1]) := by
    obtain ⟨_, inner, hown, hr⟩ := V
    rcases hown.2 with ⟨hv, _⟩ | ⟨g', cap', cur, hv, hb, hh, hnc, hcm, hcs, _⟩
    · cases hv
    injection hv with ha hn hc
    injection ha with ha
    injection ha with hg'
    subst hg'; subst hc
    refine run_store_run 37 _ [u0, u1] hh rfl (by kernel_rfl) ?_ h1
    have h2 : i * 2 + 2 ≤ n * 2 := by omega
    have h3 : n * 2 ≤ cap * 2 := by rw [hn]; omega
    have h4 : cur.size = cap * 2 := hcs
    show i * 2 + 2 ≤ cur.size
    omega
  unfold execOp
  simp only [ho, hx, hz, Sem.run_bind, Sem.run_pure, Result.andThen_ok, hrun]
theorem elem27 : Try.prog.underlying 27 = some (.slice (Try.prog.elem 27)) := by
  have h := Try.underlying27
  have : Try.prog.elem 27 = 37 := by simp [Program.elem, h]
  rw [this]
  exact h
theorem size37o : (Try.prog.info? 37).map (·.size) = some 2 := by kernel_rfl
theorem size27q : (Try.prog.info? 27).map (·.size) = some 1 := by kernel_rfl
theorem run_cut37 {o : Oper} {a : Act} {x : Operand} {gp n c : Nat} (w : World) (ho : o.op = .slice 27 x (some (.const (.int .i64 1))) none none) (hx : a.eval x = .slice (some ⟨gp, 0, none⟩) n c) (hn : 2 ≤ n) (hc : n ≤ c) :
    (execOp a.eval o).run Try.prog w = .ok (.value (.slice (some ⟨gp, 2, none⟩) (n - 1) (c - 1))) w := by
  cases hq : Try.prog.info? 37 with
  | none => have := size37o; rw [hq] at this; simp at this
  | some i =>
    have hs : i.size = 2 := by have := size37o; rw [hq] at this; simpa using this
    have h := cut_from (P := Try.prog) 27 37 .i64 (i := i) Try.underlying27 hq 2 hs (some ⟨gp, 0, none⟩) n c 1 (by omega) (by omega) w
    have hne : ¬ c = Int.toNat 1 := by show ¬ c = 1; omega
    rw [if_neg hne, Option.map_some] at h
    unfold execOp
    simp only [ho, hx, Option.map_some, Option.map_none]
    rw [show a.eval (Operand.const (.int .i64 1)) = .int .i64 1 from rfl, Sem.run_bind, run_sliceAt_slice (h := elem27), h]
    rfl
theorem drop37 {w : World} {b : Nat} {S : Nat → Prop} {gp n c : Nat} {l : List S37} (O : k37.R 37 w b S (.slice (some ⟨gp, 0, none⟩) n c) l) (hn : 2 ≤ n) : k37.Q 37 w b S (.slice (some ⟨gp, 2, none⟩) (n - 1) (c - 1)) (l.drop 1) := by
  have hr := Kd.R_reads' O
  have hQ := Kd.Q_drop (k := 1) (Kd.Q_of_R O) (by omega)
  rw [if_neg (show ¬ c = 1 by omega)] at hQ
  exact hQ
section
variable {base : Nat} {ws w : World} {L : List Part} {S : Nat → Prop} {wo : World}
theorem st37_of (H : Hq base ws w L) (j : Nat) (ej : L[j]? = some (.set S wo)) {g n cap i : Nat} {l : List S37} {y : S37} (V : k37.R 37 wo base S (.slice (some ⟨g, 0, none⟩) n cap) l) (hi : i < n) :
    ∃ l', Hq base ws (w.setCells g (i * 2) [.int .i64 y.f0, .int .i64 y.f1]) (L.set j (.set S (w.setCells g (i * 2) [.int .i64 y.f0, .int .i64 y.f1]))) ∧ k37.R 37 (w.setCells g (i * 2) [.int .i64 y.f0, .int .i64 y.f1]) base S (.slice (some ⟨g, 0, none⟩) n cap) l' ∧ l'.length = l.length := by
  have V' := H.rr j ej V
  obtain ⟨c, c1, c2, c3, _⟩ := Kd.R_elem V' z37 (i : Int) (by omega) (by omega)
  have hs := Kd.R_seg V' (i : Int) (by omega) (by omega) (seg := [.int .i64 y.f0, .int .i64 y.f1]) (j := 0) c1 c3 (Nat.le_refl _) (x' := y) (okp := fun k => S k ∧ k ≠ g) (by
    rw [List.take_zero, List.nil_append, List.drop_of_length_le (by rw [c1]; exact Nat.le_refl _), List.append_nil]
    exact k37_mkM y) (fun k hk => hk)
  rw [Int.toNat_natCast, show i * k37.sz + 0 = i * 2 from rfl] at hs
  exact ⟨_, H.wrote' j ej (V.1 g (by simp [Value.ownBlock])) hs.2 (setCells_same g _ _ w).2.2.2, hs.1, by rw [List.length_set]⟩
theorem st37c_of (H : Hq base ws w L) (j : Nat) (ej : L[j]? = some (.set S wo)) {g n cap : Nat} {l : List S37} {y : S37} (V : k37.R 37 wo base S (.slice (some ⟨g, 0, none⟩) n cap) l) (hi : 0 < n) (hy : y.f0 = (l.getD 0 z37).f0) :
    ∃ l', Hq base ws (w.setCell ⟨g, 1, none⟩ (.int .i64 y.f1)) (L.set j (.set S (w.setCell ⟨g, 1, none⟩ (.int .i64 y.f1)))) ∧ k37.R 37 (w.setCell ⟨g, 1, none⟩ (.int .i64 y.f1)) base S (.slice (some ⟨g, 0, none⟩) n cap) l' ∧ l'.length = l.length := by
  have V' := H.rr j ej V
  obtain ⟨c, c1, c2, c3, _⟩ := Kd.R_elem V' z37 0 (by omega) (by omega)
  obtain rfl := k37_openM c2
  have hs := Kd.R_seg V' 0 (by omega) (by omega) (seg := [.int .i64 y.f1]) (j := 1) c1 c3 (Nat.le_refl _) (x' := y) (okp := fun k => S k ∧ k ≠ g) (by
    have := k37_mkM (w := w) (b := base) (ok := fun k => S k ∧ k ≠ g) y
    rw [hy] at this
    exact this) (fun k hk => hk)
  exact ⟨_, H.wrote' j ej (V.1 g (by simp [Value.ownBlock])) hs.2 (setCells_same g [.int .i64 y.f1] 1 w).2.2.2, hs.1, by rw [List.length_set]⟩
end
theorem frz_own37 {w : World} {b : Nat} {S : Nat → Prop} {g n c : Nat} {l : List S37} (O : k37.R 37 w b S (.slice (some ⟨g, 0, none⟩) n c) l) {j : Nat} : w.frozen? ⟨g, j, none⟩ = false := by
  obtain ⟨cs, hc⟩ := Kd.R_typed O g (by simp [Value.ownBlock])
  exact blk_frz0 hc j
def Draws29 (w0 : World) (b : List Int) (g m : Nat) (w : World) (e : Ending) (w' : World) : Prop := ∃ (y : S29) (v : Value) (cs' : Array Value), e = .returned (.agg #[.int .i64 y.f0, .int .i64 y.f1, v]) ∧ y.f2.length ≤ 5 ∧ k37.Q 37 w' w0.heap.size (fun k => w.heap.size ≤ k ∧ k < w'.heap.size) v y.f2 ∧ Rdr w0 b m cs' ∧ w'.heap[g]? = some (.cells cs' 113 (0, 0)) ∧ Below w0.heap.size w w' ∧ ∀ k, k < w.heap.size → k ≠ g → w'.heap[k]? = w.heap[k]?
theorem some_of {w0 w w' wo : World} {b : List Int} {g m : Nat} {L : List Part} {cs' : Array Value} {S : Nat → Prop} {s u : Int} {A : Option Addr} {dn c : Nat} {l : List S37} (H : Hq w0.heap.size w w' L) (ig ir io : Nat) (eg : L[ig]? = some (.box g cs' 113)) (er : L[ir]? = some (.set (fun k => k ≠ g ∧ w0.heap.size ≤ k ∧ k < w.heap.size) w)) (eo : L[io]? = some (.set S wo)) (n1 : io ≠ ig) (n2 : io ≠ ir) (hr : Rdr w0 b m cs') (hn : l.length = dn) (O : k37.Q 37 wo w0.heap.size S (.slice A dn c) l) (hl : l.length ≤ 5) : Draws29 w0 b g m w (.returned (.agg #[.int .i64 s, .int .i64 u, .slice A dn c])) w' :=
  ⟨⟨s, u, l⟩, _, cs', rfl, hl, Kd.Q_mono (H.qq io eo O) (own_in H ig ir io eg er eo n1 n2), hr, H.box ig eg, H.bel, kept_in H ir er⟩
theorem some_none {w0 w w' : World} {b : List Int} {g m : Nat} {L : List Part} {cs' : Array Value} (H : Hq w0.heap.size w w' L) (ig ir : Nat) (eg : L[ig]? = some (.box g cs' 113)) (er : L[ir]? = some (.set (fun k => k ≠ g ∧ w0.heap.size ≤ k ∧ k < w.heap.size) w)) (hr : Rdr w0 b m cs') : Draws29 w0 b g m w (.returned (.agg #[.int .i64 0, .int .i64 0, .slice none 0 0])) w' :=
  ⟨⟨0, 0, []⟩, _, cs', rfl, Nat.zero_le _, Kd.Q_nil _ _ _ _ _, hr, H.box ig eg, H.bel, kept_in H ir er⟩
theorem drawn29 {w0 ws w w' : World} {L : List Part} {b : List Int} {g m : Nat} {cs : Array Value} {e' : Ending} (H : Hq w0.heap.size ws w L) (i j : Nat) (hij : i ≠ j) (e : L[i]? = some (.box g cs 113)) {S : Nat → Prop} {wo : World} (ej : L[j]? = some (.set S wo)) (h : Draws29 w0 b g m w e' w') :
    ∃ (y : S29) (v : Value) (cs' : Array Value), e' = .returned (.agg #[.int .i64 y.f0, .int .i64 y.f1, v]) ∧ y.f2.length ≤ 5 ∧ Kd.Q k37 37 w' w0.heap.size (newS S w w') v y.f2 ∧ Rdr w0 b m cs' ∧
      Hq w0.heap.size ws w' ((L.set i (.box g cs' 113)).set j (.set (newS S w w') w')) ∧ ∀ k, S k → newS S w w' k ∧ w'.heap[k]? = wo.heap[k]? := by
  obtain ⟨y, v, cs', he, hy, hq, hr, hbox, hb, hk⟩ := h
  have hs : w.heap.size ≤ w'.heap.size := hb.size
  exact ⟨y, v, cs', he, hy, Kd.Q_mono hq fun k hk => ⟨.inr hk.1, hk.2⟩, hr, H.put2 i j hij e ej (p' := .box g cs' 113) (q' := .set (newS S w w') w') (fun _ h => h) (fun _ h => h) hbox (fun _ _ => rfl) hb fun k h1 h2 _ => hk k h1 h2, H.up j ej hs fun k hS => hk k (H.set_in j ej k hS).2 (fun hh => H.apart i j hij e ej k hh hS)⟩
theorem ptr_callR {w0 ws w : World} {L : List Part} {b : List Int} {g m : Nat} {n : Int} {cs : Array Value} (hn : 3 ≤ n ∧ n ≤ 4) (hB : Below w0.heap.size w0 ws) (H : Hq w0.heap.size ws w L) (i : Nat) (e : L[i]? = some (.box g cs 113)) (hr : Rdr w0 b (m + 90) cs) :
    Calls Try.prog 94 #[.pointer (some ⟨g, 0, none⟩), .int .i64 n] w fun e w' => ∃ (s u : Int) (gp c : Nat) (l : List S37) (cs' : Array Value), e = .returned (.agg #[.int .i64 s, .int .i64 u, .slice (some ⟨gp, 0, none⟩) l.length c]) ∧ 2 ≤ l.length ∧ l.length ≤ 5 ∧ k37.R 37 w' w0.heap.size (fun k => w.heap.size ≤ k ∧ k < w'.heap.size) (.slice (some ⟨gp, 0, none⟩) l.length c) l ∧ Rdr w0 b m cs' ∧ Hq w0.heap.size ws w' (.set (fun k => w.heap.size ≤ k ∧ k < w'.heap.size) w' :: L.set i (.box g cs' 113)) := by
  obtain ⟨A, c, p, h1, h2, h3, h4⟩ := hr.ok
  obtain ⟨s, u, l, q, e1, a1, a2, a3, a4⟩ := ptr_ev hr.code hn (p := p) (by omega)
  obtain ⟨K, hK⟩ := e1
  refine (spec_l71Ptr.calls K g b p n s u l q w0 w (is_of H i e h1 h2) (hB.trans H.bel) (hK K (Nat.le_refl _))).mono fun e' w' hh => ?_
  obtain ⟨v, he, hR, hI, hb, hk⟩ := hh
  obtain ⟨gp, cap, rfl, _⟩ := Kd.R_form hR (by omega)
  obtain ⟨A', c', i1, i2, i3⟩ := hI
  exact ⟨s, u, gp, cap, l, _, he, a1, a2, Kd.R_lower (Kd.R_mono (Kd.R_bound hR) fun k hk => ⟨hk.2.1, hk.2.2.1⟩) H.ge, ⟨⟨A', c', q, rfl, i3, by omega, by omega⟩, hr.code⟩, H.drawn i e i1 (bel_of hB H hb hk.1) fun k h1 h2 => hk.2 k h1 h2 (by simp)⟩
set_option maxHeartbeats 16000000 in
set_option maxRecDepth 100000 in
theorem l71Some_calls {w0 w : World} {b : List Int} {g m : Nat} {n : Int} {cs : Array Value} (hn : 3 ≤ n ∧ n ≤ 4) (hB : Below w0.heap.size w0 w) (hbox : w.heap[g]? = some (.cells cs 113 (0, 0))) (hge : w0.heap.size ≤ g) (hr : Rdr w0 b (m + 100) cs) : Calls Try.prog 64 #[.pointer (some ⟨g, 0, none⟩), .int .i64 n] w (Draws29 w0 b g m w) := by
  have hs29 := size29q
  have HNN := Az.mk hn
  have HB := Az.mk hB
  have HR := Az.mk hr
  have H := Az.mk (Hq.start_box' w hge hbox)
  have tk0 : True := trivial
  clear hB hbox hge hr hn
  go_enter Try.func64, Try.ntmps64
  go_upto_if 8 with (first | ((with_reducible refine zqg (N := 4) rfl ?_); refine H.out.bx rfl (#[.int .i64 0, .int .i64 0, .slice none 0 0]) 29 ?hr ?_; (case hr => first | (go_simp; done) | (go_simp; rfl)); intro g4 w4 H1; clear H; have H := H1; clear H1; (try simp only [Act.put, zs1, zs2, zs3])) | (go_at_call 65; have _tk := tk0; refine (pick_callq (m := m + 99) HB.out H.out 1 rfl (HR.out.less (by omega)) (5) (by omega)).mono ?_; rintro e w7 ⟨r7, c7, rfl, hr7, hrd, h1⟩; have HR1 := Az.mk hrd; have H1 := Az.mk h1; have hz7 := eq_true (Int.natCast_nonneg r7); clear hrd h1; clear H HR; have H := H1; have HR := HR1; clear H1 HR1; clear tk0 _tk; have tk1 : True := trivial))
  (try simp only [Act.put, zs1, zs2, zs3])
  by_cases y7 : (r7 : Int) = 0
  · skip
    have y7a : ((r7 : Int) == 0) = true := beq_iff_eq.mpr y7
    have y7b : decide ((r7 : Int) = 0) = true := decide_eq_true y7
    clear y7
    go_wp2_with (first | ((with_reducible refine gate_store (t := 29) (p := 4) rfl ?_); refine H.out.st_row 0 rfl rfl (x := .tmp 4) (y := .tmp 9) rfl rfl rfl (#[.int .i64 0, .int .i64 0, .slice none 0 0]) rfl hs29 rfl (by simp [Value.oneCell']) ?_; intro ws2 H1; clear H; have H := H1; clear H1))
    exact bodyPost_ret (results_cell_row rfl _ _ g4 29 _ (0, 0) _ rfl (H.out.box 0 rfl) Try.underlying29 rfl (by kernel_rfl)) rfl (some_none H.out 1 2 rfl rfl (HR.out.less (m' := m) (by omega)))
  · skip
    have y7a : ((r7 : Int) == 0) = false := beq_eq_false_iff_ne.mpr y7
    have y7b : decide ((r7 : Int) = 0) = false := decide_eq_false y7
    clear y7
    go_upto_if 15 with (first | (go_at_call 94; have _tk := tk1; refine (ptr_callR (m := m + 9) HNN.out HB.out H.out 1 rfl (HR.out.less (by omega))).mono ?_; rintro e w12 ⟨s12, u12, gp, c12, l, c94, rfl, h2, h5, ho, hrd, h1⟩; have HL2 := Az.mk h2; have HL5 := Az.mk h5; have O := Az.mk ho; have HR1 := Az.mk hrd; have H1 := Az.mk h1; clear h2 h5 ho hrd h1; obtain ⟨dn, hdn⟩ : ∃ dn, l.length = dn := ⟨_, rfl⟩; rw [hdn] at O HL2 HL5 ⊢; have HDN := Az.mk hdn; clear hdn; clear H HR; have H := H1; have HR := HR1; clear H1 HR1; clear tk1 _tk; have tk2 : True := trivial) | ((with_reducible refine zqg (N := 5) rfl ?_); refine H.out.bx rfl (#[.int .i64 0, .int .i64 0, .slice none 0 0]) 29 ?hr ?_; (case hr => first | (go_simp; done) | (go_simp; rfl)); intro g5 w5 H1; clear H; have H := H1; clear H1; (try simp only [Act.put, zs1, zs2, zs3])) | ((with_reducible refine gate_store (t := 29) (p := 5) rfl ?_); refine H.out.st_row 0 rfl rfl (x := .tmp 5) (y := .tmp 12) rfl rfl rfl (#[.int .i64 s12, .int .i64 u12, .slice (some ⟨gp, 0, none⟩) dn c12]) rfl hs29 rfl (by simp [Value.oneCell']) ?_; intro ws3 H1; clear H; have H := H1; clear H1) | (go_at_call 65; have _tk := tk2; refine (pick_callq (m := m + 8) HB.out H.out 3 rfl (HR.out.less (by omega)) (20) (by omega)).mono ?_; rintro e w14 ⟨r14, c14, rfl, hr14, hrd, h1⟩; have HR1 := Az.mk hrd; have H1 := Az.mk h1; have hz14 := eq_true (Int.natCast_nonneg r14); clear hrd h1; clear H HR; have H := H1; have HR := HR1; clear H1 HR1; clear tk2 _tk; have tk3 : True := trivial))
    (try simp only [Act.put, zs1, zs2, zs3])
    obtain ⟨S, wo, O, H⟩ : ∃ (S : Nat → Prop) (wo : World), Az (k37.R 37 wo w0.heap.size S (.slice (some ⟨gp, 0, none⟩) dn c12) l) ∧ Az (Hq w0.heap.size w w14 [.box g5 (#[.int .i64 s12, .int .i64 u12, .slice (some ⟨gp, 0, none⟩) dn c12]) 29, .set S wo, .box g4 (#[.int .i64 0, .int .i64 0, .slice none 0 0]) 29, .box g c14 113, .set (fun k => k ≠ g ∧ w0.heap.size ≤ k ∧ k < w.heap.size) w]) := ⟨_, _, O, ⟨H.out.sel [0, 1, 2, 3, 4] _ (by decide) rfl⟩⟩
    have q0 := eq_true (show (0 : Int) < (dn : Int) by have := HL2.out; omega)
    have q0n := eq_true (show 0 < dn by have := HL2.out; omega)
    have q1 := eq_true (show (1 : Int) < (dn : Int) by have := HL2.out; omega)
    have q1n := eq_true (show 1 < dn by have := HL2.out; omega)
    by_cases y0 : (r14 : Int) = 0
    · skip
      have y0a : ((r14 : Int) == 0) = true := beq_iff_eq.mpr y0
      have y0b : decide ((r14 : Int) = 0) = true := decide_eq_true y0
      clear y0
      go_wp2_with (first | (go_at_call 65; have _tk := tk3; refine (pick_callq (m := m + 7) HB.out H.out 3 rfl (HR.out.less (by omega)) (14) (by omega)).mono ?_; rintro e w18 ⟨r18, c18, rfl, hr18, hrd, h1⟩; have HR1 := Az.mk hrd; have H1 := Az.mk h1; have hz18 := eq_true (Int.natCast_nonneg r18); clear hrd h1; clear H HR; have H := H1; have HR := HR1; clear H1 HR1; clear tk3 _tk; have tk4 : True := trivial) | ((with_reducible refine gate_store (t := 3) (p := 20) rfl ?_); refine H.out.stb 0 rfl 0 (.int .i64 ((r18 : Int) - 1)) rfl rfl size3q rfl rfl rfl rfl rfl ?_; intro ws6 H1; clear H; have H := H1; clear H1) | ((with_reducible refine zqg (N := 55) rfl ?_); refine H.out.ld_row 0 rfl rfl rfl rfl Try.underlying29 rfl hs29 ?_; (try simp only [Act.put, zs1, zs2, zs3])) | ((with_reducible refine gate_store (t := 29) (p := 4) rfl ?_); refine H.out.st_row 2 rfl rfl (x := .tmp 4) (y := .tmp 55) rfl rfl rfl (#[.int .i64 ((r18 : Int) - 1), .int .i64 u12, .slice (some ⟨gp, 0, none⟩) dn c12]) rfl hs29 rfl (by simp [Value.oneCell']) ?_; intro ws15 H1; clear H; have H := H1; clear H1))
      exact bodyPost_ret (results_cell_row rfl _ _ g4 29 _ (0, 0) _ rfl (H.out.box 2 rfl) Try.underlying29 rfl (by kernel_rfl)) rfl (some_of H.out 3 4 1 rfl rfl rfl (by decide) (by decide) (HR.out.less (m' := m) (by omega)) (HDN.out) (Kd.Q_of_R O.out) (by have := HL5.out; have := HDN.out; omega))
    · skip
      have y0a : ((r14 : Int) == 0) = false := beq_eq_false_iff_ne.mpr y0
      have y0b : decide ((r14 : Int) = 0) = false := decide_eq_false y0
      clear y0
      by_cases y1 : (r14 : Int) = 1
      · skip
        have y1a : ((r14 : Int) == 1) = true := beq_iff_eq.mpr y1
        have y1b : decide ((r14 : Int) = 1) = true := decide_eq_true y1
        clear y1
        go_wp2_with (first | ((with_reducible refine zqg (N := 23) rfl ?_); refine H.out.lit rfl (#[.int .i64 (-1), .int .i64 1000000000, .int .i64 1000000001]) 3 3 ?hr ?_; (case hr => first | (go_simp; done) | (go_simp; rfl)); intro g23 w23 H1; clear H; have H := H1; clear H1; (try simp only [Act.put, zs1, zs2, zs3])) | (go_at_call 65; have _tk := tk3; refine (pick_callq (m := m + 7) HB.out H.out 4 rfl (HR.out.less (by omega)) (3) (by omega)).mono ?_; rintro e w25 ⟨r25, c25, rfl, hr25, hrd, h1⟩; have HR1 := Az.mk hrd; have H1 := Az.mk h1; have hz25 := eq_true (Int.natCast_nonneg r25); clear hrd h1; clear H HR; have H := H1; have HR := HR1; clear H1 HR1; clear tk3 _tk; have tk4 : True := trivial) | ((with_reducible refine zqg (N := 27) rfl ?_); refine H.out.ld_cell 0 rfl r25 (v := .int .i64 (litM r25)) (litM_get hr25) rfl rfl rfl Try.underlying3 rfl ?_; (try simp only [Act.put, zs1, zs2, zs3])) | ((with_reducible refine gate_store (t := 3) (p := 28) rfl ?_); refine H.out.stb 1 rfl 1 (.int .i64 (litM r25)) rfl rfl size3q rfl rfl rfl rfl rfl ?_; intro ws8 H1; clear H; have H := H1; clear H1) | ((with_reducible refine zqg (N := 55) rfl ?_); refine H.out.ld_row 1 rfl rfl rfl rfl Try.underlying29 rfl hs29 ?_; (try simp only [Act.put, zs1, zs2, zs3])) | ((with_reducible refine gate_store (t := 29) (p := 4) rfl ?_); refine H.out.st_row 3 rfl rfl (x := .tmp 4) (y := .tmp 55) rfl rfl rfl (#[.int .i64 s12, .int .i64 (litM r25), .slice (some ⟨gp, 0, none⟩) dn c12]) rfl hs29 rfl (by simp [Value.oneCell']) ?_; intro ws15 H1; clear H; have H := H1; clear H1))
        exact bodyPost_ret (results_cell_row rfl _ _ g4 29 _ (0, 0) _ rfl (H.out.box 3 rfl) Try.underlying29 rfl (by kernel_rfl)) rfl (some_of H.out 4 5 2 rfl rfl rfl (by decide) (by decide) (HR.out.less (m' := m) (by omega)) (HDN.out) (Kd.Q_of_R O.out) (by have := HL5.out; have := HDN.out; omega))
      · skip
        have y1a : ((r14 : Int) == 1) = false := beq_eq_false_iff_ne.mpr y1
        have y1b : decide ((r14 : Int) = 1) = false := decide_eq_false y1
        clear y1
        by_cases y2 : (r14 : Int) = 2
        · skip
          have y2a : ((r14 : Int) == 2) = true := beq_iff_eq.mpr y2
          have y2b : decide ((r14 : Int) = 2) = true := decide_eq_true y2
          clear y2
          go_wp2
          refine start_ (n := 10) (S := fun w' => Hq w0.heap.size w w' [.box g5 (#[.int .i64 s12, .int .i64 u12, .slice (some ⟨gp, 0, none⟩) dn c12]) 29]) (ds := [9]) (bm 10 0) (by kernel_rfl) rfl rfl (H.out.drew.sel [0] _ (by decide) rfl) (fun hHeld => ?_)
          have H1 := Az.mk H.out.drew
          clear H; have H := H1; clear H1
          generalize World.drew _ = wd10 at hHeld H ⊢
          refine zP 0 (some 31) (bm 10 1) ?_
          refine zqt (i := 1) (N := some 32) (v := .slice (some ⟨gp, 0, none⟩) dn c12) (a' := ?_) (bm 10 3) rfl rfl (by kernel_rfl) (fun _ _ _ h => h) (Or.inl ⟨by rfl, fun w' s0 => s0.run_cell 0 rfl 2 rfl rfl rfl Try.underlying27 rfl⟩) hHeld ?_ ?_
          rotate_left
          · simp only [Act.put, zs1, zs2, zs3, i64_w, i32_w]
            rfl
          refine zP 3 (some 34) (bm 10 11) ?_
          refine two_ (i := 2) (j := 4) (Ni := some 33) (Nj := some 35) (bm 10 15) (bm 10 27) rfl rfl rfl rfl (by kernel_rfl) (by decide) (by decide) ?_ ?_
          · intro K hK
            refine H.out.lit_ (by rfl) (#[.int .i64 (-1), .int .i64 12]) 3 2 ?hr ?_
            (case hr => first | (go_simp; done) | (go_simp; rfl))
            intro g33 w33 H1
            clear H; have H := H1; clear H1
            refine hK.out _ _ (H.out.sel [1] _ (by decide) rfl) (fun hHeld => ?_)
            clear hK K
            refine norm_ (a' := ?_) ?_ ?_
            rotate_left
            · show Act.put _ (some 33) _ = _
              simp only [Act.put, zs1, zs2, zs3, i64_w, i32_w]
              rfl
            refine one_ (i := 4) (N := some 35) (bm 10 31) rfl rfl (by kernel_rfl) (by decide) (fun K hK => ?_)
            refine goes_ Try.func65 (by kernel_rfl) rfl #[.pointer (some ⟨g, 0, none⟩), .int .i64 2] (by rfl) rfl rfl (by (try simp only [List.map_toArray, List.map_cons, List.map_nil]); first | done | rfl) ?_
            refine (pick_callq (m := m + 7) HB.out H.out 4 rfl (HR.out.less (by omega)) (2) (by omega)).mono ?_
            rintro e w35 ⟨r35, c35, rfl, hr35, hrd, h1⟩
            refine ⟨_, rfl, ?_⟩
            have HR1 := Az.mk hrd
            have H1 := Az.mk h1
            have hz35 := eq_true (Int.natCast_nonneg r35)
            clear hrd h1
            clear H HR; have H := H1; have HR := HR1; clear H1 HR1
            refine hK.out _ _ (H.out.sel [1] _ (by decide) rfl) (fun hHeld => ?_)
            clear hK K
            refine norm_ (a' := ?_) ?_ ?_
            rotate_left
            · show Act.put _ (some 35) _ = _
              simp only [Act.put, zs1, zs2, zs3, i64_w, i32_w]
              rfl
            refine zP 5 (some 36) (bm 10 63) ?_
            refine one_ (i := 6) (N := some 37) (bm 10 127) rfl rfl (by kernel_rfl) (by decide) (fun K hK => ?_)
            refine event_step (v := .int .i64 (litH r35)) (w1 := _) (by rfl) (H.out.run_cell 0 rfl r35 (litH_get hr35) rfl rfl Try.underlying3 rfl) ?_
            refine hK.out _ _ (H.out.sel [1] _ (by decide) rfl) (fun hHeld => ?_)
            clear hK K
            refine norm_ (a' := ?_) ?_ ?_
            rotate_left
            · show Act.put _ (some 37) _ = _
              simp only [Act.put, zs1, zs2, zs3, i64_w, i32_w]
              rfl
            refine zP 7 (some 38) (bm 10 255) ?_
            refine zP 8 (some 39) (bm 10 511) ?_
            obtain ⟨gq, eA, hs, h00, h01⟩ := elem37 O.out (i := 0) (by have := HDN.out; have := HL2.out; omega)
            cases eA
            obtain ⟨l', h1, hq, hl⟩ := st37c_of (y := ⟨(l.getD 0 z37).f0, litH r35⟩) H.out 2 rfl O.out (by have := HL2.out; omega) rfl
            have HC := Az.mk (H.out.cell 2 rfl hs h01)
            refine last_ (i := 9) (N := none) (bm 10 1023) rfl rfl (by kernel_rfl) (by decide) (fun K hK => ?_)
            refine last_st (by rfl) rfl (run_sc (v := .int .i64 (litH r35)) size3q HC.out (H.out.frz 2 rfl hs (frz_own37 O.out)) rfl rfl rfl rfl) ?_
            have H1 := Az.mk h1
            have OQ := Az.mk hq
            have HDN1 := Az.mk (hl.trans HDN.out)
            clear h1 hq hl HC h00 h01 hs
            clear H HDN; have H := H1; have HDN := HDN1; clear H1 HDN1
            refine hK.out _ _ ?_
            clear hK K
            refine norm_ (a' := ?_) ?_ ?_
            rotate_left
            · rfl
            refine done_ (by kernel_rfl) ?_
            go_wp2_with (first | ((with_reducible refine zqg (N := 55) rfl ?_); refine H.out.ld_row 1 rfl rfl rfl rfl Try.underlying29 rfl hs29 ?_; (try simp only [Act.put, zs1, zs2, zs3])) | ((with_reducible refine gate_store (t := 29) (p := 4) rfl ?_); refine H.out.st_row 3 rfl rfl (x := .tmp 4) (y := .tmp 55) rfl rfl rfl (#[.int .i64 s12, .int .i64 u12, .slice (some ⟨gp, 0, none⟩) dn c12]) rfl hs29 rfl (by simp [Value.oneCell']) ?_; intro ws15 H1; clear H; have H := H1; clear H1))
            exact bodyPost_ret (results_cell_row rfl _ _ g4 29 _ (0, 0) _ rfl (H.out.box 3 rfl) Try.underlying29 rfl (by kernel_rfl)) rfl (some_of H.out 4 5 2 rfl rfl rfl (by decide) (by decide) (HR.out.less (m' := m) (by omega)) (HDN.out) (Kd.Q_of_R OQ.out) (by have := HL5.out; have := HDN.out; omega))
          · intro K hK
            refine goes_ Try.func65 (by kernel_rfl) rfl #[.pointer (some ⟨g, 0, none⟩), .int .i64 2] (by rfl) rfl rfl (by (try simp only [List.map_toArray, List.map_cons, List.map_nil]); first | done | rfl) ?_
            refine (pick_callq (m := m + 7) HB.out H.out 3 rfl (HR.out.less (by omega)) (2) (by omega)).mono ?_
            rintro e w35 ⟨r35, c35, rfl, hr35, hrd, h1⟩
            refine ⟨_, rfl, ?_⟩
            have HR1 := Az.mk hrd
            have H1 := Az.mk h1
            have hz35 := eq_true (Int.natCast_nonneg r35)
            clear hrd h1
            clear H HR; have H := H1; have HR := HR1; clear H1 HR1
            refine hK.out _ _ (H.out.sel [0] _ (by decide) rfl) (fun hHeld => ?_)
            clear hK K
            refine norm_ (a' := ?_) ?_ ?_
            rotate_left
            · show Act.put _ (some 35) _ = _
              simp only [Act.put, zs1, zs2, zs3, i64_w, i32_w]
              rfl
            refine one_ (i := 2) (N := some 33) (bm 10 31) rfl rfl (by kernel_rfl) (by decide) (fun K hK => ?_)
            refine H.out.lit_ (by rfl) (#[.int .i64 (-1), .int .i64 12]) 3 2 ?hr ?_
            (case hr => first | (go_simp; done) | (go_simp; rfl))
            intro g33 w33 H1
            clear H; have H := H1; clear H1
            refine hK.out _ _ (H.out.sel [1] _ (by decide) rfl) (fun hHeld => ?_)
            clear hK K
            refine norm_ (a' := ?_) ?_ ?_
            rotate_left
            · show Act.put _ (some 33) _ = _
              simp only [Act.put, zs1, zs2, zs3, i64_w, i32_w]
              rfl
            refine zP 5 (some 36) (bm 10 63) ?_
            refine one_ (i := 6) (N := some 37) (bm 10 127) rfl rfl (by kernel_rfl) (by decide) (fun K hK => ?_)
            refine event_step (v := .int .i64 (litH r35)) (w1 := _) (by rfl) (H.out.run_cell 0 rfl r35 (litH_get hr35) rfl rfl Try.underlying3 rfl) ?_
            refine hK.out _ _ (H.out.sel [1] _ (by decide) rfl) (fun hHeld => ?_)
            clear hK K
            refine norm_ (a' := ?_) ?_ ?_
            rotate_left
            · show Act.put _ (some 37) _ = _
              simp only [Act.put, zs1, zs2, zs3, i64_w, i32_w]
              rfl
            refine zP 7 (some 38) (bm 10 255) ?_
            refine zP 8 (some 39) (bm 10 511) ?_
            obtain ⟨gq, eA, hs, h00, h01⟩ := elem37 O.out (i := 0) (by have := HDN.out; have := HL2.out; omega)
            cases eA
            obtain ⟨l', h1, hq, hl⟩ := st37c_of (y := ⟨(l.getD 0 z37).f0, litH r35⟩) H.out 2 rfl O.out (by have := HL2.out; omega) rfl
            have HC := Az.mk (H.out.cell 2 rfl hs h01)
            refine last_ (i := 9) (N := none) (bm 10 1023) rfl rfl (by kernel_rfl) (by decide) (fun K hK => ?_)
            refine last_st (by rfl) rfl (run_sc (v := .int .i64 (litH r35)) size3q HC.out (H.out.frz 2 rfl hs (frz_own37 O.out)) rfl rfl rfl rfl) ?_
            have H1 := Az.mk h1
            have OQ := Az.mk hq
            have HDN1 := Az.mk (hl.trans HDN.out)
            clear h1 hq hl HC h00 h01 hs
            clear H HDN; have H := H1; have HDN := HDN1; clear H1 HDN1
            refine hK.out _ _ ?_
            clear hK K
            refine norm_ (a' := ?_) ?_ ?_
            rotate_left
            · rfl
            refine done_ (by kernel_rfl) ?_
            go_wp2_with (first | ((with_reducible refine zqg (N := 55) rfl ?_); refine H.out.ld_row 1 rfl rfl rfl rfl Try.underlying29 rfl hs29 ?_; (try simp only [Act.put, zs1, zs2, zs3])) | ((with_reducible refine gate_store (t := 29) (p := 4) rfl ?_); refine H.out.st_row 3 rfl rfl (x := .tmp 4) (y := .tmp 55) rfl rfl rfl (#[.int .i64 s12, .int .i64 u12, .slice (some ⟨gp, 0, none⟩) dn c12]) rfl hs29 rfl (by simp [Value.oneCell']) ?_; intro ws15 H1; clear H; have H := H1; clear H1))
            exact bodyPost_ret (results_cell_row rfl _ _ g4 29 _ (0, 0) _ rfl (H.out.box 3 rfl) Try.underlying29 rfl (by kernel_rfl)) rfl (some_of H.out 4 5 2 rfl rfl rfl (by decide) (by decide) (HR.out.less (m' := m) (by omega)) (HDN.out) (Kd.Q_of_R OQ.out) (by have := HL5.out; have := HDN.out; omega))
        · skip
          have y2a : ((r14 : Int) == 2) = false := beq_eq_false_iff_ne.mpr y2
          have y2b : decide ((r14 : Int) = 2) = false := decide_eq_false y2
          clear y2
          by_cases y3 : (r14 : Int) = 3
          · skip
            have y3a : ((r14 : Int) == 3) = true := beq_iff_eq.mpr y3
            have y3b : decide ((r14 : Int) = 3) = true := decide_eq_true y3
            clear y3
            go_wp2
            obtain ⟨gq, eA, hs, h00, h01⟩ := elem37 O.out (i := 0) (by have := HDN.out; have := HL2.out; omega)
            cases eA
            obtain ⟨gq, eA, _, h10, h11⟩ := elem37 O.out (i := 1) (by have := HDN.out; have := HL2.out; omega)
            cases eA
            have hs := Az.mk hs
            have h10 := Az.mk h10
            have h11 := Az.mk h11
            clear h00 h01
            refine start_ (n := 8) (S := fun w' => Hq w0.heap.size w w' [.box g5 (#[.int .i64 s12, .int .i64 u12, .slice (some ⟨gp, 0, none⟩) dn c12]) 29, .set S wo]) (ds := [7]) (bm 8 0) (by kernel_rfl) rfl rfl (H.out.drew.sel [0, 1] _ (by decide) rfl) (fun hHeld => ?_)
            have H1 := Az.mk H.out.drew
            clear H; have H := H1; clear H1
            generalize World.drew _ = wd12 at hHeld H ⊢
            refine zP 0 (some 42) (bm 8 1) ?_
            refine zqt (i := 1) (N := some 43) (v := .slice (some ⟨gp, 0, none⟩) dn c12) (a' := ?_) (bm 8 3) rfl rfl (by kernel_rfl) (fun _ _ _ h => h) (Or.inl ⟨by rfl, fun w' s0 => s0.run_cell 0 rfl 2 rfl rfl rfl Try.underlying27 rfl⟩) hHeld ?_ ?_
            rotate_left
            · simp only [Act.put, zs1, zs2, zs3, i64_w, i32_w]
              rfl
            refine zP 2 (some 44) (bm 8 7) ?_
            refine zqt (i := 3) (N := some 45) (v := .slice (some ⟨gp, 0, none⟩) dn c12) (a' := ?_) (bm 8 15) rfl rfl (by kernel_rfl) (fun _ _ _ h => h) (Or.inl ⟨by rfl, fun w' s0 => s0.run_cell 0 rfl 2 rfl rfl rfl Try.underlying27 rfl⟩) hHeld ?_ ?_
            rotate_left
            · simp only [Act.put, zs1, zs2, zs3, i64_w, i32_w]
              rfl
            refine zP 4 (some 46) (bm 8 31) ?_
            refine zqt (i := 5) (N := some 47) (v := .agg #[.int .i64 (l.getD 1 z37).f0, .int .i64 (l.getD 1 z37).f1]) (a' := ?_) (bm 8 63) rfl rfl (by kernel_rfl) (fun _ _ _ h => h) (Or.inl ⟨by rfl, fun w' s0 => run_ld37 (s0.cell 1 rfl hs.out h10.out) (s0.cell 1 rfl hs.out h11.out) rfl rfl⟩) hHeld ?_ ?_
            rotate_left
            · simp only [Act.put, zs1, zs2, zs3, i64_w, i32_w]
              rfl
            refine zP 6 (some 48) (bm 8 127) ?_
            obtain ⟨l', h1, hq, hl⟩ := st37_of (i := 0) (y := l.getD 1 z37) H.out 1 rfl O.out (by have := HL2.out; omega)
            refine last_ (i := 7) (N := none) (bm 8 255) rfl rfl (by kernel_rfl) (by decide) (fun K hK => ?_)
            refine last_st (by rfl) rfl (run_st37 (H.out.rr 1 rfl O.out) (i := 0) (by have := HL2.out; omega) rfl rfl rfl (by simp [Value.oneCell'])) ?_
            have H1 := Az.mk h1
            have OQ := Az.mk hq
            have HDN1 := Az.mk (hl.trans HDN.out)
            clear h1 hq hl
            clear H HDN; have H := H1; have HDN := HDN1; clear H1 HDN1
            refine hK.out _ _ ?_
            clear hK K
            refine norm_ (a' := ?_) ?_ ?_
            rotate_left
            · rfl
            refine done_ (by kernel_rfl) ?_
            go_wp2_with (first | ((with_reducible refine zqg (N := 55) rfl ?_); refine H.out.ld_row 0 rfl rfl rfl rfl Try.underlying29 rfl hs29 ?_; (try simp only [Act.put, zs1, zs2, zs3])) | ((with_reducible refine gate_store (t := 29) (p := 4) rfl ?_); refine H.out.st_row 2 rfl rfl (x := .tmp 4) (y := .tmp 55) rfl rfl rfl (#[.int .i64 s12, .int .i64 u12, .slice (some ⟨gp, 0, none⟩) dn c12]) rfl hs29 rfl (by simp [Value.oneCell']) ?_; intro ws15 H1; clear H; have H := H1; clear H1))
            exact bodyPost_ret (results_cell_row rfl _ _ g4 29 _ (0, 0) _ rfl (H.out.box 2 rfl) Try.underlying29 rfl (by kernel_rfl)) rfl (some_of H.out 3 4 1 rfl rfl rfl (by decide) (by decide) (HR.out.less (m' := m) (by omega)) (HDN.out) (Kd.Q_of_R OQ.out) (by have := HL5.out; have := HDN.out; omega))
          · skip
            have y3a : ((r14 : Int) == 3) = false := beq_eq_false_iff_ne.mpr y3
            have y3b : decide ((r14 : Int) = 3) = false := decide_eq_false y3
            clear y3
            by_cases y4 : (r14 : Int) = 4
            · skip
              have y4a : ((r14 : Int) == 4) = true := beq_iff_eq.mpr y4
              have y4b : decide ((r14 : Int) = 4) = true := decide_eq_true y4
              clear y4
              go_wp2_with (first | ((with_reducible refine zqg (N := 52) rfl ?_); refine H.out.ld_cell 0 rfl 2 (v := .slice (some ⟨gp, 0, none⟩) dn c12) rfl rfl rfl rfl Try.underlying27 rfl ?_; (try simp only [Act.put, zs1, zs2, zs3])) | ((with_reducible refine zqg (N := 53) rfl ?_); refine Kd.event_run rfl (run_cut37 _ rfl rfl (by have := HL2.out; omega) (Kd.R_reads' O.out).2.1) ?_; (try simp only [Act.put, zs1, zs2, zs3])) | ((with_reducible refine gate_store (t := 27) (p := 54) rfl ?_); refine H.out.stb 0 rfl 2 (.slice (some ⟨gp, 2, none⟩) (dn - 1) (c12 - 1)) rfl rfl size27q rfl rfl rfl rfl rfl ?_; intro ws14 H1; clear H; have H := H1; clear H1) | ((with_reducible refine zqg (N := 55) rfl ?_); refine H.out.ld_row 0 rfl rfl rfl rfl Try.underlying29 rfl hs29 ?_; (try simp only [Act.put, zs1, zs2, zs3])) | ((with_reducible refine gate_store (t := 29) (p := 4) rfl ?_); refine H.out.st_row 2 rfl rfl (x := .tmp 4) (y := .tmp 55) rfl rfl rfl (#[.int .i64 s12, .int .i64 u12, .slice (some ⟨gp, 2, none⟩) (dn - 1) (c12 - 1)]) rfl hs29 rfl (by simp [Value.oneCell']) ?_; intro ws15 H1; clear H; have H := H1; clear H1))
              exact bodyPost_ret (results_cell_row rfl _ _ g4 29 _ (0, 0) _ rfl (H.out.box 2 rfl) Try.underlying29 rfl (by kernel_rfl)) rfl (some_of H.out 3 4 1 rfl rfl rfl (by decide) (by decide) (HR.out.less (m' := m) (by omega)) (by rw [List.length_drop, HDN.out]) (drop37 O.out HL2.out) (by rw [List.length_drop]; have := HL5.out; have := HDN.out; omega))
            · skip
              have y4a : ((r14 : Int) == 4) = false := beq_eq_false_iff_ne.mpr y4
              have y4b : decide ((r14 : Int) = 4) = false := decide_eq_false y4
              clear y4
              go_wp2_with (first | ((with_reducible refine zqg (N := 55) rfl ?_); refine H.out.ld_row 0 rfl rfl rfl rfl Try.underlying29 rfl hs29 ?_; (try simp only [Act.put, zs1, zs2, zs3])) | ((with_reducible refine gate_store (t := 29) (p := 4) rfl ?_); refine H.out.st_row 2 rfl rfl (x := .tmp 4) (y := .tmp 55) rfl rfl rfl (#[.int .i64 s12, .int .i64 u12, .slice (some ⟨gp, 0, none⟩) dn c12]) rfl hs29 rfl (by simp [Value.oneCell']) ?_; intro ws15 H1; clear H; have H := H1; clear H1))
              exact bodyPost_ret (results_cell_row rfl _ _ g4 29 _ (0, 0) _ rfl (H.out.box 2 rfl) Try.underlying29 rfl (by kernel_rfl)) rfl (some_of H.out 3 4 1 rfl rfl rfl (by decide) (by decide) (HR.out.less (m' := m) (by omega)) (HDN.out) (Kd.Q_of_R O.out) (by have := HL5.out; have := HDN.out; omega))
theorem some_callq {w0 ws w : World} {L : List Part} {b : List Int} {g m : Nat} {n : Int} {cs : Array Value} (hn : 3 ≤ n ∧ n ≤ 4) (hB : Below w0.heap.size w0 ws) (H : Hq w0.heap.size ws w L) (i j : Nat) (hij : i ≠ j) (e : L[i]? = some (.box g cs 113)) {S : Nat → Prop} {wo : World} (ej : L[j]? = some (.set S wo)) (hr : Rdr w0 b (m + 100) cs) :
    Calls Try.prog 64 #[.pointer (some ⟨g, 0, none⟩), .int .i64 n] w fun e w' => ∃ (y : S29) (v : Value) (cs' : Array Value), e = .returned (.agg #[.int .i64 y.f0, .int .i64 y.f1, v]) ∧ y.f2.length ≤ 5 ∧ Kd.Q k37 37 w' w0.heap.size (newS S w w') v y.f2 ∧ Rdr w0 b m cs' ∧
      Hq w0.heap.size ws w' ((L.set i (.box g cs' 113)).set j (.set (newS S w w') w')) ∧ ∀ k, S k → newS S w w' k ∧ w'.heap[k]? = wo.heap[k]? :=
  (l71Some_calls (m := m) hn (hB.trans H.bel) (H.box i e) (H.box_ge i e) hr).mono fun _ _ h => drawn29 H i j hij e ej h
end Go.Proofs.Ytkoimmeghdbodaa.Hq
namespace Go.Proofs.Ytkoimmeghdbodaa.Hq
open Go.RowKit Go.Proofs.Ytkoimmeghdbodaa.Print Go.Proofs.YtkoimmeghdbodaaW.PrintWords Go.Proofs.YtkoimmeghdbodaaW.PrintLast Go.Proofs.YtkoimmeghdbodaaW.PrintMore Go.Proofs.Ytkoimmeghdbodaa.Pure Go.Proofs.Ytkoimmeghdbodaa.Hd
theorem frz_own {wo : World} {b : Nat} {S : Nat → Prop} {gv n c : Nat} {D : List S65} (O : r65.R 65 wo b S (.slice (some ⟨gv, 0, none⟩) n c) D) (hg : S gv) {j : Nat} : wo.frozen? ⟨gv, j, none⟩ = false := by
  obtain ⟨cs, hc⟩ := Kd.R_typed O gv (by simp [Value.ownBlock])
  exact blk_frz0 hc j
theorem byte_at {w : World} {g : Nat} {x : Int} {t : TypeId} (h : w.heap[g]? = some (.cells #[.int .u8 x] t (0, 0))) : BytesAt w g [x] := fun i hi => by
  obtain rfl : i = 0 := by simpa using hi
  exact ⟨(zq4 h 0).trans rfl, blk_frz0 h 0⟩
set_option maxHeartbeats 16000000 in
set_option maxRecDepth 100000 in
theorem l71Off_calls {w0 w : World} {b : List Int} {g m : Nat} {n : Int} {cs : Array Value} (hn : 3 ≤ n ∧ n ≤ 4) (hB : Below w0.heap.size w0 w) (hbox : w.heap[g]? = some (.cells cs 113 (0, 0))) (hge : w0.heap.size ≤ g) (hr : Rdr w0 b (m + 3000) cs) : Calls Try.prog 82 #[.pointer (some ⟨g, 0, none⟩), .int .i64 n] w (DrawsOff w0 b g m w) := by
  have hs57 := size57
  have hs65 := size65q
  have hs29 := size29q
  have HNN := Az.mk hn
  have HB := Az.mk hB
  have HR := Az.mk hr
  have H := Az.mk (Hq.start_box' w hge hbox)
  have tk0 : True := trivial
  clear hB hbox hge hr hn
  go_enter Try.func82, Try.ntmps82
  go_upto_if 11 with (first | ((with_reducible refine zqg (N := 4) rfl ?_); refine H.out.bx rfl (#[.int .i64 0, .slice none 0 0]) 57 ?hr ?_; (case hr => first | (go_simp; done) | (go_simp; rfl)); intro g4 w4 H1; clear H; have H := H1; clear H1; (try simp only [Act.put, zs1, zs2, zs3])) | (go_at_call 89; have _tk := tk0; refine (root_callq (m := m + 500) HNN.out HB.out H.out 1 rfl (HR.out.less (by omega))).mono ?_; rintro e w8 ⟨tx, A5, c5, D, c8, rfl, hd, hl4, ho, hrd, h1⟩; have HD := Az.mk hd; have HL4 := Az.mk hl4; have O := Az.mk ho; have HR1 := Az.mk hrd; have H1 := Az.mk h1; clear hd hl4 ho hrd h1; clear H HR; have H := H1; have HR := HR1; clear H1 HR1; clear tk0 _tk; have tk1 : True := trivial) | ((with_reducible refine zqg (N := 5) rfl ?_); refine H.out.bx rfl (#[.int .i64 0, .slice none 0 0]) 57 ?hr ?_; (case hr => first | (go_simp; done) | (go_simp; rfl)); intro g5 w5 H1; clear H; have H := H1; clear H1; (try simp only [Act.put, zs1, zs2, zs3])) | ((with_reducible refine gate_store (t := 57) (p := 5) rfl ?_); refine H.out.st_row 0 rfl rfl (x := .tmp 5) (y := .tmp 8) rfl rfl rfl (#[.int .i64 tx, .slice A5 D.length c5]) rfl hs57 rfl (by simp [Value.oneCell']) ?_; intro ws1 H1; clear H; have H := H1; clear H1) | (go_at_call 65; have _tk := tk1; refine (pick_callq (m := m + 499) HB.out H.out 3 rfl (HR.out.less (by omega)) (12) (by omega)).mono ?_; rintro e w10 ⟨r10, c10, rfl, hr10, hrd, h1⟩; have HR1 := Az.mk hrd; have H1 := Az.mk h1; have hz10 := eq_true (Int.natCast_nonneg r10); clear hrd h1; clear H HR; have H := H1; have HR := HR1; clear H1 HR1; clear tk1 _tk; have tk2 : True := trivial))
  (try simp only [Act.put, zs1, zs2, zs3])
  obtain ⟨dn, hdn⟩ : ∃ dn, D.length = dn := ⟨_, rfl⟩
  rw [hdn] at O H ⊢
  have HDN := Az.mk hdn
  clear hdn
  obtain ⟨S, wo, O, H⟩ : ∃ (S : Nat → Prop) (wo : World), Az (r65.R 65 wo w0.heap.size S (.slice A5 dn c5) D) ∧ Az (Hq w0.heap.size w w10 [.box g5 (#[.int .i64 tx, .slice A5 dn c5]) 57, .set S wo, .box g4 (#[.int .i64 0, .slice none 0 0]) 57, .box g c10 113, .set (fun k => k ≠ g ∧ w0.heap.size ≤ k ∧ k < w.heap.size) w]) := ⟨_, _, O, ⟨H.out.sel [0, 1, 2, 3, 4] _ (by decide) rfl⟩⟩
  have HLE := HL4
  clear HL4
  by_cases hz : 0 < r10
  · have hzd : decide (0 < r10) = true := decide_eq_true hz
    have hzi : decide (0 < (r10 : Int)) = true := decide_eq_true (by omega)
    clear hz
    simp only [hzd]
    go_wp2_with (first | ((with_reducible refine zqg (N := 12) rfl ?_); refine H.out.ld_row 0 rfl rfl rfl rfl Try.underlying57 rfl hs57 ?_; (try simp only [Act.put, zs1, zs2, zs3])) | ((with_reducible refine gate_store (t := 57) (p := 4) rfl ?_); refine H.out.st_row 2 rfl rfl (x := .tmp 4) (y := .tmp 12) rfl rfl rfl (#[.int .i64 tx, .slice A5 dn c5]) rfl hs57 rfl (by simp [Value.oneCell']) ?_; intro ws3 H1; clear H; have H := H1; clear H1))
    exact bodyPost_ret (results_cell_row rfl _ _ g4 57 _ (0, 0) _ rfl (H.out.box 2 rfl) Try.underlying57 rfl (by kernel_rfl)) rfl (off_of H.out 3 4 1 rfl rfl rfl (by decide) (by decide) (HR.out.less (m' := m) (by omega)) HDN.out (R_q65 O.out) (FV.of HD.out (by have := HLE.out; omega)))
  · have hzd : decide (0 < r10) = false := decide_eq_false hz
    have hzi : decide (0 < (r10 : Int)) = false := decide_eq_false (by omega)
    clear hz
    simp only [hzd]
    go_upto_if 33 with (first | (go_at_call 65; have _tk := tk2; refine (pick_callq (m := m + 498) HB.out H.out 3 rfl (HR.out.less (by omega)) (6) (by omega)).mono ?_; rintro e w14 ⟨r14, c14, rfl, hr14, hrd, h1⟩; have HR1 := Az.mk hrd; have H1 := Az.mk h1; have hz14 := eq_true (Int.natCast_nonneg r14); clear hrd h1; clear H HR; have H := H1; have HR := HR1; clear H1 HR1; clear tk2 _tk; have tk3 : True := trivial))
    (try simp only [Act.put, zs1, zs2, zs3])
    by_cases y0 : (r14 : Int) = 0
    · skip
      have y0a : ((r14 : Int) == 0) = true := beq_iff_eq.mpr y0
      have y0b : decide ((r14 : Int) = 0) = true := decide_eq_true y0
      clear y0
      go_wp2_with (first | ((with_reducible refine zqg (N := 35) rfl ?_); refine H.out.lit rfl (#[.int .i64 (-1), .int .i64 100000, .int .i64 100001]) 3 3 ?hr ?_; (case hr => first | (go_simp; done) | (go_simp; rfl)); intro g35 w35 H1; clear H; have H := H1; clear H1; (try simp only [Act.put, zs1, zs2, zs3])) | (go_at_call 65; have _tk := tk3; refine (pick_callq (m := m + 497) HB.out H.out 4 rfl (HR.out.less (by omega)) (3) (by omega)).mono ?_; rintro e w37 ⟨r37, c37, rfl, hr37, hrd, h1⟩; have HR1 := Az.mk hrd; have H1 := Az.mk h1; have hz37 := eq_true (Int.natCast_nonneg r37); clear hrd h1; clear H HR; have H := H1; have HR := HR1; clear H1 HR1; clear tk3 _tk; have tk4 : True := trivial) | ((with_reducible refine zqg (N := 39) rfl ?_); refine H.out.ld_cell 0 rfl r37 (v := .int .i64 (litT r37)) (litT_get hr37) rfl rfl rfl Try.underlying3 rfl ?_; (try simp only [Act.put, zs1, zs2, zs3])) | ((with_reducible refine gate_store (t := 3) (p := 40) rfl ?_); refine H.out.stb 1 rfl 0 (.int .i64 (litT r37)) rfl rfl size3q rfl rfl rfl rfl rfl ?_; intro ws8 H1; clear H; have H := H1; clear H1) | ((with_reducible refine zqg (N := 96) rfl ?_); refine H.out.ld_row 1 rfl rfl rfl rfl Try.underlying57 rfl hs57 ?_; (try simp only [Act.put, zs1, zs2, zs3])) | ((with_reducible refine gate_store (t := 57) (p := 4) rfl ?_); refine H.out.st_row 3 rfl rfl (x := .tmp 4) (y := .tmp 96) rfl rfl rfl (#[.int .i64 (litT r37), .slice A5 dn c5]) rfl hs57 rfl (by simp [Value.oneCell']) ?_; intro ws20 H1; clear H; have H := H1; clear H1))
      exact bodyPost_ret (results_cell_row rfl _ _ g4 57 _ (0, 0) _ rfl (H.out.box 3 rfl) Try.underlying57 rfl (by kernel_rfl)) rfl (off_of H.out 4 5 2 rfl rfl rfl (by decide) (by decide) (HR.out.less (m' := m) (by omega)) HDN.out (R_q65 O.out) (FV.of HD.out (by have := HLE.out; omega)))
    · skip
      have y0a : ((r14 : Int) == 0) = false := beq_eq_false_iff_ne.mpr y0
      have y0b : decide ((r14 : Int) = 0) = false := decide_eq_false y0
      clear y0
      by_cases y1 : (r14 : Int) = 1
      · skip
        have y1a : ((r14 : Int) == 1) = true := beq_iff_eq.mpr y1
        have y1b : decide ((r14 : Int) = 1) = true := decide_eq_true y1
        clear y1
        go_wp2
        refine start_ (n := 8) (S := fun w' => Hq w0.heap.size w w' [.box g5 (#[.int .i64 tx, .slice A5 dn c5]) 57]) (ds := [7]) (bm 8 0) (by kernel_rfl) rfl rfl (H.out.drew.sel [0] _ (by decide) rfl) (fun hHeld => ?_)
        have H1 := Az.mk H.out.drew
        clear H; have H := H1; clear H1
        generalize World.drew _ = wd10 at hHeld H ⊢
        refine zP 0 (some 43) (bm 8 1) ?_
        refine zqt (i := 1) (N := some 44) (v := .slice A5 dn c5) (a' := ?_) (bm 8 3) rfl rfl (by kernel_rfl) (fun _ _ _ h => h) (Or.inl ⟨by rfl, fun w' s0 => s0.run_cell 0 rfl 1 rfl rfl rfl Try.underlying55 rfl⟩) hHeld ?_ ?_
        rotate_left
        · simp only [Act.put, zs1, zs2, zs3, i64_w, i32_w]
          rfl
        refine one_ (i := 2) (N := some 45) (bm 8 7) rfl rfl (by kernel_rfl) (by decide) (fun K hK => ?_)
        refine H.out.make29_ 1 rfl (by rfl) rfl rfl ?_
        intro gB cB w45 H1 hup V
        have O1 := Az.mk (R_up O.out hup)
        clear hup
        clear H O; have H := H1; have O := O1; clear H1 O1
        refine hK.out _ _ (H.out.sel [0] _ (by decide) rfl) (fun hHeld => ?_)
        clear hK K
        refine norm_ (a' := ?_) ?_ ?_
        rotate_left
        · show Act.put _ (some 45) _ = _
          simp only [Act.put, zs1, zs2, zs3, i64_w, i32_w]
          rfl
        refine zP 3 (some 46) (bm 8 15) ?_
        refine one_ (i := 4) (N := some 47) (bm 8 31) rfl rfl (by kernel_rfl) (by decide) (fun K hK => ?_)
        refine event_step (v := .slice (some ⟨w45.heap.size, 0, none⟩) 1 1) (w1 := w45.alloc (.cells #[.string ⟨#[65]⟩, .slice (some ⟨gB, 0, none⟩) 3 cB] 65)) (by rfl) (by first | (go_simp; done) | (go_simp; rfl)) ?_
        refine hK.out _ _ ((H.out.step (zq2 (Below.refl _ _) _)).sel [0] _ (by decide) rfl) (fun hHeld => ?_)
        clear hK K
        refine norm_ (a' := ?_) ?_ ?_
        rotate_left
        · show Act.put _ (some 47) _ = _
          simp only [Act.put, zs1, zs2, zs3, i64_w, i32_w]
          rfl
        refine one_ (i := 5) (N := some 48) (bm 8 63) rfl rfl (by kernel_rfl) (by decide) (fun K hK => ?_)
        refine H.out.app65_ 1 rfl O.out V.out (s := ⟨#[65]⟩) (by have := HLE.out; omega) (by rfl) (.tmp 44) (.tmp 47) rfl rfl rfl ?_
        intro A48 c48 w48 q48 HQ H1 O1
        clear H O; have H := H1; have O := O1; clear H1 O1
        refine hK.out _ _ (H.out.sel [0] _ (by decide) rfl) (fun hHeld => ?_)
        clear hK K
        refine norm_ (a' := ?_) ?_ ?_
        rotate_left
        · show Act.put _ (some 48) _ = _
          simp only [Act.put, zs1, zs2, zs3, i64_w, i32_w]
          rfl
        refine zP 6 (some 49) (bm 8 127) ?_
        refine last_ (i := 7) (N := none) (bm 8 255) rfl rfl (by kernel_rfl) (by decide) (fun K hK => ?_)
        refine H.out.last_cell 0 rfl 1 (.slice A48 q48.length c48) rfl (by rfl) size55q rfl rfl rfl rfl rfl ?_
        intro ws10 H1
        clear H; have H := H1; clear H1
        refine hK.out _ _ ?_
        clear hK K
        refine norm_ (a' := ?_) ?_ ?_
        rotate_left
        · rfl
        refine done_ (by kernel_rfl) ?_
        have HG := Az.mk (gv_snoc HQ.out HD.out gb_new)
        have HL5 := Az.mk (show q48.length ≤ 5 by have := HLE.out; rw [HQ.out, List.length_append, List.length_singleton]; omega)
        go_wp2_with (first | ((with_reducible refine zqg (N := 96) rfl ?_); refine H.out.ld_row 0 rfl rfl rfl rfl Try.underlying57 rfl hs57 ?_; (try simp only [Act.put, zs1, zs2, zs3])) | ((with_reducible refine gate_store (t := 57) (p := 4) rfl ?_); refine H.out.st_row 2 rfl rfl (x := .tmp 4) (y := .tmp 96) rfl rfl rfl (#[.int .i64 tx, .slice A48 q48.length c48]) rfl hs57 rfl (by simp [Value.oneCell']) ?_; intro ws20 H1; clear H; have H := H1; clear H1))
        exact bodyPost_ret (results_cell_row rfl _ _ g4 57 _ (0, 0) _ rfl (H.out.box 2 rfl) Try.underlying57 rfl (by kernel_rfl)) rfl (off_of H.out 3 4 1 rfl rfl rfl (by decide) (by decide) (HR.out.less (m' := m) (by omega)) (rfl) (R_q65 O.out) (FV.of HG.out HL5.out))
      · skip
        have y1a : ((r14 : Int) == 1) = false := beq_eq_false_iff_ne.mpr y1
        have y1b : decide ((r14 : Int) = 1) = false := decide_eq_false y1
        clear y1
        by_cases y2 : (r14 : Int) = 2
        · skip
          have y2a : ((r14 : Int) == 2) = true := beq_iff_eq.mpr y2
          have y2b : decide ((r14 : Int) = 2) = true := decide_eq_true y2
          clear y2
          have yp : 0 < dn ∨ ¬ 0 < dn := Decidable.em _
          rcases yp with yp | yp
          · have ypd : decide (0 < dn) = true := decide_eq_true yp
            have ypi : decide (0 < (dn : Int)) = true := decide_eq_true (by omega)
            obtain ⟨gv, gB, cB, x, eA, hgv, hx, _, hc0, hc1, hcB, hV, _⟩ := vol0 HD.out O.out yp
            subst eA
            have HV0 := Az.mk hc0
            have HV1 := Az.mk hc1
            have HGV := Az.mk hgv
            have HCB := Az.mk hcB
            have V := Az.mk hV
            have HX := Az.mk hx
            have YP := Az.mk yp
            have q0 := eq_true (show (0 : Int) < (dn : Int) by omega)
            have q3 := eq_true (show (0 : Int) ≤ 0 by omega)
            have q0n := eq_true yp
            clear hc0 hc1 hgv hcB hV hx yp
            go_upto_region 13 with (first | ((with_reducible refine zqg (N := 53) rfl ?_); refine H.out.ld_cell 0 rfl 1 (v := .slice (some ⟨gv, 0, none⟩) dn c5) rfl rfl rfl rfl Try.underlying55 rfl ?_; (try simp only [Act.put, zs1, zs2, zs3])))
            (try simp only [Act.put, zs1, zs2, zs3])
            refine start_ (n := 11) (S := fun w' => Hq w0.heap.size w w' [.box g5 (#[.int .i64 tx, .slice (some ⟨gv, 0, none⟩) dn c5]) 57, .set S wo]) (ds := [10]) (bm 11 0) (by kernel_rfl) rfl rfl (H.out.drew.sel [0, 1] _ (by decide) rfl) (fun hHeld => ?_)
            have H1 := Az.mk H.out.drew
            clear H; have H := H1; clear H1
            generalize World.drew _ = wd13 at hHeld H ⊢
            refine zP 0 (some 56) (bm 11 1) ?_
            refine zqt (i := 1) (N := some 57) (v := .slice (some ⟨gv, 0, none⟩) dn c5) (a' := ?_) (bm 11 3) rfl rfl (by kernel_rfl) (fun _ _ _ h => h) (Or.inl ⟨by rfl, fun w' s0 => s0.run_cell 0 rfl 1 rfl rfl rfl Try.underlying55 rfl⟩) hHeld ?_ ?_
            rotate_left
            · simp only [Act.put, zs1, zs2, zs3, i64_w, i32_w]
              rfl
            refine zP 2 (some 58) (bm 11 7) ?_
            refine zqt (i := 3) (N := some 59) (v := .slice (some ⟨gv, 0, none⟩) dn c5) (a' := ?_) (bm 11 15) rfl rfl (by kernel_rfl) (fun _ _ _ h => h) (Or.inl ⟨by rfl, fun w' s0 => s0.run_cell 0 rfl 1 rfl rfl rfl Try.underlying55 rfl⟩) hHeld ?_ ?_
            rotate_left
            · simp only [Act.put, zs1, zs2, zs3, i64_w, i32_w]
              rfl
            refine zP 4 (some 60) (bm 11 31) ?_
            refine zP 5 (some 61) (bm 11 63) ?_
            refine zqt (i := 6) (N := some 62) (v := .slice (some ⟨gB, 0, none⟩) 3 cB) (a' := ?_) (bm 11 127) rfl rfl (by kernel_rfl) (fun _ _ _ h => h) (Or.inl ⟨by rfl, fun w' s0 => run_c (v := .slice (some ⟨gB, 0, none⟩) 3 cB) (s0.cell 1 rfl HGV.out HV1.out) rfl rfl Try.underlying63 rfl⟩) hHeld ?_ ?_
            rotate_left
            · simp only [Act.put, zs1, zs2, zs3, i64_w, i32_w]
              rfl
            refine zqp (i := 7) (N := some 63) (v := .slice (some ⟨gB, 3, none⟩) 2 (cB - 1)) (a' := ?_) (bm 11 255) rfl rfl (by kernel_rfl) (fun _ _ _ h => h) (Or.inl ⟨by rfl, fun w' => run_cut w' rfl rfl HCB.out⟩) ?_ ?_
            rotate_left
            · simp only [Act.put, zs1, zs2, zs3, i64_w, i32_w]
              rfl
            refine zP 8 (some 64) (bm 11 511) ?_
            refine zP 9 (some 65) (bm 11 1023) ?_
            have HC := Az.mk (H.out.cell (v := .slice (some ⟨gB, 0, none⟩) 3 cB) 1 rfl HGV.out HV1.out)
            obtain ⟨D', hq, hfv, hln, hgr⟩ := cut0 (cB := cB) HD.out (by have := HLE.out; omega) (H.out.rr 1 rfl O.out) YP.out HC.out
            refine last_ (i := 10) (N := none) (bm 11 2047) rfl rfl (by kernel_rfl) (by decide) (fun K hK => ?_)
            refine last_st (by rfl) rfl (run_sc (v := .slice (some ⟨gB, 3, none⟩) 2 (cB - 1)) size63q HC.out (H.out.frz 1 rfl HGV.out (O.out |> fun O => ?hf)) rfl rfl rfl rfl) ?_
            (case hf => exact frz_own O HGV.out (j := 1))
            have H1 := Az.mk (H.out.wrote' 1 rfl HGV.out hgr (by simp [World.setCell]))
            have OQ := Az.mk hq
            have HF := Az.mk hfv
            have HDN1 := Az.mk (hln.trans HDN.out)
            clear hq hfv hln hgr HC
            clear H HDN; have H := H1; have HDN := HDN1; clear H1 HDN1
            refine hK.out _ _ ?_
            clear hK K
            refine norm_ (a' := ?_) ?_ ?_
            rotate_left
            · rfl
            refine done_ (by kernel_rfl) ?_
            go_wp2_with (first | ((with_reducible refine zqg (N := 96) rfl ?_); refine H.out.ld_row 0 rfl rfl rfl rfl Try.underlying57 rfl hs57 ?_; (try simp only [Act.put, zs1, zs2, zs3])) | ((with_reducible refine gate_store (t := 57) (p := 4) rfl ?_); refine H.out.st_row 2 rfl rfl (x := .tmp 4) (y := .tmp 96) rfl rfl rfl (#[.int .i64 tx, .slice (some ⟨gv, 0, none⟩) dn c5]) rfl hs57 rfl (by simp [Value.oneCell']) ?_; intro ws20 H1; clear H; have H := H1; clear H1))
            exact bodyPost_ret (results_cell_row rfl _ _ g4 57 _ (0, 0) _ rfl (H.out.box 2 rfl) Try.underlying57 rfl (by kernel_rfl)) rfl (off_of H.out 3 4 1 rfl rfl rfl (by decide) (by decide) (HR.out.less (m' := m) (by omega)) (HDN.out) (OQ.out) (HF.out))
          · have ypd : decide (0 < dn) = false := decide_eq_false yp
            have ypi : decide (0 < (dn : Int)) = false := decide_eq_false (by omega)
            clear yp
            go_wp2_with (first | ((with_reducible refine zqg (N := 53) rfl ?_); refine H.out.ld_cell 0 rfl 1 (v := .slice A5 dn c5) rfl rfl rfl rfl Try.underlying55 rfl ?_; (try simp only [Act.put, zs1, zs2, zs3])) | ((with_reducible refine zqg (N := 96) rfl ?_); refine H.out.ld_row 0 rfl rfl rfl rfl Try.underlying57 rfl hs57 ?_; (try simp only [Act.put, zs1, zs2, zs3])) | ((with_reducible refine gate_store (t := 57) (p := 4) rfl ?_); refine H.out.st_row 2 rfl rfl (x := .tmp 4) (y := .tmp 96) rfl rfl rfl (#[.int .i64 tx, .slice A5 dn c5]) rfl hs57 rfl (by simp [Value.oneCell']) ?_; intro ws20 H1; clear H; have H := H1; clear H1))
            exact bodyPost_ret (results_cell_row rfl _ _ g4 57 _ (0, 0) _ rfl (H.out.box 2 rfl) Try.underlying57 rfl (by kernel_rfl)) rfl (off_of H.out 3 4 1 rfl rfl rfl (by decide) (by decide) (HR.out.less (m' := m) (by omega)) (HDN.out) (R_q65 O.out) (FV.of HD.out (by have := HLE.out; omega)))
        · skip
          have y2a : ((r14 : Int) == 2) = false := beq_eq_false_iff_ne.mpr y2
          have y2b : decide ((r14 : Int) = 2) = false := decide_eq_false y2
          clear y2
          by_cases y3 : (r14 : Int) = 3
          · skip
            have y3a : ((r14 : Int) == 3) = true := beq_iff_eq.mpr y3
            have y3b : decide ((r14 : Int) = 3) = true := decide_eq_true y3
            clear y3
            have yp : 0 < dn ∨ ¬ 0 < dn := Decidable.em _
            rcases yp with yp | yp
            · have ypd : decide (0 < dn) = true := decide_eq_true yp
              have ypi : decide (0 < (dn : Int)) = true := decide_eq_true (by omega)
              obtain ⟨gv, gB, cB, x, eA, hgv, hx, _, hc0, hc1, hcB, hV, _⟩ := vol0 HD.out O.out yp
              subst eA
              have HV0 := Az.mk hc0
              have HV1 := Az.mk hc1
              have HGV := Az.mk hgv
              have HCB := Az.mk hcB
              have V := Az.mk hV
              have HX := Az.mk hx
              have YP := Az.mk yp
              have q0 := eq_true (show (0 : Int) < (dn : Int) by omega)
              have q3 := eq_true (show (0 : Int) ≤ 0 by omega)
              have q0n := eq_true yp
              clear hc0 hc1 hgv hcB hV hx yp
              go_upto_region 16 with (first | ((with_reducible refine zqg (N := 69) rfl ?_); refine H.out.ld_cell 0 rfl 1 (v := .slice (some ⟨gv, 0, none⟩) dn c5) rfl rfl rfl rfl Try.underlying55 rfl ?_; (try simp only [Act.put, zs1, zs2, zs3])))
              (try simp only [Act.put, zs1, zs2, zs3])
              refine start_ (n := 10) (S := fun w' => Hq w0.heap.size w w' [.box g5 (#[.int .i64 tx, .slice (some ⟨gv, 0, none⟩) dn c5]) 57, .set S wo]) (ds := [9]) (bm 10 0) (by kernel_rfl) rfl rfl (H.out.drew.sel [0, 1] _ (by decide) rfl) (fun hHeld => ?_)
              have H1 := Az.mk H.out.drew
              clear H; have H := H1; clear H1
              generalize World.drew _ = wd16 at hHeld H ⊢
              refine zP 0 (some 72) (bm 10 1) ?_
              refine zqt (i := 1) (N := some 73) (v := .slice (some ⟨gv, 0, none⟩) dn c5) (a' := ?_) (bm 10 3) rfl rfl (by kernel_rfl) (fun _ _ _ h => h) (Or.inl ⟨by rfl, fun w' s0 => s0.run_cell 0 rfl 1 rfl rfl rfl Try.underlying55 rfl⟩) hHeld ?_ ?_
              rotate_left
              · simp only [Act.put, zs1, zs2, zs3, i64_w, i32_w]
                rfl
              refine zP 2 (some 74) (bm 10 7) ?_
              refine zP 3 (some 75) (bm 10 15) ?_
              refine zqt (i := 4) (N := some 76) (v := .slice (some ⟨gB, 0, none⟩) 3 cB) (a' := ?_) (bm 10 31) rfl rfl (by kernel_rfl) (fun _ _ _ h => h) (Or.inl ⟨by rfl, fun w' s0 => run_c (v := .slice (some ⟨gB, 0, none⟩) 3 cB) (s0.cell 1 rfl HGV.out HV1.out) rfl rfl Try.underlying63 rfl⟩) hHeld ?_ ?_
              rotate_left
              · simp only [Act.put, zs1, zs2, zs3, i64_w, i32_w]
                rfl
              refine zP 5 (some 77) (bm 10 63) ?_
              refine zP 6 (some 78) (bm 10 127) ?_
              refine one_ (i := 7) (N := some 79) (bm 10 255) rfl rfl (by kernel_rfl) (by decide) (fun K hK => ?_)
              refine goes_ Try.func64 (by kernel_rfl) rfl #[.pointer (some ⟨g, 0, none⟩), .int .i64 n] (by rfl) rfl rfl (by (try simp only [List.map_toArray, List.map_cons, List.map_nil]); first | done | rfl) ?_
              refine (some_callq (m := m + 398) HNN.out HB.out H.out 3 1 (by decide) rfl rfl (HR.out.less (by omega))).mono ?_
              rintro e w79 ⟨y79, v79, c79, rfl, hy, hq, hrd, h1, hup⟩
              refine ⟨_, rfl, ?_⟩
              obtain ⟨A79, d79, rfl, _⟩ := Kd.Q_slice hq
              have HY := Az.mk hy
              have P9 := Az.mk hq
              have HR1 := Az.mk hrd
              have H1 := Az.mk h1
              have O1 := Az.mk (R_up O.out hup)
              have V1 := Az.mk (R_up V.out hup)
              have HH := (h1.back 1 rfl hup)
              clear hy hq hrd h1 hup
              clear H HR O V; have H := H1; have HR := HR1; have O := O1; have V := V1; clear H1 HR1 O1 V1
              refine hK.out _ _ (HH.sel [0, 1] _ (by decide) rfl) (fun hHeld => ?_)
              clear hK K HH
              refine norm_ (a' := ?_) ?_ ?_
              rotate_left
              · show Act.put _ (some 79) _ = _
                simp only [Act.put, zs1, zs2, zs3, i64_w, i32_w]
                rfl
              have HXL := Az.mk (show GB x.f1 from HD.out x HX.out)
              refine zP 8 (some 80) (bm 10 511) ?_
              refine last_ (i := 9) (N := none) (bm 10 1023) rfl rfl (by kernel_rfl) (by decide) (fun K hK => ?_)
              refine H.out.st29_ 1 rfl O.out HD.out V.out HXL.out (i := 0) (by decide) (q29_mkM (x := y79) P9.out) HY.out (by rfl) rfl (x := .tmp 80) (z := .tmp 79) rfl rfl rfl ?_
              intro D9 l9 w9 H1 O1 V1 e1 HD1 HL1
              have HDN1 := Az.mk (e1.out.trans HDN.out)
              have HLE1 := Az.mk (show D9.length ≤ 4 by rw [e1.out]; exact HLE.out)
              clear e1 P9 HX HXL V1
              clear H O HD HDN HLE; have H := H1; have O := O1; have HD := HD1; have HDN := HDN1; have HLE := HLE1; clear H1 O1 HD1 HDN1 HLE1
              refine hK.out _ _ ?_
              clear hK K
              refine norm_ (a' := ?_) ?_ ?_
              rotate_left
              · rfl
              refine done_ (by kernel_rfl) ?_
              go_wp2_with (first | ((with_reducible refine zqg (N := 96) rfl ?_); refine H.out.ld_row 0 rfl rfl rfl rfl Try.underlying57 rfl hs57 ?_; (try simp only [Act.put, zs1, zs2, zs3])) | ((with_reducible refine gate_store (t := 57) (p := 4) rfl ?_); refine H.out.st_row 2 rfl rfl (x := .tmp 4) (y := .tmp 96) rfl rfl rfl (#[.int .i64 tx, .slice (some ⟨gv, 0, none⟩) dn c5]) rfl hs57 rfl (by simp [Value.oneCell']) ?_; intro ws20 H1; clear H; have H := H1; clear H1))
              exact bodyPost_ret (results_cell_row rfl _ _ g4 57 _ (0, 0) _ rfl (H.out.box 2 rfl) Try.underlying57 rfl (by kernel_rfl)) rfl (off_of H.out 3 4 1 rfl rfl rfl (by decide) (by decide) (HR.out.less (m' := m) (by omega)) (HDN.out) (R_q65 O.out) (FV.of HD.out (by have := HLE.out; omega)))
            · have ypd : decide (0 < dn) = false := decide_eq_false yp
              have ypi : decide (0 < (dn : Int)) = false := decide_eq_false (by omega)
              clear yp
              go_wp2_with (first | ((with_reducible refine zqg (N := 69) rfl ?_); refine H.out.ld_cell 0 rfl 1 (v := .slice A5 dn c5) rfl rfl rfl rfl Try.underlying55 rfl ?_; (try simp only [Act.put, zs1, zs2, zs3])) | ((with_reducible refine zqg (N := 96) rfl ?_); refine H.out.ld_row 0 rfl rfl rfl rfl Try.underlying57 rfl hs57 ?_; (try simp only [Act.put, zs1, zs2, zs3])) | ((with_reducible refine gate_store (t := 57) (p := 4) rfl ?_); refine H.out.st_row 2 rfl rfl (x := .tmp 4) (y := .tmp 96) rfl rfl rfl (#[.int .i64 tx, .slice A5 dn c5]) rfl hs57 rfl (by simp [Value.oneCell']) ?_; intro ws20 H1; clear H; have H := H1; clear H1))
              exact bodyPost_ret (results_cell_row rfl _ _ g4 57 _ (0, 0) _ rfl (H.out.box 2 rfl) Try.underlying57 rfl (by kernel_rfl)) rfl (off_of H.out 3 4 1 rfl rfl rfl (by decide) (by decide) (HR.out.less (m' := m) (by omega)) (HDN.out) (R_q65 O.out) (FV.of HD.out (by have := HLE.out; omega)))
          · skip
            have y3a : ((r14 : Int) == 3) = false := beq_eq_false_iff_ne.mpr y3
            have y3b : decide ((r14 : Int) = 3) = false := decide_eq_false y3
            clear y3
            by_cases y4 : (r14 : Int) = 4
            · skip
              have y4a : ((r14 : Int) == 4) = true := beq_iff_eq.mpr y4
              have y4b : decide ((r14 : Int) = 4) = true := decide_eq_true y4
              clear y4
              have yp : 0 < dn ∨ ¬ 0 < dn := Decidable.em _
              rcases yp with yp | yp
              · have ypd : decide (0 < dn) = true := decide_eq_true yp
                have ypi : decide (0 < (dn : Int)) = true := decide_eq_true (by omega)
                obtain ⟨gv, gB, cB, x, eA, hgv, hx, _, hc0, hc1, hcB, hV, _⟩ := vol0 HD.out O.out yp
                subst eA
                have HV0 := Az.mk hc0
                have HV1 := Az.mk hc1
                have HGV := Az.mk hgv
                have HCB := Az.mk hcB
                have V := Az.mk hV
                have HX := Az.mk hx
                have YP := Az.mk yp
                have q0 := eq_true (show (0 : Int) < (dn : Int) by omega)
                have q3 := eq_true (show (0 : Int) ≤ 0 by omega)
                have q0n := eq_true yp
                clear hc0 hc1 hgv hcB hV hx yp
                go_upto_region 19 with (first | ((with_reducible refine zqg (N := 84) rfl ?_); refine H.out.ld_cell 0 rfl 1 (v := .slice (some ⟨gv, 0, none⟩) dn c5) rfl rfl rfl rfl Try.underlying55 rfl ?_; (try simp only [Act.put, zs1, zs2, zs3])))
                (try simp only [Act.put, zs1, zs2, zs3])
                refine start_ (n := 10) (S := fun w' => Hq w0.heap.size w w' [.box g5 (#[.int .i64 tx, .slice (some ⟨gv, 0, none⟩) dn c5]) 57, .set S wo]) (ds := [7, 9]) (bm 10 0) (by kernel_rfl) rfl rfl (H.out.drew.sel [0, 1] _ (by decide) rfl) (fun hHeld => ?_)
                have H1 := Az.mk H.out.drew
                clear H; have H := H1; clear H1
                generalize World.drew _ = wd19 at hHeld H ⊢
                refine zP 0 (some 87) (bm 10 1) ?_
                refine zqt (i := 1) (N := some 88) (v := .slice (some ⟨gv, 0, none⟩) dn c5) (a' := ?_) (bm 10 3) rfl rfl (by kernel_rfl) (fun _ _ _ h => h) (Or.inl ⟨by rfl, fun w' s0 => s0.run_cell 0 rfl 1 rfl rfl rfl Try.underlying55 rfl⟩) hHeld ?_ ?_
                rotate_left
                · simp only [Act.put, zs1, zs2, zs3, i64_w, i32_w]
                  rfl
                refine zP 2 (some 89) (bm 10 7) ?_
                refine zqt (i := 3) (N := some 90) (v := .slice (some ⟨gv, 0, none⟩) dn c5) (a' := ?_) (bm 10 15) rfl rfl (by kernel_rfl) (fun _ _ _ h => h) (Or.inl ⟨by rfl, fun w' s0 => s0.run_cell 0 rfl 1 rfl rfl rfl Try.underlying55 rfl⟩) hHeld ?_ ?_
                rotate_left
                · simp only [Act.put, zs1, zs2, zs3, i64_w, i32_w]
                  rfl
                refine zP 4 (some 91) (bm 10 31) ?_
                refine zqt (i := 5) (N := some 92) (v := .agg #[.string x.f0, .slice (some ⟨gB, 0, none⟩) 3 cB]) (a' := ?_) (bm 10 63) rfl rfl (by kernel_rfl) (fun _ _ _ h => h) (Or.inl ⟨by rfl, fun w' s0 => run_ld65 (s0.cell 1 rfl HGV.out HV0.out) (s0.cell 1 rfl HGV.out HV1.out) rfl rfl⟩) hHeld ?_ ?_
                rotate_left
                · simp only [Act.put, zs1, zs2, zs3, i64_w, i32_w]
                  rfl
                refine one_ (i := 6) (N := some 93) (bm 10 127) rfl rfl (by kernel_rfl) (by decide) (fun K hK => ?_)
                refine event_step (v := .slice (some ⟨wd19.heap.size, 0, none⟩) 1 1) (w1 := wd19.alloc (.cells #[.string x.f0, .slice (some ⟨gB, 0, none⟩) 3 cB] 65)) (by rfl) (by first | (go_simp; done) | (go_simp; rfl)) ?_
                refine hK.out _ _ ((H.out.step (zq2 (Below.refl _ _) _)).sel [0, 1] _ (by decide) rfl) (fun hHeld => ?_)
                clear hK K
                refine norm_ (a' := ?_) ?_ ?_
                rotate_left
                · show Act.put _ (some 93) _ = _
                  simp only [Act.put, zs1, zs2, zs3, i64_w, i32_w]
                  rfl
                have HXL := Az.mk (show GB x.f1 from HD.out x HX.out)
                refine last_ (i := 7) (N := some 94) (bm 10 255) rfl rfl (by kernel_rfl) (by decide) (fun K hK => ?_)
                refine H.out.app65_ 1 rfl O.out V.out (s := x.f0) (by have := HLE.out; omega) (by rfl) (.tmp 88) (.tmp 93) rfl rfl rfl ?_
                intro A94 c94 w94 q94 HQ H1 O1
                clear H O; have H := H1; have O := O1; clear H1 O1
                refine hK.out _ _ ?_
                clear hK K hHeld
                refine norm_ (a' := ?_) ?_ ?_
                rotate_left
                · show Act.put _ (some 94) _ = _
                  simp only [Act.put, zs1, zs2, zs3, i64_w, i32_w]
                  rfl
                refine zP 8 (some 95) (bm 10 511) ?_
                refine last_ (i := 9) (N := none) (bm 10 1023) rfl rfl (by kernel_rfl) (by decide) (fun K hK => ?_)
                refine H.out.last_cell 0 rfl 1 (.slice A94 q94.length c94) rfl (by rfl) size55q rfl rfl rfl rfl rfl ?_
                intro ws19 H1
                clear H; have H := H1; clear H1
                refine hK.out _ _ ?_
                clear hK K
                refine norm_ (a' := ?_) ?_ ?_
                rotate_left
                · rfl
                refine done_ (by kernel_rfl) ?_
                have HG := Az.mk (gv_snoc HQ.out HD.out HXL.out)
                have HL5 := Az.mk (show q94.length ≤ 5 by have := HLE.out; rw [HQ.out, List.length_append, List.length_singleton]; omega)
                go_wp2_with (first | ((with_reducible refine zqg (N := 96) rfl ?_); refine H.out.ld_row 0 rfl rfl rfl rfl Try.underlying57 rfl hs57 ?_; (try simp only [Act.put, zs1, zs2, zs3])) | ((with_reducible refine gate_store (t := 57) (p := 4) rfl ?_); refine H.out.st_row 2 rfl rfl (x := .tmp 4) (y := .tmp 96) rfl rfl rfl (#[.int .i64 tx, .slice A94 q94.length c94]) rfl hs57 rfl (by simp [Value.oneCell']) ?_; intro ws20 H1; clear H; have H := H1; clear H1))
                exact bodyPost_ret (results_cell_row rfl _ _ g4 57 _ (0, 0) _ rfl (H.out.box 2 rfl) Try.underlying57 rfl (by kernel_rfl)) rfl (off_of H.out 3 4 1 rfl rfl rfl (by decide) (by decide) (HR.out.less (m' := m) (by omega)) (rfl) (R_q65 O.out) (FV.of HG.out HL5.out))
              · have ypd : decide (0 < dn) = false := decide_eq_false yp
                have ypi : decide (0 < (dn : Int)) = false := decide_eq_false (by omega)
                clear yp
                go_wp2_with (first | ((with_reducible refine zqg (N := 84) rfl ?_); refine H.out.ld_cell 0 rfl 1 (v := .slice A5 dn c5) rfl rfl rfl rfl Try.underlying55 rfl ?_; (try simp only [Act.put, zs1, zs2, zs3])) | ((with_reducible refine zqg (N := 96) rfl ?_); refine H.out.ld_row 0 rfl rfl rfl rfl Try.underlying57 rfl hs57 ?_; (try simp only [Act.put, zs1, zs2, zs3])) | ((with_reducible refine gate_store (t := 57) (p := 4) rfl ?_); refine H.out.st_row 2 rfl rfl (x := .tmp 4) (y := .tmp 96) rfl rfl rfl (#[.int .i64 tx, .slice A5 dn c5]) rfl hs57 rfl (by simp [Value.oneCell']) ?_; intro ws20 H1; clear H; have H := H1; clear H1))
                exact bodyPost_ret (results_cell_row rfl _ _ g4 57 _ (0, 0) _ rfl (H.out.box 2 rfl) Try.underlying57 rfl (by kernel_rfl)) rfl (off_of H.out 3 4 1 rfl rfl rfl (by decide) (by decide) (HR.out.less (m' := m) (by omega)) (HDN.out) (R_q65 O.out) (FV.of HD.out (by have := HLE.out; omega)))
            · skip
              have y4a : ((r14 : Int) == 4) = false := beq_eq_false_iff_ne.mpr y4
              have y4b : decide ((r14 : Int) = 4) = false := decide_eq_false y4
              clear y4
              go_wp2
              simp only [y0a]
              go_loopg [] (6 - D.length) (fun kq w' => ∃ (A5 : Option Addr) (c5 dn : Nat) (D : List S65) (S : Nat → Prop) (wo : World), Az (D.length + kq = 6) ∧ Az (D.length ≤ 5) ∧ Az (D.length = dn) ∧ Az (GV D) ∧ Az (r65.R 65 wo w0.heap.size S (.slice A5 dn c5) D) ∧ Az (Hq w0.heap.size w w' [.box g5 (#[.int .i64 tx, .slice A5 dn c5]) 57, .set S wo, .box g4 (#[.int .i64 0, .slice none 0 0]) 57, .box g c14 113, .set (fun k => k ≠ g ∧ w0.heap.size ≤ k ∧ k < w.heap.size) w]))
              case atStart => exact ⟨A5, c5, dn, D, _, _, ⟨by have := HLE.out; omega⟩, ⟨by have := HLE.out; omega⟩, HDN, HD, O, H⟩
              case round =>
                clear H O HD HDN HLE
                obtain ⟨A5, c5, dn, D, S, wo, HKQ, HLE, HDN, HD, O, H⟩ := hrel
                have tk0 : True := trivial
                obtain ⟨gk5, hg5⟩ : ∃ x, x = gk := ⟨_, rfl⟩
                subst hg5
                by_cases hl : dn ≤ 4
                · have ypd : decide (dn ≤ 4) = true := decide_eq_true hl
                  have ypi : decide ((dn : Int) ≤ 4) = true := decide_eq_true (by omega)
                  have HDL := Az.mk hl
                  clear hl
                  go_upto_region 6 with (first | ((with_reducible refine zqg (N := 16) rfl ?_); refine H.out.ld_cell 0 rfl 1 (v := .slice A5 dn c5) rfl rfl rfl rfl Try.underlying55 rfl ?_; (try simp only [Act.put, zs1, zs2, zs3])))
                  (try simp only [Act.put, zs1, zs2, zs3])
                  refine start_ (n := 15) (S := fun w' => Hq w0.heap.size w w' [.box g5 (#[.int .i64 tx, .slice A5 dn c5]) 57]) (ds := [14]) (bm 15 0) (by kernel_rfl) rfl rfl (H.out.drew.sel [0] _ (by decide) rfl) (fun hHeld => ?_)
                  have H1 := Az.mk H.out.drew
                  clear H; have H := H1; clear H1
                  generalize World.drew wr = wd6 at hHeld H ⊢
                  refine zP 0 (some 19) (bm 15 1) ?_
                  refine zqt (i := 1) (N := some 20) (v := .slice A5 dn c5) (a' := ?_) (bm 15 3) rfl rfl (by kernel_rfl) (fun _ _ _ h => h) (Or.inl ⟨by rfl, fun w' s0 => s0.run_cell 0 rfl 1 rfl rfl rfl Try.underlying55 rfl⟩) hHeld ?_ ?_
                  rotate_left
                  · simp only [Act.put, zs1, zs2, zs3, i64_w, i32_w]
                    rfl
                  refine zP 2 (some 21) (bm 15 7) ?_
                  refine zqt (i := 3) (N := some 22) (v := .slice A5 dn c5) (a' := ?_) (bm 15 15) rfl rfl (by kernel_rfl) (fun _ _ _ h => h) (Or.inl ⟨by rfl, fun w' s0 => s0.run_cell 0 rfl 1 rfl rfl rfl Try.underlying55 rfl⟩) hHeld ?_ ?_
                  rotate_left
                  · simp only [Act.put, zs1, zs2, zs3, i64_w, i32_w]
                    rfl
                  refine zP 4 (some 23) (bm 15 31) ?_
                  refine zP 5 (some 24) (bm 15 63) ?_
                  refine zP 6 (some 25) (bm 15 127) ?_
                  refine join_ (σ := Nat × ByteArray × Nat × Nat) 5 (bm 15 1023) (fun s => [(26, .slice (some ⟨s.1, 0, none⟩) 1 1), (27, .string s.2.1), (28, .slice (some ⟨s.2.2.1, 0, none⟩) 3 s.2.2.2)]) (fun s w' => ∃ (S : Nat → Prop) (wo : World), Az (r65.R 65 wo w0.heap.size S (.slice A5 dn c5) D) ∧ Az (q29.R 29 wo w0.heap.size S (.slice (some ⟨s.2.2.1, 0, none⟩) 3 s.2.2.2) (List.replicate 3 z29)) ∧ Az (Hq w0.heap.size w w' [.box g5 (#[.int .i64 tx, .slice A5 dn c5]) 57, .set S wo, .box g4 (#[.int .i64 0, .slice none 0 0]) 57, .box g c14 113, .set (fun k => k ≠ g ∧ w0.heap.size ≤ k ∧ k < w.heap.size) w])) ?_ ?_
                  · rintro ⟨gn, s27, gB, cB⟩ wj ⟨S, wo, O, V, H⟩
                    refine norm_ (a' := ?_) ?_ ?_
                    rotate_left
                    · simp only [putAll, Act.put, zs1, zs2, zs3]
                      rfl
                    refine zP 10 (some 29) (bm 15 2047) ?_
                    refine one_ (i := 11) (N := some 30) (bm 15 4095) rfl rfl (by kernel_rfl) (by decide) (fun K hK => ?_)
                    refine event_step (v := .slice (some ⟨wj.heap.size, 0, none⟩) 1 1) (w1 := wj.alloc (.cells #[.string s27, .slice (some ⟨gB, 0, none⟩) 3 cB] 65)) (by rfl) (by first | (go_simp; done) | (go_simp; rfl)) ?_
                    refine hK.out _ _ ((H.out.step (zq2 (Below.refl _ _) _)).sel [0] _ (by decide) rfl) (fun hHeld => ?_)
                    clear hK K
                    refine norm_ (a' := ?_) ?_ ?_
                    rotate_left
                    · show Act.put _ (some 30) _ = _
                      simp only [Act.put, zs1, zs2, zs3, i64_w, i32_w]
                      rfl
                    refine one_ (i := 12) (N := some 31) (bm 15 8191) rfl rfl (by kernel_rfl) (by decide) (fun K hK => ?_)
                    refine H.out.app65_ 1 rfl O.out V.out (s := s27) (by have := HLE.out; omega) (by rfl) (.tmp 20) (.tmp 30) rfl rfl rfl ?_
                    intro A31 c31 w31 q31 HQ H1 O1
                    clear H O; have H := H1; have O := O1; clear H1 O1
                    refine hK.out _ _ (H.out.sel [0] _ (by decide) rfl) (fun hHeld => ?_)
                    clear hK K
                    refine norm_ (a' := ?_) ?_ ?_
                    rotate_left
                    · show Act.put _ (some 31) _ = _
                      simp only [Act.put, zs1, zs2, zs3, i64_w, i32_w]
                      rfl
                    refine zP 13 (some 32) (bm 15 16383) ?_
                    refine last_ (i := 14) (N := none) (bm 15 32767) rfl rfl (by kernel_rfl) (by decide) (fun K hK => ?_)
                    refine H.out.last_cell 0 rfl 1 (.slice A31 q31.length c31) rfl (by rfl) size55q rfl rfl rfl rfl rfl ?_
                    intro ws6 H1
                    clear H; have H := H1; clear H1
                    refine hK.out _ _ ?_
                    clear hK K
                    refine norm_ (a' := ?_) ?_ ?_
                    rotate_left
                    · rfl
                    refine done_ (by kernel_rfl) ?_
                    have HL5 := Az.mk (show q31.length = D.length + 1 by rw [HQ.out, List.length_append, List.length_singleton])
                    go_wp2
                    go_roundg (6 - q31.length)
                    case measure => have := HKQ.out; have := HL5.out; have := HLE.out; omega
                    case rel => exact ⟨A31, c31, q31.length, q31, _, _, ⟨by have := HL5.out; have := HDL.out; have := HDN.out; omega⟩, ⟨by have := HL5.out; have := HDL.out; have := HDN.out; omega⟩, ⟨rfl⟩, ⟨gv_snoc HQ.out HD.out gb_new⟩, O, ⟨H.out.sel [0, 1, 2, 3, 4] _ (by decide) rfl⟩⟩
                  · intro hcont
                    refine two_ (i := 7) (j := 9) (Ni := some 26) (Nj := some 28) (bm 15 255) (bm 15 639) rfl rfl rfl rfl (by kernel_rfl) (by decide) (by decide) ?_ ?_
                    · intro K hK
                      refine H.out.lit_ (by rfl) #[.int .u8 (IntKind.u8.wrap (wrap64 (107 + (dn : Int))))] 5 1 ?hr ?_
                      (case hr => first | (go_simp; done) | (go_simp; rfl))
                      intro gn w26 H1
                      clear H; have H := H1; clear H1
                      refine hK.out _ _ ?_ (fun hHeld => ?_)
                      · exact H.out.sel [1] _ (by decide) rfl
                      clear hK K hHeld
                      refine two_ (i := 8) (j := 9) (Ni := some 27) (Nj := some 28) (bm 15 511) (bm 15 767) rfl rfl rfl rfl (by kernel_rfl) (by decide) (by decide) ?_ ?_
                      · intro K hK
                        refine event_step (v := .string (strOfNums [IntKind.u8.wrap (wrap64 (107 + (dn : Int)))])) (by rfl) (run_back (xs := [IntKind.u8.wrap (wrap64 (107 + (dn : Int)))]) Try.underlying9 Try.underlying33 Try.underlying5 rfl rfl rfl (byte_at (H.out.box 0 rfl))) ?_
                        refine hK.out _ _ ?_ (fun hHeld => ?_)
                        · exact H.out.sel [1] _ (by decide) rfl
                        clear hK K hHeld
                        refine one_ (i := 9) (N := some 28) (bm 15 1023) rfl rfl (by kernel_rfl) (by decide) (fun K hK => ?_)
                        refine H.out.make29_ 2 rfl (by rfl) rfl rfl ?_
                        intro gB cB w28 H1 hup V
                        have O1 := Az.mk (R_up O.out hup)
                        clear hup
                        clear H O; have H := H1; have O := O1; clear H1 O1
                        refine hK.out _ _ ?_ (fun hHeld => ?_)
                        · exact H.out.sel [1] _ (by decide) rfl
                        clear hK K hHeld
                        refine norm_ ?_ (hcont (gn, strOfNums [IntKind.u8.wrap (wrap64 (107 + (dn : Int)))], gB, cB) _ ⟨_, _, O, V, ⟨H.out.sel [1, 2, 3, 4, 5] _ (by decide) rfl⟩⟩)
                        simp only [putAll, Act.put, zs1, zs2, zs3]
                        rfl
                      · intro K hK
                        refine H.out.make29_ 2 rfl (by rfl) rfl rfl ?_
                        intro gB cB w28 H1 hup V
                        have O1 := Az.mk (R_up O.out hup)
                        clear hup
                        clear H O; have H := H1; have O := O1; clear H1 O1
                        refine hK.out _ _ ?_ (fun hHeld => ?_)
                        · exact H.out.sel [1] _ (by decide) rfl
                        clear hK K hHeld
                        refine one_ (i := 8) (N := some 27) (bm 15 1023) rfl rfl (by kernel_rfl) (by decide) (fun K hK => ?_)
                        refine event_step (v := .string (strOfNums [IntKind.u8.wrap (wrap64 (107 + (dn : Int)))])) (by rfl) (run_back (xs := [IntKind.u8.wrap (wrap64 (107 + (dn : Int)))]) Try.underlying9 Try.underlying33 Try.underlying5 rfl rfl rfl (byte_at (H.out.box 0 rfl))) ?_
                        refine hK.out _ _ ?_ (fun hHeld => ?_)
                        · exact H.out.sel [1] _ (by decide) rfl
                        clear hK K hHeld
                        refine norm_ ?_ (hcont (gn, strOfNums [IntKind.u8.wrap (wrap64 (107 + (dn : Int)))], gB, cB) _ ⟨_, _, O, V, ⟨H.out.sel [1, 2, 3, 4, 5] _ (by decide) rfl⟩⟩)
                        simp only [putAll, Act.put, zs1, zs2, zs3]
                        rfl
                    · intro K hK
                      refine H.out.make29_ 1 rfl (by rfl) rfl rfl ?_
                      intro gB cB w28 H1 hup V
                      have O1 := Az.mk (R_up O.out hup)
                      clear hup
                      clear H O; have H := H1; have O := O1; clear H1 O1
                      refine hK.out _ _ ?_ (fun hHeld => ?_)
                      · exact H.out.sel [0] _ (by decide) rfl
                      clear hK K hHeld
                      refine one_ (i := 7) (N := some 26) (bm 15 767) rfl rfl (by kernel_rfl) (by decide) (fun K hK => ?_)
                      refine H.out.lit_ (by rfl) #[.int .u8 (IntKind.u8.wrap (wrap64 (107 + (dn : Int))))] 5 1 ?hr ?_
                      (case hr => first | (go_simp; done) | (go_simp; rfl))
                      intro gn w26 H1
                      clear H; have H := H1; clear H1
                      refine hK.out _ _ ?_ (fun hHeld => ?_)
                      · exact H.out.sel [1] _ (by decide) rfl
                      clear hK K hHeld
                      refine one_ (i := 8) (N := some 27) (bm 15 1023) rfl rfl (by kernel_rfl) (by decide) (fun K hK => ?_)
                      refine event_step (v := .string (strOfNums [IntKind.u8.wrap (wrap64 (107 + (dn : Int)))])) (by rfl) (run_back (xs := [IntKind.u8.wrap (wrap64 (107 + (dn : Int)))]) Try.underlying9 Try.underlying33 Try.underlying5 rfl rfl rfl (byte_at (H.out.box 0 rfl))) ?_
                      refine hK.out _ _ ?_ (fun hHeld => ?_)
                      · exact H.out.sel [1] _ (by decide) rfl
                      clear hK K hHeld
                      refine norm_ ?_ (hcont (gn, strOfNums [IntKind.u8.wrap (wrap64 (107 + (dn : Int)))], gB, cB) _ ⟨_, _, O, V, ⟨H.out.sel [1, 2, 3, 4, 5] _ (by decide) rfl⟩⟩)
                      simp only [putAll, Act.put, zs1, zs2, zs3]
                      rfl
                · have ypd : decide (dn ≤ 4) = false := decide_eq_false hl
                  have ypi : decide ((dn : Int) ≤ 4) = false := decide_eq_false (by omega)
                  clear hl
                  go_wp2_with (first | ((with_reducible refine zqg (N := 16) rfl ?_); refine H.out.ld_cell 0 rfl 1 (v := .slice A5 dn c5) rfl rfl rfl rfl Try.underlying55 rfl ?_; (try simp only [Act.put, zs1, zs2, zs3])) | ((with_reducible refine zqg (N := 96) rfl ?_); refine H.out.ld_row 0 rfl rfl rfl rfl Try.underlying57 rfl hs57 ?_; (try simp only [Act.put, zs1, zs2, zs3])) | ((with_reducible refine gate_store (t := 57) (p := 4) rfl ?_); refine H.out.st_row 2 rfl rfl (x := .tmp 4) (y := .tmp 96) rfl rfl rfl (#[.int .i64 tx, .slice A5 dn c5]) rfl hs57 rfl (by simp [Value.oneCell']) ?_; intro ws20 H1; clear H; have H := H1; clear H1))
                  exact bodyPost_ret (results_cell_row rfl _ _ g4 57 _ (0, 0) _ rfl (H.out.box 2 rfl) Try.underlying57 rfl (by kernel_rfl)) rfl (off_of H.out 3 4 1 rfl rfl rfl (by decide) (by decide) (HR.out.less (m' := m) (by omega)) (HDN.out) (R_q65 O.out) (FV.of HD.out HLE.out))
end Go.Proofs.Ytkoimmeghdbodaa.Hq
namespace Go.Proofs.Ytkoimmeghdbodaa.Hq
open Go.RowKit Go.Proofs.Ytkoimmeghdbodaa.Print Go.Proofs.YtkoimmeghdbodaaW.PrintWords Go.Proofs.YtkoimmeghdbodaaW.PrintLast Go.Proofs.YtkoimmeghdbodaaW.PrintMore Go.Proofs.Ytkoimmeghdbodaa.Pure Go.Proofs.Ytkoimmeghdbodaa.Hd
def Boxes : List Part → Prop
  | [] => True
  | .box _ _ t :: L => t ≠ 113 ∧ Boxes L
  | .set _ _ :: _ => False
theorem Boxes.all : ∀ {L : List Part}, Boxes L → ∀ p ∈ L, ∃ g' cs' t', p = .box g' cs' t' ∧ t' ≠ 113
  | .box g cs t :: L, h, p, hp => by
    rcases List.mem_cons.1 hp with rfl | hp
    · exact ⟨g, cs, t, rfl, h.1⟩
    · exact Boxes.all h.2 p hp
theorem Hq.opened {base : Nat} {ws w w' : World} {L : List Part} (H : Hq base ws w L) (hb : Below w.heap.size w w') {g : Nat} {cs : Array Value} (hg : base ≤ g) (hbox : w'.heap[g]? = some (.cells cs 113 (0, 0))) (ht : ∀ p ∈ L, ∃ g' cs' t', p = .box g' cs' t' ∧ t' ≠ 113) : Hq base ws w' (.box g cs 113 :: L) := by
  have H' := H.step hb
  refine ⟨H'.bel, H'.ge, fun q hq => ?_, List.pairwise_cons.2 ⟨fun q hq k h1 h2 => ?_, H'.dis⟩⟩
  · rcases List.mem_cons.1 hq with rfl | hq
    · exact ⟨fun k hk => by
        obtain rfl : k = g := hk
        exact ⟨hg, blk_lt hbox⟩, hbox⟩
    · exact H'.all q hq
  · obtain ⟨g', cs', t', rfl, hne⟩ := ht q hq
    have h3 := (H'.all _ hq).2
    obtain rfl : k = g := h1
    obtain rfl : k = g' := h2
    have h4 : w'.heap[k]? = some (.cells cs' t' (0, 0)) := h3
    rw [hbox] at h4
    injection h4 with h4
    injection h4 with _ h4
    exact hne h4.symm
section
variable {w0 w : World} {L : List Part}
theorem open_callq (H : Hq w0.heap.size w0 w L) {A : Option Addr} {c : Nat} {l : List Int} (hC : Kd.C (Kd.int .u8) w0 A l.length l) (hc : l.length ≤ c) (hw : ∀ x ∈ l, (Lit.int .u8 x).wf = true) (ht : Boxes L) :
    Calls Try.prog 62 #[.slice A l.length c] w fun e w' => ∃ (g : Nat) (cs : Array Value) (b : List Int), e = .returned (.pointer (some ⟨g, 0, none⟩)) ∧ Rdr w0 b 400000 cs ∧ Hq w0.heap.size w0 w' (.box g cs 113 :: L) := by
  obtain ⟨b, hb, hcode⟩ := open_ev l hw
  refine (spec_l6Open.calls A c l b 0 w0 w H.bel hC hc hb).mono fun e w' hh => ?_
  obtain ⟨g, he, ⟨A', c', h1, h2, h3⟩, _, hb2⟩ := hh
  exact ⟨g, _, b, he, ⟨⟨A', c', 0, rfl, h3, by omega, by omega⟩, hcode⟩, H.opened hb2 h2 h1 ht.all⟩
theorem off_callq {ws : World} {b : List Int} {g m : Nat} {n : Int} {cs : Array Value} (hn : 3 ≤ n ∧ n ≤ 4) (hB : Below w0.heap.size w0 ws) (H : Hq w0.heap.size ws w L) (i : Nat) (e : L[i]? = some (.box g cs 113)) (hr : Rdr w0 b (m + 3000) cs) :
    Calls Try.prog 82 #[.pointer (some ⟨g, 0, none⟩), .int .i64 n] w fun e w' => ∃ (tx : Int) (M : AC) (D : List S65) (cs' : Array Value), e = .returned (.agg #[.int .i64 tx, .slice M.1 D.length M.2]) ∧ FV D ∧ q65.R 65 w' w0.heap.size (fun k => w.heap.size ≤ k ∧ k < w'.heap.size) (.slice M.1 D.length M.2) D ∧ Rdr w0 b m cs' ∧ Hq w0.heap.size ws w' (.set (fun k => w.heap.size ≤ k ∧ k < w'.heap.size) w' :: L.set i (.box g cs' 113)) := by
  refine (l71Off_calls (m := m) hn (hB.trans H.bel) (H.box i e) (H.box_ge i e) hr).mono fun e' w' h => ?_
  obtain ⟨tx, M, D, cs', he, h1, h3, h4, h5, h6, h7⟩ := h
  exact ⟨tx, M, D, cs', he, h1, h3, h4, H.drawn i e h5 h6 h7⟩
theorem root_callr {ws : World} {b : List Int} {g m : Nat} {n : Int} {cs : Array Value} (hn : 3 ≤ n ∧ n ≤ 4) (hB : Below w0.heap.size w0 ws) (H : Hq w0.heap.size ws w L) (i : Nat) (e : L[i]? = some (.box g cs 113)) (hr : Rdr w0 b (m + 3000) cs) :
    Calls Try.prog 89 #[.pointer (some ⟨g, 0, none⟩), .int .i64 n] w fun e w' => ∃ (tx : Int) (M : AC) (D : List S65) (cs' : Array Value), e = .returned (.agg #[.int .i64 tx, .slice M.1 D.length M.2]) ∧ FV D ∧ q65.R 65 w' w0.heap.size (fun k => w.heap.size ≤ k ∧ k < w'.heap.size) (.slice M.1 D.length M.2) D ∧ Rdr w0 b m cs' ∧ Hq w0.heap.size ws w' (.set (fun k => w.heap.size ≤ k ∧ k < w'.heap.size) w' :: L.set i (.box g cs' 113)) := by
  refine (root_callq (m := m) hn hB H i e (hr.less (by omega))).mono fun e' w' h => ?_
  obtain ⟨tx, A, c, D, cs', he, h1, h2, h3, h4, h5⟩ := h
  exact ⟨tx, (A, c), D, cs', he, FV.of h1 (by omega), R_q65 h3, h4, h5⟩
theorem rdr_of {base : Nat} {ws w : World} {L : List Part} {S : Nat → Prop} {wo : World} {b : Nat} (H : Hq base ws w L) (j : Nat) (ej : L[j]? = some (.set S wo)) {M : AC} {D : List S65} (O : q65.R 65 wo b S (.slice M.1 D.length M.2) D) : RdR w M D := by
  have q := Kd.R_reads' (H.rr j ej O)
  exact ⟨q.2.1, C65 q.2.2⟩
theorem rdBelow {w w' : World} {M : AC} {D : List S65} (h : RdR w M D) (hb : Below w.heap.size w w') : RdR w' M D := ⟨h.1, Kd.C_below h.2 hb⟩
end
def GivesT (w : World) (e : Ending) (w' : World) : Prop := ∃ (n ta tb : Int) (Ma Mb : AC) (Da Db : List S65) (cols : Int), e = .returned (.tuple #[.int .i64 n, .agg (cR Ma (ta, Da)), .agg (cR Mb (tb, Db)), .int .i64 cols]) ∧ (3 ≤ n ∧ n ≤ 4) ∧ FV Da ∧ FV Db ∧ RdR w' Ma Da ∧ RdR w' Mb Db ∧ Below w.heap.size w w'
set_option maxHeartbeats 8000000 in
set_option maxRecDepth 100000 in
theorem drawTake_call (w : World) {A : Option Addr} {c : Nat} {l : List Int} (hC : Kd.C (Kd.int .u8) w A l.length l) (hc : l.length ≤ c) (hw : ∀ x ∈ l, (Lit.int .u8 x).wf = true) : Calls Try.prog 52 #[.slice A l.length c] w (GivesT w) := by
  have hs57 := size57
  have HC := Az.mk hC
  have HB := Az.mk (Below.refl w.heap.size w)
  have H := Az.mk (Hq.start w)
  have tk0 : True := trivial
  clear hC
  go_enter Try.func52, Try.ntmps52
  go_wp2_with (first | ((with_reducible refine zqg (N := 3) rfl ?_); refine H.out.bx rfl (#[.int .i64 0, .slice none 0 0]) 57 ?hr ?_; (case hr => first | (go_simp; done) | (go_simp; rfl)); intro g3 w3 H1; clear H; have H := H1; clear H1; (try simp only [Act.put, zs1, zs2, zs3])) | ((with_reducible refine zqg (N := 4) rfl ?_); refine H.out.bx rfl (#[.int .i64 0, .slice none 0 0]) 57 ?hr ?_; (case hr => first | (go_simp; done) | (go_simp; rfl)); intro g4 w4 H1; clear H; have H := H1; clear H1; (try simp only [Act.put, zs1, zs2, zs3])) | (go_at_call 62; refine (open_callq H.out HC.out hc hw (by simp [Boxes])).mono ?_; rintro e w9 ⟨g, c9, b, rfl, hrd, h1⟩; have HR := Az.mk hrd; have H1 := Az.mk h1; clear hrd h1; clear H; have H := H1; clear H1) | (go_at_call 63; refine (disks_callq (m := 0 + 399999) HB.out H.out 0 rfl (HR.out.less (by omega))).mono ?_; rintro e w11 ⟨n, c11, rfl, hn, hrd, h1⟩; have HN := Az.mk hn; have HR1 := Az.mk hrd; have H1 := Az.mk h1; clear hrd h1 hn; clear H HR; have H := H1; have HR := HR1; clear H1 HR1) | (go_at_call 82; refine (off_callq (m := 0 + 396999) HN.out HB.out H.out 0 rfl (HR.out.less (by omega))).mono ?_; rintro e w15 ⟨tx15, M15, D15, c15, rfl, hf, ho, hrd, h1⟩; have F15 := Az.mk hf; have O15 := Az.mk ho; have HR1 := Az.mk hrd; have H1 := Az.mk h1; clear hf ho hrd h1; clear H HR; have H := H1; have HR := HR1; clear H1 HR1) | (go_at_call 89; refine (root_callr (m := 0 + 393999) HN.out HB.out H.out 1 rfl (HR.out.less (by omega))).mono ?_; rintro e w18 ⟨tx18, M18, D18, c18, rfl, hf, ho, hrd, h1⟩; have F18 := Az.mk hf; have O18 := Az.mk ho; have HR1 := Az.mk hrd; have H1 := Az.mk h1; clear hf ho hrd h1; clear H HR; have H := H1; have HR := HR1; clear H1 HR1) | (go_at_call 65; have _tk := tk0; refine (pick_callq (m := 0 + 393998) HB.out H.out 2 rfl (HR.out.less (by omega)) (n) (by have := HN.out; omega)).mono ?_; rintro e w21 ⟨r21, c21, rfl, hr21, hrd, h1⟩; have HR1 := Az.mk hrd; have H1 := Az.mk h1; have hz21 := eq_true (Int.natCast_nonneg r21); clear hrd h1; clear H HR; have H := H1; have HR := HR1; clear H1 HR1; clear tk0 _tk; have tk1 : True := trivial) | (go_at_call 65; have _tk := tk1; refine (pick_callq (m := 0 + 393997) HB.out H.out 2 rfl (HR.out.less (by omega)) (20) (by omega)).mono ?_; rintro e w24 ⟨r24, c24, rfl, hr24, hrd, h1⟩; have HR1 := Az.mk hrd; have H1 := Az.mk h1; have hz24 := eq_true (Int.natCast_nonneg r24); clear hrd h1; clear H HR; have H := H1; have HR := HR1; clear H1 HR1; clear tk1 _tk; have tk2 : True := trivial) | (go_at_call 65; have _tk := tk2; refine (pick_callq (m := 0 + 393996) HB.out H.out 2 rfl (HR.out.less (by omega)) (20) (by omega)).mono ?_; rintro e w28 ⟨r28, c28, rfl, hr28, hrd, h1⟩; have HR1 := Az.mk hrd; have H1 := Az.mk h1; have hz28 := eq_true (Int.natCast_nonneg r28); clear hrd h1; clear H HR; have H := H1; have HR := HR1; clear H1 HR1; clear tk2 _tk; have tk3 : True := trivial) | ((with_reducible refine gate_store (t := 57) (p := 3) rfl ?_); refine H.out.st_row 4 rfl rfl (x := .tmp 3) (y := .tmp 15) rfl rfl rfl (#[.int .i64 tx15, .slice M15.1 D15.length M15.2]) rfl hs57 rfl (by simp [Value.oneCell']) ?_; intro ws3 H1; clear H; have H := H1; clear H1) | ((with_reducible refine gate_store (t := 57) (p := 4) rfl ?_); refine H.out.st_row 3 rfl rfl (x := .tmp 4) (y := .tmp 18) rfl rfl rfl (#[.int .i64 tx18, .slice M18.1 D18.length M18.2]) rfl hs57 rfl (by simp [Value.oneCell']) ?_; intro ws4 H1; clear H; have H := H1; clear H1))
  exact bodyPost_ret (results_list (rs := [.tmp 2, .cell 3 57, .cell 4 57, .tmp 5]) rfl (by simp) (.tmp (.cell g3 57 (#[.int .i64 tx15, .slice M15.1 D15.length M15.2]) (0, 0) _ rfl (H.out.box 4 rfl) Try.underlying57 rfl (by kernel_rfl) (.cell g4 57 (#[.int .i64 tx18, .slice M18.1 D18.length M18.2]) (0, 0) _ rfl (H.out.box 3 rfl) Try.underlying57 rfl (by kernel_rfl) (.tmp .nil))))) rfl ⟨n, tx15, tx18, M15, M18, D15, D18, _, rfl, HN.out, F15.out, F18.out, rdr_of H.out 1 rfl O15.out, rdr_of H.out 0 rfl O18.out, H.out.bel⟩
end Go.Proofs.Ytkoimmeghdbodaa.Hq
namespace Go.Proofs.Ytkoimmeghdbodaa.Print
open Go.RowKit Go.Proofs.YtkoimmeghdbodaaW.PrintWords Go.Proofs.YtkoimmeghdbodaaW.PrintLast Go.Proofs.YtkoimmeghdbodaaW.PrintMore
attribute [local go_sem] max2_int min2_int max_two min_two max_three min_three max_four min_four
attribute [local go_sem high] eqA37
def laws_lpaPlaces.l0 : Nat → List (S37) → List (S37) → Int → Option (Bool)
  | 0, _, _, _ => none
  | k + 1, x0, x1, x5 => if x5 < (x0.length : Int) then (if 0 ≤ x5 then (if x5 < (x1.length : Int) then (if (!(((rd_T37 x0 x5).f0) == ((rd_T37 x1 x5).f0)) || (!(((rd_T37 x0 x5).f1) == ((rd_T37 x1 x5).f1)))) = true then (some false) else (laws_lpaPlaces.l0 k x0 x1 (wrap64 (x5 + 1)))) else (none)) else (none)) else (some true)
def laws_lpaPlaces.f (k : Nat) (l0 : List (S37)) (l1 : List (S37)) : Option (Bool) := if (l0.length : Int) = (l1.length : Int) then (laws_lpaPlaces.l0 k l0 l1 0) else (some false)
set_option maxHeartbeats 8000000 in
set_option maxRecDepth 100000 in
theorem laws_lpaPlaces.calls (k : Nat) (A0 : Option Addr) (c0 : Nat) (l0 : List (S37)) (A1 : Option Addr) (c1 : Nat) (l1 : List (S37)) (r : Bool) (w : World) (hr0 : Kd.C k37 w A0 l0.length l0) (hc0 : l0.length ≤ c0) (hr1 : Kd.C k37 w A1 l1.length l1) (hc1 : l1.length ≤ c1) (h : laws_lpaPlaces.f k l0 l1 = some r) :
    Calls Try.prog 28 #[.slice A0 l0.length c0, .slice A1 l1.length c1] w fun e w' => e = .returned (.bool r) ∧ Drawn0 w w' := by
  have hu37 := Try.underlying37
  have HR0 := Az.mk hr0
  have HC0 := Az.mk hc0
  clear hr0 hc0
  have HR1 := Az.mk hr1
  have HC1 := Az.mk hc1
  clear hr1 hc1
  have H : (if (l0.length : Int) = (l1.length : Int) then (laws_lpaPlaces.l0 k l0 l1 0) else (some false)) = some r := h
  clear h
  by_cases c3 : (l0.length : Int) = (l1.length : Int)
  · rw [if_pos c3] at H
    have c3b0 : ((l0.length : Int) == (l1.length : Int)) = true := beq_iff_eq.mpr c3
    have c3b1 : ((l0.length : Int) != (l1.length : Int)) = false := bne_eq_false_iff_eq.mpr c3
    have c3b2 : (l0.length == l1.length) = true := by first | simpa using c3 | (simp at c3 ⊢; omega)
    clear c3
    have H' := Az.mk H
    clear H
    go_enter Try.func28, Try.ntmps28
    go_wp2
    repeat (go_quiet (fail); try go_wp2)
    go_loopg [5] k (fun kq v5 w' => ∃ (x5_1 : Int), v5 = .int .i64 x5_1 ∧ Az (laws_lpaPlaces.l0 kq l0 l1 x5_1 = some r) ∧ Az (kq ≤ k) ∧ Drawn0 w w')
    case atStart => exact ⟨(0), (by first | rfl | (simp; done) | (simp [*]; done)), H', ⟨Nat.le_refl _⟩, by repeat (first | exact Drawn0.refl _ | apply Drawn0.step)⟩
    case round =>
      clear H'
      try clear c1
      try clear c2
      try clear p2
      try clear c3
      try clear c3b0
      try clear c3b1
      try clear c3b2
      obtain ⟨x5_1, rfl, HA, HK1, ⟨m1, rfl⟩⟩ := hrel
      cases gk with
      | zero => exact absurd HA.out (by simp [laws_lpaPlaces.l0])
      | succ k1 =>
        have H := HA.out
        clear HA
        simp only [laws_lpaPlaces.l0] at H
        by_cases c4 : x5_1 < (l0.length : Int)
        · rw [if_pos c4] at H
          have c4b0 : decide (x5_1 < (l0.length : Int)) = true := decide_eq_true c4
          clear c4
          by_cases c5 : 0 ≤ x5_1
          · rw [if_pos c5] at H
            have c5b0 : decide (0 ≤ x5_1) = true := decide_eq_true c5
            clear c5
            by_cases c6 : x5_1 < (l1.length : Int)
            · rw [if_pos c6] at H
              have c6b0 : decide (x5_1 < (l1.length : Int)) = true := decide_eq_true c6
              clear c6
              by_cases c7 : (!(((rd_T37 l0 x5_1).f0) == ((rd_T37 l1 x5_1).f0)) || (!(((rd_T37 l0 x5_1).f1) == ((rd_T37 l1 x5_1).f1)))) = true
              · rw [if_pos c7] at H
                have c7b0 : (!(((rd_T37 l0 x5_1).f0) == ((rd_T37 l1 x5_1).f0)) || (!(((rd_T37 l0 x5_1).f1) == ((rd_T37 l1 x5_1).f1)))) = true := c7
                clear c7
                obtain rfl := Option.some.inj H
                have p338 : 0 ≤ (x5_1 : Int) := of_decide_eq_true (by first | (with_reducible assumption) | assumption)
                have q338 : x5_1 < (l0.length : Int) := of_decide_eq_true (by first | (with_reducible assumption) | assumption)
                obtain ⟨ad338, e338, hx338_0, hx338_1⟩ := at_T37 HR0.out x5_1 p338 q338
                cases e338
                replace p338 := eq_true p338
                replace q338 := eq_true q338
                have p339 : 0 ≤ (x5_1 : Int) := of_decide_eq_true (by first | (with_reducible assumption) | assumption)
                have q339 : x5_1 < (l1.length : Int) := of_decide_eq_true (by first | (with_reducible assumption) | assumption)
                obtain ⟨ad339, e339, hx339_0, hx339_1⟩ := at_T37 HR1.out x5_1 p339 q339
                cases e339
                replace p339 := eq_true p339
                replace q339 := eq_true q339
                go_wp2
                repeat (go_quiet (fail); try go_wp2)
                go_ret
                exact ⟨by first | rfl | (simp; done) | (simp [*]; done), by repeat (first | exact Drawn0.refl _ | apply Drawn0.step)⟩
              · rw [if_neg c7] at H
                have c7b0 : (!(((rd_T37 l0 x5_1).f0) == ((rd_T37 l1 x5_1).f0)) || (!(((rd_T37 l0 x5_1).f1) == ((rd_T37 l1 x5_1).f1)))) = false := by simpa using c7
                clear c7
                have H' := Az.mk H
                clear H
                have p338 : 0 ≤ (x5_1 : Int) := of_decide_eq_true (by first | (with_reducible assumption) | assumption)
                have q338 : x5_1 < (l0.length : Int) := of_decide_eq_true (by first | (with_reducible assumption) | assumption)
                obtain ⟨ad338, e338, hx338_0, hx338_1⟩ := at_T37 HR0.out x5_1 p338 q338
                cases e338
                replace p338 := eq_true p338
                replace q338 := eq_true q338
                have p339 : 0 ≤ (x5_1 : Int) := of_decide_eq_true (by first | (with_reducible assumption) | assumption)
                have q339 : x5_1 < (l1.length : Int) := of_decide_eq_true (by first | (with_reducible assumption) | assumption)
                obtain ⟨ad339, e339, hx339_0, hx339_1⟩ := at_T37 HR1.out x5_1 p339 q339
                cases e339
                replace p339 := eq_true p339
                replace q339 := eq_true q339
                go_wp2
                repeat (go_quiet (fail); try go_wp2)
                go_roundg k1
                case measure => have := HK1.out; omega
                case rel => exact ⟨(wrap64 (x5_1 + 1)), (by first | rfl | (simp; done) | (simp [*]; done)), H', ⟨by have := HK1.out; omega⟩, by repeat (first | exact Drawn0.refl _ | apply Drawn0.step)⟩
            · rw [if_neg c6] at H
              exact absurd H (by simp)
          · rw [if_neg c5] at H
            exact absurd H (by simp)
        · rw [if_neg c4] at H
          have c4b0 : decide (x5_1 < (l0.length : Int)) = false := decide_eq_false c4
          clear c4
          obtain rfl := Option.some.inj H
          go_wp2
          repeat (go_quiet (fail); try go_wp2)
          go_ret
          exact ⟨by first | rfl | (simp; done) | (simp [*]; done), by repeat (first | exact Drawn0.refl _ | apply Drawn0.step)⟩
  · rw [if_neg c3] at H
    have c3b0 : ((l0.length : Int) == (l1.length : Int)) = false := beq_eq_false_iff_ne.mpr c3
    have c3b1 : ((l0.length : Int) != (l1.length : Int)) = true := bne_iff_ne.mpr c3
    have c3b2 : (l0.length == l1.length) = false := by first | simpa using c3 | (simp at c3 ⊢; omega)
    obtain rfl := Option.some.inj H
    go_enter Try.func28, Try.ntmps28
    go_wp2
    repeat (go_quiet (fail); try go_wp2)
    go_ret
    exact ⟨by first | rfl | (simp; done) | (simp [*]; done), by repeat (first | exact Drawn0.refl _ | apply Drawn0.step)⟩
end Go.Proofs.Ytkoimmeghdbodaa.Print
namespace Go.Proofs.Ytkoimmeghdbodaa.Print
open Go.RowKit Go.Proofs.YtkoimmeghdbodaaW.PrintWords Go.Proofs.YtkoimmeghdbodaaW.PrintLast Go.Proofs.YtkoimmeghdbodaaW.PrintMore
attribute [local go_sem] max2_int min2_int max_two min_two max_three min_three max_four min_four
attribute [local go_sem high] eqA37
def laws_lpaIn.l0 : Nat → List (S37) → Int → Int → Int → Option (Bool)
 | 0, _, _, _, _ => none
 | k + 1, x0, x5, x592000, x592001 => if x5 < (x0.length : Int) then (if 0 ≤ x5 then (if (((rd_T37 x0 x5).f0) == x592000 && (((rd_T37 x0 x5).f1) == x592001)) = true then (some true) else (laws_lpaIn.l0 k x0 (wrap64 (x5 + 1)) x592000 x592001)) else (none)) else (some false)
def laws_lpaIn.f (k : Nat) (l0 : List (S37)) (a1_0 : Int) (a1_1 : Int) : Option (Bool) := laws_lpaIn.l0 k l0 0 a1_0 a1_1
set_option maxHeartbeats 8000000 in
set_option maxRecDepth 100000 in
theorem laws_lpaIn.calls (k : Nat) (A0 : Option Addr) (c0 : Nat) (l0 : List (S37)) (a1_0 : Int) (a1_1 : Int) (r : Bool) (w : World) (hr0 : Kd.C k37 w A0 l0.length l0) (hc0 : l0.length ≤ c0) (h : laws_lpaIn.f k l0 a1_0 a1_1 = some r) :
  Calls Try.prog 42 #[.slice A0 l0.length c0, .agg #[.int .i64 a1_0, .int .i64 a1_1]] w fun e w' => e = .returned (.bool r) ∧ Below w.heap.size w w' := by
 have hu37 := Try.underlying37
 have HR0 := Az.mk hr0
 have HC0 := Az.mk hc0
 clear hr0 hc0
 have HB := Az.mk (Below.refl w.heap.size w)
 have H : (laws_lpaIn.l0 k l0 0 a1_0 a1_1) = some r := h
 clear h
 have H' := Az.mk H
 clear H
 go_enter Try.func42, Try.ntmps42
 go_wp2_with (first | ((with_reducible refine zqg (N := 3) rfl ?_); refine zqb ?hg (N := 3) ?hd (cs := #[.int .i64 a1_0, .int .i64 a1_1]) (t := 37) ?hr ?_; (case hd => rfl); (case hg => rfl); (case hr => first | (go_simp; done) | (go_simp; rfl)); intro gb591 hg w3 hbox hb; have n0_ := Az.mk (below_step zB hb); have n1_ := Az.mk (hbox); have n2_ := Az.mk ((by rw [hg]; exact (below_size zB) : w.heap.size ≤ gb591)); have n3_ := Az.mk ((by rw [hg]; exact (below_size zB) : w.heap.size ≤ gb591)); clear HB; have HB := n0_; have BK591 := n1_; have GW591 := n2_; have GE591 := n3_; clear n0_ n1_ n2_ n3_; clear hb hbox hg))
 repeat (go_quiet (first | ((with_reducible refine zqg (N := 3) rfl ?_); refine zqb ?hg (N := 3) ?hd (cs := #[.int .i64 a1_0, .int .i64 a1_1]) (t := 37) ?hr ?_; (case hd => rfl); (case hg => rfl); (case hr => first | (go_simp; done) | (go_simp; rfl)); intro gb591 hg w3 hbox hb; have n0_ := Az.mk (below_step zB hb); have n1_ := Az.mk (hbox); have n2_ := Az.mk ((by rw [hg]; exact (below_size zB) : w.heap.size ≤ gb591)); have n3_ := Az.mk ((by rw [hg]; exact (below_size zB) : w.heap.size ≤ gb591)); clear HB; have HB := n0_; have BK591 := n1_; have GW591 := n2_; have GE591 := n3_; clear n0_ n1_ n2_ n3_; clear hb hbox hg)); try go_wp2_with (first | ((with_reducible refine zqg (N := 3) rfl ?_); refine zqb ?hg (N := 3) ?hd (cs := #[.int .i64 a1_0, .int .i64 a1_1]) (t := 37) ?hr ?_; (case hd => rfl); (case hg => rfl); (case hr => first | (go_simp; done) | (go_simp; rfl)); intro gb591 hg w3 hbox hb; have n0_ := Az.mk (below_step zB hb); have n1_ := Az.mk (hbox); have n2_ := Az.mk ((by rw [hg]; exact (below_size zB) : w.heap.size ≤ gb591)); have n3_ := Az.mk ((by rw [hg]; exact (below_size zB) : w.heap.size ≤ gb591)); clear HB; have HB := n0_; have BK591 := n1_; have GW591 := n2_; have GE591 := n3_; clear n0_ n1_ n2_ n3_; clear hb hbox hg)))
 go_loopg [5] k (fun kq v5 w' => ∃ (x5_1 : Int), v5 = .int .i64 x5_1 ∧ Az (laws_lpaIn.l0 kq l0 x5_1 a1_0 a1_1 = some r) ∧ Az (kq ≤ k) ∧ Az (w'.heap[gb591]? = some (.cells #[.int .i64 a1_0, .int .i64 a1_1] 37 (0, 0))) ∧ Az (Below w.heap.size w w'))
 case atStart => exact ⟨(0), (by first | rfl | (simp; done) | (simp [*]; done)), H', ⟨Nat.le_refl _⟩, ⟨by (with_reducible repeat (first | refine zq6 ?_ _ | refine zq8 ?_ | refine zq7 ?_ _)); exact BK591.out⟩, ⟨by repeat (first | (with_reducible first | exact HB.out | apply zq2 | apply zq1 | apply zqd | refine zq3 ?_ GE591.out) | exact HB.out)⟩⟩
 case round =>
  clear H'
  try clear p2
  obtain ⟨x5_1, rfl, HA, HK1, BK591, HB⟩ := hrel
  cases gk with
  | zero => exact absurd HA.out (by simp [laws_lpaIn.l0])
  | succ k1 =>
   have H := HA.out
   clear HA
   simp only [laws_lpaIn.l0] at H
   by_cases c4 : x5_1 < (l0.length : Int)
   ·rw [if_pos c4] at H
    have c4b0 : decide (x5_1 < (l0.length : Int)) = true := decide_eq_true c4
    clear c4
    by_cases c5 : 0 ≤ x5_1
    ·rw [if_pos c5] at H
     have c5b0 : decide (0 ≤ x5_1) = true := decide_eq_true c5
     clear c5
     by_cases c6 : (((rd_T37 l0 x5_1).f0) == a1_0 && (((rd_T37 l0 x5_1).f1) == a1_1)) = true
     ·rw [if_pos c6] at H
      have c6b0 : (((rd_T37 l0 x5_1).f0) == a1_0 && (((rd_T37 l0 x5_1).f1) == a1_1)) = true := c6
      (try (have c6b1 : decide (((rd_T37 l0 x5_1).f0) = a1_0 && (((rd_T37 l0 x5_1).f1) == a1_1)) = true := by simpa using c6))
      (try (have c6b2 : (((rd_T37 l0 x5_1).f0) == a1_0 && (((rd_T37 l0 x5_1).f1) == a1_1)) = true := by simpa using c6))
      clear c6
      obtain rfl := Option.some.inj H
      have p592 : 0 ≤ (x5_1 : Int) := of_decide_eq_true (by first | (with_reducible assumption) | assumption)
      have q592 : x5_1 < (l0.length : Int) := of_decide_eq_true (by first | (with_reducible assumption) | assumption)
      obtain ⟨ad592, e592, hx592_0, hx592_1⟩ := at_T37 HR0.out x5_1 p592 q592
      cases e592
      replace hx592_0 := (HB.out.cell (World.block_lt_of_cell? w _ hx592_0)).trans hx592_0
      replace hx592_1 := (HB.out.cell (World.block_lt_of_cell? w _ hx592_1)).trans hx592_1
      replace p592 := eq_true p592
      replace q592 := eq_true q592
      have hcz7_0 : wr.cell? ⟨gb591, 0, none⟩ = some (.int .i64 a1_0) := (zq4 BK591.out 0).trans rfl
      have hcz7_1 : wr.cell? ⟨gb591, 1, none⟩ = some (.int .i64 a1_1) := (zq4 BK591.out 1).trans rfl
      have hfz7_0 := zq5 BK591.out 0
      have hfz7_1 := zq5 BK591.out 1
      go_wp2
      repeat (go_quiet (fail); try go_wp2)
      go_ret
      exact ⟨by first | rfl | (simp [errW_none, errW_some] <;> rfl) | (simp [*, errW_none, errW_some] <;> rfl), by repeat (first | (with_reducible first | exact HB.out | apply zq2 | apply zq1 | apply zqd | refine zq3 ?_ GE591.out) | exact HB.out)⟩
     ·rw [if_neg c6] at H
      have c6b0 : (((rd_T37 l0 x5_1).f0) == a1_0 && (((rd_T37 l0 x5_1).f1) == a1_1)) = false := by simpa using c6
      (try (have c6b1 : decide (((rd_T37 l0 x5_1).f0) = a1_0 && (((rd_T37 l0 x5_1).f1) == a1_1)) = false := by simpa using c6))
      (try (have c6b2 : (((rd_T37 l0 x5_1).f0) == a1_0 && (((rd_T37 l0 x5_1).f1) == a1_1)) = false := by simpa using c6))
      (try (have c6b3 : ¬ (((rd_T37 l0 x5_1).f0) = a1_0 && (((rd_T37 l0 x5_1).f1) == a1_1)) := by simpa using c6))
      clear c6
      have H' := Az.mk H
      clear H
      have p592 : 0 ≤ (x5_1 : Int) := of_decide_eq_true (by first | (with_reducible assumption) | assumption)
      have q592 : x5_1 < (l0.length : Int) := of_decide_eq_true (by first | (with_reducible assumption) | assumption)
      obtain ⟨ad592, e592, hx592_0, hx592_1⟩ := at_T37 HR0.out x5_1 p592 q592
      cases e592
      replace hx592_0 := (HB.out.cell (World.block_lt_of_cell? w _ hx592_0)).trans hx592_0
      replace hx592_1 := (HB.out.cell (World.block_lt_of_cell? w _ hx592_1)).trans hx592_1
      replace p592 := eq_true p592
      replace q592 := eq_true q592
      have hcz8_0 : wr.cell? ⟨gb591, 0, none⟩ = some (.int .i64 a1_0) := (zq4 BK591.out 0).trans rfl
      have hcz8_1 : wr.cell? ⟨gb591, 1, none⟩ = some (.int .i64 a1_1) := (zq4 BK591.out 1).trans rfl
      have hfz8_0 := zq5 BK591.out 0
      have hfz8_1 := zq5 BK591.out 1
      go_wp2
      repeat (go_quiet (fail); try go_wp2)
      go_roundg k1
      case measure => have := HK1.out; omega
      case rel => exact ⟨(wrap64 (x5_1 + 1)), (by first | rfl | (simp; done) | (simp [*]; done)), H', ⟨by have := HK1.out; omega⟩, ⟨by (with_reducible repeat (first | refine zq6 ?_ _ | refine zq8 ?_ | refine zq7 ?_ _)); exact BK591.out⟩, ⟨by repeat (first | (with_reducible first | exact HB.out | apply zq2 | apply zq1 | apply zqd | refine zq3 ?_ GE591.out) | exact HB.out)⟩⟩
    ·rw [if_neg c5] at H
     exact absurd H (by simp)
   ·rw [if_neg c4] at H
    have c4b0 : decide (x5_1 < (l0.length : Int)) = false := decide_eq_false c4
    clear c4
    obtain rfl := Option.some.inj H
    go_wp2
    repeat (go_quiet (fail); try go_wp2)
    go_ret
    exact ⟨by first | rfl | (simp [errW_none, errW_some] <;> rfl) | (simp [*, errW_none, errW_some] <;> rfl), by repeat (first | (with_reducible first | exact HB.out | apply zq2 | apply zq1 | apply zqd | refine zq3 ?_ GE591.out) | exact HB.out)⟩
end Go.Proofs.Ytkoimmeghdbodaa.Print
namespace Go.Proofs.Ytkoimmeghdbodaa.Print
open Go.RowKit Go.Lib Go.Maps Go.WideMaps Go.Proofs.YtkoimmeghdbodaaW.PrintWords Go.Proofs.YtkoimmeghdbodaaW.PrintLast Go.Proofs.YtkoimmeghdbodaaW.PrintMore Go.Proofs.Ytkoimmeghdbodaa.Pure
theorem Gm.grown {w w1 : World} {B b n : Nat} {D : DataW Value} {V : Nat → Value} {L : Nat → List S37} (h : Gm w B b n D V L) {row : Option Nat} (hg : w.grownBy w1 row) (hr : ∀ k, row = some k → k ≠ b ∧ ∀ d, d < 4 → (V d).ownBlock ≠ some k) : Gm w1 B b n D V L :=
  ⟨h.own.kept hg (fun e => (hr b e.symm).1 rfl), h.at_, fun d hd => Kd.R_step (h.row d hd) (fun k hk hlt => hg.block k hlt (fun e => (hr k e.symm).2 d hd hk.symm)), h.apart⟩
theorem Gm.lower {w : World} {B B' b n : Nat} {D : DataW Value} {V : Nat → Value} {L : Nat → List S37} (h : Gm w B b n D V L) (hb : B' ≤ B) : Gm w B' b n D V L :=
  ⟨h.own, h.at_, fun d hd => Kd.R_lower (h.row d hd) hb, h.apart⟩
theorem Gm.drop {w w1 : World} {B b n : Nat} {D : DataW Value} {V : Nat → Value} {L : Nat → List S37} (h : Gm w B b n D V L) {d : Nat} (hd : d < 4) (ho : w1.ownsMap Try.prog 3 RE b n (D.del (kI d))) (hg : w.grownBy w1 (some b)) : Gm w1 B b n (D.del (kI d)) (upd V d (.slice none 0 0)) (upd L d []) := by
  refine ⟨ho, fun e he => ?_, fun e he => ?_, fun e f he hf hne k hk => ?_⟩
  · unfold upd
    by_cases c : e = d
    · rw [if_pos c, c, Maps.atKey_del_same]
      rfl
    · rw [if_neg c, Maps.atKey_del_other (kI_ne c), h.at_ e he]
  · unfold upd
    by_cases c : e = d
    · rw [if_pos c, if_pos c]
      exact Kd.R_nil _ _ _ _ _
    · rw [if_neg c, if_neg c]
      exact Kd.R_step (h.row e he) (fun k hk hlt => hg.block k hlt (fun e2 => h.ne he (by rw [← hk]; exact e2.symm)))
  · unfold upd at hk ⊢
    by_cases c : e = d
    · rw [if_pos c] at hk
      simp [Value.ownBlock] at hk
    · rw [if_neg c] at hk
      by_cases c2 : f = d
      · rw [if_pos c2]
        simp [Value.ownBlock]
      · rw [if_neg c2]
        exact h.apart e f he hf hne k hk
def bestOf (L : Nat → List S37) : Nat → Nat
  | 0 => 0
  | d + 1 => if (L (bestOf L d)).length < (L d).length then d else bestOf L d
theorem bestOf_lt (L : Nat → List S37) (d : Nat) : bestOf L (d + 1) < d + 1 := by
  induction d with
  | zero =>
    show (if (L (bestOf L 0)).length < (L 0).length then 0 else bestOf L 0) < 1
    by_cases h : (L (bestOf L 0)).length < (L 0).length
    · rw [if_pos h]; omega
    · rw [if_neg h]; simp [bestOf]
  | succ d ih =>
    show (if (L (bestOf L (d + 1))).length < (L (d + 1)).length then d + 1 else bestOf L (d + 1)) < d + 2
    by_cases h : (L (bestOf L (d + 1))).length < (L (d + 1)).length
    · rw [if_pos h]; omega
    · rw [if_neg h]; omega
def takeG (nn : Nat) : Nat → (Nat → List S37) → List S37 → List S37 × Bool
  | 0, _, out => (out, true)
  | c + 1, L, out => if (L (bestOf L nn)).length = 0 then ([], false) else takeG nn c (upd L (bestOf L nn) []) (out ++ [(L (bestOf L nn)).getD 0 z37])
def takeI (n txa txb cols : Int) (la lb : List S65) : List S37 × Bool := if (rootB n txa la && (rootB n txb lb && (decide (1 ≤ cols) && decide (cols ≤ n)))) = true then takeG n.toNat cols.toNat (Lst (rootPl n txa la ++ rootPl n txb lb) n.toNat 0) [] else ([], false)
set_option maxHeartbeats 16000000 in
set_option maxRecDepth 100000 in
theorem spaceTake_call (n txa txb cols : Int) (Aa Ab : Option Addr) (ca cb : Nat) (la lb : List S65) (w : World)
    (hra : Kd.C k65 w Aa la.length la) (hca : la.length ≤ ca) (hsa : ∀ x ∈ la, ∀ y ∈ x.f1, y.f2.length ≤ 1048576)
    (hrb : Kd.C k65 w Ab lb.length lb) (hcb : lb.length ≤ cb) (hsb : ∀ x ∈ lb, ∀ y ∈ x.f1, y.f2.length ≤ 1048576) :
    Calls Try.prog 51 #[.int .i64 n, .agg #[.int .i64 txa, .slice Aa la.length ca], .agg #[.int .i64 txb, .slice Ab lb.length cb], .int .i64 cols] w fun e w' => ∃ v, e = .returned (.tuple #[v, .bool (takeI n txa txb cols la lb).2]) ∧ Kd.R k37 37 w' w.heap.size (fun _ => True) v (takeI n txa txb cols la lb).1 ∧ Below w.heap.size w w' := by
  have hu37 := Try.underlying37
  have hu57 := Try.underlying57
  have small : ∀ (tx : Int) (l : List S65), (∀ x ∈ l, ∀ y ∈ x.f1, y.f2.length ≤ 1048576) → impl_RootOk.f n tx l = some (rootB n tx l) := fun tx l h => by
    unfold impl_RootOk.f
    rw [if_pos]
    exact List.all_eq_true.2 fun x hx => List.all_eq_true.2 fun y hy => decide_eq_true (h x hx y hy)
  have HROa := Az.mk (fun (W : World) (hb : Below w.heap.size w W) => impl_RootOk.calls n txa Aa ca la (rootB n txa la) W (Kd.C_below hra hb) hca (small txa la hsa))
  have HROb := Az.mk (fun (W : World) (hb : Below w.heap.size w W) => impl_RootOk.calls n txb Ab cb lb (rootB n txb lb) W (Kd.C_below hrb hb) hcb (small txb lb hsb))
  have b1 : Blk (w.alloc (.cells #[.int .i64 txa, .slice Aa la.length ca] 57)) w.heap.size #[.int .i64 txa, .slice Aa la.length ca] 57 := Blk.made _ _ _
  have b2 := Blk.made (w.alloc (.cells #[.int .i64 txa, .slice Aa la.length ca] 57)) #[.int .i64 txb, .slice Ab lb.length cb] 57
  rw [World.size_alloc] at b2
  have b1 := b1.alloc (.cells #[.int .i64 txb, .slice Ab lb.length cb] 57)
  have hB0 : Below w.heap.size w ((w.alloc (.cells #[.int .i64 txa, .slice Aa la.length ca] 57)).alloc (.cells #[.int .i64 txb, .slice Ab lb.length cb] 57)) := by
    have h1 : Below w.heap.size w (w.alloc (.cells #[.int .i64 txa, .slice Aa la.length ca] 57)) := (Below.refl w.heap.size w).alloc (Nat.le_refl _) _
    exact h1.alloc (by simp) _
  have BA := Az.mk b1
  have BB := Az.mk b2
  have HB := Az.mk hB0
  have hca_0 := (BA.out.cell 0).trans rfl
  have hca_1 := (BA.out.cell 1).trans rfl
  have hcb_0 := (BB.out.cell 0).trans rfl
  have hcb_1 := (BB.out.cell 1).trans rfl
  have tk0 : True := trivial
  clear b1 b2 hB0 small
  have hsp : takeI n txa txb cols la lb = if (rootB n txa la && (rootB n txb lb && (decide (1 ≤ cols) && decide (cols ≤ n)))) = true then takeG n.toNat cols.toNat (Lst (rootPl n txa la ++ rootPl n txb lb) n.toNat 0) [] else ([], false) := rfl
  generalize takeI n txa txb cols la lb = res at hsp ⊢
  cases ea : rootB n txa la with
  | false =>
    rw [ea] at HROa hsp
    have HE : Az (res = ([], false)) := ⟨by rw [hsp]; rfl⟩
    clear hra hrb hca hcb hsa hsb hsp ea
    go_enter Try.func51, Try.ntmps51
    go_wp2_with (first | (go_at_call 38; have _tk := tk0; refine (HROa.out _ HB.out).mono ?_; rintro e w12 ⟨rfl, hb⟩; have BA2 := Az.mk (BA.out.below hb); have BB2 := Az.mk (BB.out.below hb); have HB2 := Az.mk (HB.out.trans (hb.mono HB.out.size)); clear BA BB HB hca_0 hca_1 hcb_0 hcb_1; have BA := BA2; have BB := BB2; have HB := HB2; clear BA2 BB2 HB2; have hca_0 := (BA.out.cell 0).trans rfl; have hca_1 := (BA.out.cell 1).trans rfl; have hcb_0 := (BB.out.cell 0).trans rfl; have hcb_1 := (BB.out.cell 1).trans rfl; clear hb; clear tk0 _tk; have tk1 : True := trivial) | go_in)
    go_ret2
    exact ⟨.slice none 0 0, by rw [HE.out]; rfl, by rw [HE.out]; exact Kd.R_nil _ _ _ _ _, HB.out⟩
  | true =>
    rw [ea] at HROa hsp
    cases eb : rootB n txb lb with
    | false =>
      rw [eb] at HROb hsp
      have HE : Az (res = ([], false)) := ⟨by rw [hsp]; rfl⟩
      clear hra hrb hca hcb hsa hsb hsp ea eb
      go_enter Try.func51, Try.ntmps51
      go_wp2_with (first | (go_at_call 38; have _tk := tk0; refine (HROa.out _ HB.out).mono ?_; rintro e w12 ⟨rfl, hb⟩; have BA2 := Az.mk (BA.out.below hb); have BB2 := Az.mk (BB.out.below hb); have HB2 := Az.mk (HB.out.trans (hb.mono HB.out.size)); clear BA BB HB hca_0 hca_1 hcb_0 hcb_1; have BA := BA2; have BB := BB2; have HB := HB2; clear BA2 BB2 HB2; have hca_0 := (BA.out.cell 0).trans rfl; have hca_1 := (BA.out.cell 1).trans rfl; have hcb_0 := (BB.out.cell 0).trans rfl; have hcb_1 := (BB.out.cell 1).trans rfl; clear hb; clear tk0 _tk; have tk1 : True := trivial) | (go_at_call 38; have _tk := tk1; refine (HROb.out _ HB.out).mono ?_; rintro e w17 ⟨rfl, hb⟩; have BA2 := Az.mk (BA.out.below hb); have BB2 := Az.mk (BB.out.below hb); have HB2 := Az.mk (HB.out.trans (hb.mono HB.out.size)); clear BA BB HB hca_0 hca_1 hcb_0 hcb_1; have BA := BA2; have BB := BB2; have HB := HB2; clear BA2 BB2 HB2; have hca_0 := (BA.out.cell 0).trans rfl; have hca_1 := (BA.out.cell 1).trans rfl; have hcb_0 := (BB.out.cell 0).trans rfl; have hcb_1 := (BB.out.cell 1).trans rfl; clear hb; clear tk1 _tk; have tk2 : True := trivial) | go_in)
      go_ret2
      exact ⟨.slice none 0 0, by rw [HE.out]; rfl, by rw [HE.out]; exact Kd.R_nil _ _ _ _ _, HB.out⟩
    | true =>
      rw [eb] at HROb hsp
      by_cases k1 : 1 ≤ cols
      · rw [decide_eq_true k1] at hsp
        have k1b : decide (cols < 1) = false := decide_eq_false (by omega)
        by_cases k2 : cols ≤ n
        · rw [decide_eq_true k2] at hsp
          have k2b : decide (cols > n) = false := decide_eq_false (by omega)
          have k2c : decide (n < cols) = false := decide_eq_false (by omega)
          have sa := rootPl_small ea
          have sb := rootPl_small eb
          obtain ⟨nn, hnn⟩ := Int.eq_ofNat_of_zero_le (show 0 ≤ n by omega)
          obtain ⟨cc, hcc⟩ := Int.eq_ofNat_of_zero_le (show 0 ≤ cols by omega)
          have hn4 : nn ≤ 4 := by omega
          have HFR := Az.mk (fun (W : World) (hb : Below w.heap.size w W) => free_call nn txa txb Aa Ab ca cb la lb W hn4 (Kd.C_below hra hb) hca hsa (Kd.C_below hrb hb) hcb hsb n hnn (by omega))
          obtain ⟨U, hU⟩ : ∃ U, U = rootPl n txa la ++ rootPl n txb lb := ⟨_, rfl⟩
          rw [← hU] at hsp HFR
          have HE : Az (res = takeG nn cc (Lst U nn 0) []) := ⟨by rw [hsp, hnn, hcc]; rfl⟩
          have HNN := Az.mk hnn
          have HCC := Az.mk hcc
          have HN4 := Az.mk hn4
          have HN1 : Az (1 ≤ nn) := ⟨by omega⟩
          have HCN : Az (cc ≤ nn) := ⟨by omega⟩
          clear hra hrb hca hcb hsa hsb hsp ea eb sa sb hnn hn4 hU hcc k1 k2
          go_enter Try.func51, Try.ntmps51
          go_wp2_with (first | (go_at_call 38; have _tk := tk0; refine (HROa.out _ HB.out).mono ?_; rintro e w12 ⟨rfl, hb⟩; have BA2 := Az.mk (BA.out.below hb); have BB2 := Az.mk (BB.out.below hb); have HB2 := Az.mk (HB.out.trans (hb.mono HB.out.size)); clear BA BB HB hca_0 hca_1 hcb_0 hcb_1; have BA := BA2; have BB := BB2; have HB := HB2; clear BA2 BB2 HB2; have hca_0 := (BA.out.cell 0).trans rfl; have hca_1 := (BA.out.cell 1).trans rfl; have hcb_0 := (BB.out.cell 0).trans rfl; have hcb_1 := (BB.out.cell 1).trans rfl; clear hb; clear tk0 _tk; have tk1 : True := trivial) | (go_at_call 38; have _tk := tk1; refine (HROb.out _ HB.out).mono ?_; rintro e w17 ⟨rfl, hb⟩; have BA2 := Az.mk (BA.out.below hb); have BB2 := Az.mk (BB.out.below hb); have HB2 := Az.mk (HB.out.trans (hb.mono HB.out.size)); clear BA BB HB hca_0 hca_1 hcb_0 hcb_1; have BA := BA2; have BB := BB2; have HB := HB2; clear BA2 BB2 HB2; have hca_0 := (BA.out.cell 0).trans rfl; have hca_1 := (BA.out.cell 1).trans rfl; have hcb_0 := (BB.out.cell 0).trans rfl; have hcb_1 := (BB.out.cell 1).trans rfl; clear hb; clear tk1 _tk; have tk2 : True := trivial) | (go_at_call 90; refine (HFR.out _ HB.out).mono ?_; rintro e w36 ⟨b, m, D, V, rfl, hbb, hG, hb⟩; have HG := Az.mk (hG.lower HB.out.size); have HBB := Az.mk (Nat.le_trans HB.out.size hbb); have BA2 := Az.mk (BA.out.below hb); have BB2 := Az.mk (BB.out.below hb); have HB2 := Az.mk (HB.out.trans (hb.mono HB.out.size)); clear BA BB HB hca_0 hca_1 hcb_0 hcb_1; have BA := BA2; have BB := BB2; have HB := HB2; clear BA2 BB2 HB2; have hca_0 := (BA.out.cell 0).trans rfl; have hca_1 := (BA.out.cell 1).trans rfl; have hcb_0 := (BB.out.cell 0).trans rfl; have hcb_1 := (BB.out.cell 1).trans rfl; clear hb hG hbb) | go_in)
          have HBL := Az.mk HG.out.own.lt
          have HVL0 : Az (∀ e, e < 4 → ∀ k, (V e).ownBlock = some k → k < w36.heap.size) := ⟨fun e he k hk => Kd.R_lt (HG.out.row e he) k hk⟩
          have HLL0 : Az (∀ e, (Lst U nn 0 e).length ≤ 12) := ⟨fun e => by
            unfold Lst
            by_cases h1 : e < nn
            · rw [if_pos h1]; exact freeP_len _ _ _
            · rw [if_neg h1]
              by_cases h2 : e = nn
              · rw [if_pos h2]; simp [freeP]
              · rw [if_neg h2]; simp⟩
          clear hca_0 hca_1 hcb_0 hcb_1 k1b k2b k2c
          go_loopg [11, 38] cc (fun kq v11 v38 wr => ∃ (c : Nat) (out : List S37) (L : Nat → List S37) (m : Nat) (D : DataW Value) (V : Nat → Value), v38 = .int .i64 (c : Int) ∧ Az (c + kq = cc) ∧ Az (out.length = c) ∧ Az (takeG nn (cc - c) L out = res) ∧ Az (∀ e, (L e).length ≤ 12) ∧ Az (Gm wr w.heap.size b m D V L) ∧ Az (∀ e, e < 4 → ∀ k, (V e).ownBlock = some k → k < w36.heap.size) ∧ Az (Kd.R k37 37 wr w.heap.size (fun k => w36.heap.size ≤ k) v11 out) ∧ Az (w36.heap.size ≤ wr.heap.size) ∧ Az (Below w.heap.size w wr))
          case atStart => exact ⟨0, [], _, m, D, V, rfl, ⟨Nat.zero_add _⟩, ⟨rfl⟩, ⟨HE.out.symm⟩, HLL0, HG, HVL0, ⟨Kd.R_nil _ _ _ _ _⟩, ⟨Nat.le_refl _⟩, HB⟩
          case round =>
            clear HG HVL0 HLL0 HB BA BB HE
            obtain ⟨c, out, L, m, D, V, rfl, HI, HOL, HT, HLL, HG, HVL, HR, HSZ, HB⟩ := hrel
            by_cases e1 : c < cc
            · have e1b : decide ((c : Int) < cols) = true := decide_eq_true (by rw [HCC.out]; omega)
              have HE1 := Az.mk e1
              have HWc : Az (wrap64 ((c : Int) + 1) = ((c + 1 : Nat) : Int)) := ⟨by rw [Pure.wrap_ok (by have := HCN.out; have := HN4.out; omega)]; omega⟩
              obtain ⟨go, hgo⟩ : ∃ go, go = gk := ⟨_, rfl⟩
              subst hgo
              obtain ⟨wo, hwo⟩ : ∃ wo, wo = wr := ⟨_, rfl⟩
              subst hwo
              clear e1
              go_wp2
              go_loopg [12, 41] nn (fun kq v12 v41 wr => ∃ (d : Nat), v41 = .int .i64 (d : Int) ∧ v12 = .int .i64 ((bestOf L d : Nat) : Int) ∧ Az (d + kq = nn) ∧ wr = wo)
              case atStart => exact ⟨0, rfl, rfl, ⟨Nat.zero_add _⟩, rfl⟩
              case round =>
                obtain ⟨d, rfl, rfl, HJ, rfl⟩ := hrel
                by_cases e2 : d < nn
                · have e2b : decide ((d : Int) < n) = true := decide_eq_true (by rw [HNN.out]; omega)
                  have HE2 := Az.mk e2
                  have HWd : Az (wrap64 ((d : Int) + 1) = ((d + 1 : Nat) : Int)) := ⟨by rw [Pure.wrap_ok (by have := HN4.out; omega)]; omega⟩
                  have hd4 : d < 4 := by have := HN4.out; omega
                  have hb4 : bestOf L d < 4 := by
                    cases d with
                    | zero => simp [bestOf]
                    | succ d => have := bestOf_lt L d; omega
                  obtain ⟨e0, hE0⟩ : ∃ e0, e0 = bestOf L d := ⟨_, rfl⟩
                  rw [← hE0] at hb4
                  obtain ⟨A1, c1, hV1⟩ := Kd.R_slice (HG.out.row d hd4)
                  obtain ⟨A2, c2, hV2⟩ := Kd.R_slice (HG.out.row e0 hb4)
                  have HV1 := Az.mk ((HG.out.at_ d hd4).trans (by rw [hV1]))
                  have HV2 := Az.mk ((HG.out.at_ e0 hb4).trans (by rw [hV2]))
                  have HK1 := Az.mk (kI_key (d := d) (by omega))
                  have HK2 := Az.mk (kI_key (d := e0) (by omega))
                  have HST : Az (bestOf L (d + 1) = if (L e0).length < (L d).length then d else e0) := ⟨by rw [hE0]; rfl⟩
                  rw [← hE0]
                  have HE0 := Az.mk hE0
                  have tkA : True := trivial
                  clear hV1 hV2 hd4 hb4 hE0 e2
                  by_cases hlt : (L e0).length < (L d).length
                  · have HS2 : Az (bestOf L (d + 1) = d) := ⟨by rw [HST.out, if_pos hlt]⟩
                    have hlt2 : decide (((L d).length : Int) > ((L e0).length : Int)) = true := decide_eq_true (by omega)
                    go_wp2_with (first | (at_lookup; have _tk := tkA; refine lookup_one rfl _ _ 108 rfl 3 27 ilaw Try.underlying108 RE (szero _) zS [] rfl b m D rfl HG.out.own (.int .i64 ((d : Nat) : Int)) (kI d) rfl HK1.out (.slice A1 (L d).length c1) (fun v qs h => re_inv h HV1.out) ?_; clear tkA _tk; have tkB : True := trivial) | (at_lookup; have _tk := tkB; refine lookup_one rfl _ _ 108 rfl 3 27 ilaw Try.underlying108 RE (szero _) zS [] rfl b m D rfl HG.out.own (.int .i64 ((e0 : Nat) : Int)) (kI e0) rfl HK2.out (.slice A2 (L e0).length c2) (fun v qs h => re_inv h HV2.out) ?_; clear tkB _tk; have tkC : True := trivial) | go_in)
                    go_roundg (nn - (d + 1))
                    case measure => have := HJ.out; have := HE2.out; omega
                    case rel => exact ⟨d + 1, by rw [← HWd.out], by rw [HS2.out], ⟨by have := HE2.out; omega⟩, rfl⟩
                  · have HS2 : Az (bestOf L (d + 1) = e0) := ⟨by rw [HST.out, if_neg hlt]⟩
                    have hlt2 : decide (((L d).length : Int) > ((L e0).length : Int)) = false := decide_eq_false (by omega)
                    go_wp2_with (first | (at_lookup; have _tk := tkA; refine lookup_one rfl _ _ 108 rfl 3 27 ilaw Try.underlying108 RE (szero _) zS [] rfl b m D rfl HG.out.own (.int .i64 ((d : Nat) : Int)) (kI d) rfl HK1.out (.slice A1 (L d).length c1) (fun v qs h => re_inv h HV1.out) ?_; clear tkA _tk; have tkB : True := trivial) | (at_lookup; have _tk := tkB; refine lookup_one rfl _ _ 108 rfl 3 27 ilaw Try.underlying108 RE (szero _) zS [] rfl b m D rfl HG.out.own (.int .i64 ((e0 : Nat) : Int)) (kI e0) rfl HK2.out (.slice A2 (L e0).length c2) (fun v qs h => re_inv h HV2.out) ?_; clear tkB _tk; have tkC : True := trivial) | go_in)
                    go_roundg (nn - (d + 1))
                    case measure => have := HJ.out; have := HE2.out; omega
                    case rel => exact ⟨d + 1, by rw [← HWd.out], by rw [HS2.out], ⟨by have := HE2.out; omega⟩, rfl⟩
                · have e2b : decide ((d : Int) < n) = false := decide_eq_false (by rw [HNN.out]; omega)
                  have hd : d = nn := by have := HJ.out; omega
                  subst hd
                  have hb4 : bestOf L d < 4 := by
                    cases d with
                    | zero => simp [bestOf]
                    | succ d => have := bestOf_lt L d; have := HN4.out; omega
                  have hT := HT.out
                  obtain ⟨q, hq⟩ : ∃ q, cc - c = q + 1 := ⟨cc - c - 1, by have := HE1.out; omega⟩
                  rw [hq] at hT
                  unfold takeG at hT
                  obtain ⟨e0, hE0⟩ : ∃ e0, e0 = bestOf L d := ⟨_, rfl⟩
                  rw [← hE0] at hb4 hT ⊢
                  have HE4 := Az.mk hb4
                  have HKE := Az.mk (kI_key (d := e0) (by omega))
                  have tkA : True := trivial
                  clear hE0 e2
                  by_cases hz : (L e0).length = 0
                  · rw [if_pos hz] at hT
                    obtain ⟨A2, c2, hV2⟩ := Kd.R_slice (HG.out.row e0 hb4)
                    have HV2 := Az.mk ((HG.out.at_ e0 hb4).trans (by rw [hV2]))
                    have HTT := Az.mk hT
                    have hz2 : decide (((L e0).length : Int) = 0) = true := decide_eq_true (by omega)
                    have hz3 : (((L e0).length : Int) == 0) = true := by rw [beq_iff_eq]; omega
                    clear hV2 hT hb4
                    go_wp2_with (first | (at_lookup; have _tk := tkA; refine lookup_one rfl _ _ 108 rfl 3 27 ilaw Try.underlying108 RE (szero _) zS [] rfl b m D rfl HG.out.own (.int .i64 ((e0 : Nat) : Int)) (kI e0) rfl HKE.out (.slice A2 (L e0).length c2) (fun v qs h => re_inv h HV2.out) ?_; clear tkA _tk; have tkB : True := trivial) | go_in)
                    go_ret2
                    exact ⟨.slice none 0 0, by rw [← HTT.out]; rfl, by rw [← HTT.out]; exact Kd.R_nil _ _ _ _ _, HB.out⟩
                  · rw [if_neg hz] at hT
                    obtain ⟨g, cap, hV2, hgB, hcap, hmx, hRow⟩ := rowB_of_R (HG.out.row e0 hb4) (by omega)
                    have HV2 := Az.mk ((HG.out.at_ e0 hb4).trans (by rw [hV2]))
                    obtain ⟨p, hp⟩ : ∃ p, p = (L e0).getD 0 z37 := ⟨_, rfl⟩
                    have hx0 := hRow.cell0 (i := 0) (by simp; omega)
                    have hx1 := hRow.cell1 (i := 0) (by simp; omega)
                    have ep : (L e0).toArray[0]! = p := by
                      rw [hp, getElem!_pos _ 0 (by simp; omega)]
                      simp [List.getD, show 0 < (L e0).length by omega]
                    rw [ep] at hx0 hx1
                    rw [← hp] at hT
                    have HTT := Az.mk hT
                    have hz2 : decide (((L e0).length : Int) = 0) = false := decide_eq_false (by omega)
                    have hz3 : (((L e0).length : Int) == 0) = false := by rw [beq_eq_false_iff_ne]; omega
                    have p0 := eq_true (show (0 : Int) ≤ 0 by omega)
                    have q0 := eq_true (show (0 : Int) < ((L e0).length : Int) by omega)
                    have HLN : Az (out.length ≤ 1000) := ⟨by have := HOL.out; have := HE1.out; have := HCN.out; have := HN4.out; omega⟩
                    have HQ := Az.mk hq
                    simp only [Nat.zero_mul, Nat.zero_add] at hx0 hx1
                    clear hV2 hT hgB hcap hmx hRow hp ep hq hb4
                    go_wp2_with (first | (at_lookup; have _tk := tkA; refine lookup_one rfl _ _ 108 rfl 3 27 ilaw Try.underlying108 RE (szero _) zS [] rfl b m D rfl HG.out.own (.int .i64 ((e0 : Nat) : Int)) (kI e0) rfl HKE.out (.slice (some ⟨g, 0, none⟩) (L e0).length cap) (fun v qs h => re_inv h HV2.out) ?_; clear tkA _tk; have tkB : True := trivial) | (at_lookup; have _tk := tkB; refine lookup_one rfl _ _ 108 rfl 3 27 ilaw Try.underlying108 RE (szero _) zS [] rfl b m D rfl HG.out.own (.int .i64 ((e0 : Nat) : Int)) (kI e0) rfl HKE.out (.slice (some ⟨g, 0, none⟩) (L e0).length cap) (fun v qs h => re_inv h HV2.out) ?_; clear tkB _tk; have tkC : True := trivial) | ((with_reducible refine zqg (N := 67) rfl ?_); refine Kd.R_append k37 (w0 := w) w.heap.size rfl (.tmp 60) (.tmp 66) 27 37 (.agg #[.int .i64 0, .int .i64 0]) 16 rfl Try.underlying27 info37 rfl (by decide) (by omega) u11 out p [.int .i64 p.f0, .int .i64 p.f1] (fun k => w36.heap.size ≤ k) (fun _ => False) rfl rfl (k37_mkM _ _ _ p) (fun _ hk => hk.elim) (fun k hk => Nat.le_trans HSZ.out hk) HR.out HB.out HB.out.size (by have := HLN.out; omega) ?_; intro v1 w1 hR1 hB1 hg1 hat1; have R1 := Az.mk hR1; have B1w := Az.mk hB1; have G1 := Az.mk hg1; have HG1 := Az.mk (HG.out.grown hg1 (fun k hk => ⟨fun e => by have := HR.out.1 k hk; have := HBL.out; omega, fun e he hk2 => by have := HR.out.1 k hk; have := HVL.out e he k hk2; omega⟩)); clear hR1 hB1 hg1 hat1) | (refine wpList_delete_own _ rfl _ _ 108 3 rfl 27 ilaw Try.underlying108 RE b m D rfl HG1.out.own (.int .i64 ((e0 : Nat) : Int)) (kI e0) rfl HKE.out ?_; intro w2 hown2 hturn2; have O2 := Az.mk hown2; have G2 := Az.mk hturn2.grown; clear hown2 hturn2) | go_in)
                    have HG2 := Az.mk (HG1.out.drop HE4.out O2.out G2.out)
                    have HVL2 : Az (∀ e, e < 4 → ∀ k, (upd V e0 (.slice none 0 0) e).ownBlock = some k → k < w36.heap.size) := ⟨fun e he k hk => by
                      unfold upd at hk
                      by_cases c9 : e = e0
                      · rw [if_pos c9] at hk; simp [Value.ownBlock] at hk
                      · rw [if_neg c9] at hk; exact HVL.out e he k hk⟩
                    have HLL2 : Az (∀ e, (upd L e0 [] e).length ≤ 12) := ⟨fun e => by
                      unfold upd
                      by_cases c9 : e = e0
                      · rw [if_pos c9]; simp
                      · rw [if_neg c9]; exact HLL.out e⟩
                    have HB2 : Az (Below w.heap.size w w2) := ⟨B1w.out.grown G2.out B1w.out.size (fun k hk => by cases hk; exact HBB.out)⟩
                    have HSZ2 : Az (w36.heap.size ≤ w2.heap.size) := ⟨Nat.le_trans HSZ.out (Nat.le_trans G1.out.size G2.out.size)⟩
                    have HR2 : Az (Kd.R k37 37 w2 w.heap.size (fun k => w36.heap.size ≤ k) v1 (out ++ [p])) := ⟨Kd.R_step R1.out (fun k hk hlt => G2.out.block k hlt (fun e => by cases e; have := HBL.out; omega))⟩
                    clear R1 B1w G1 O2 G2 HG1
                    go_wp2
                    go_roundg (cc - (c + 1))
                    case measure => have := HI.out; have := HE1.out; omega
                    case rel => exact ⟨c + 1, out ++ [p], upd L e0 [], m, _, _, by rw [← HWc.out], ⟨by have := HE1.out; omega⟩, ⟨by rw [List.length_append, HOL.out]; rfl⟩, ⟨by rw [show cc - (c + 1) = q by have := HQ.out; omega]; exact HTT.out⟩, HLL2, HG2, HVL2, HR2, HSZ2, HB2⟩
            · have e1b : decide ((c : Int) < cols) = false := decide_eq_false (by rw [HCC.out]; omega)
              have hc : c = cc := by have := HI.out; omega
              subst hc
              have hT := HT.out
              rw [Nat.sub_self] at hT
              have HTT : Az ((out, true) = res) := ⟨hT⟩
              clear hT
              go_wp2
              go_ret2
              exact ⟨u11, by rw [← HTT.out]; rfl, by rw [← HTT.out]; exact Kd.R_mono HR.out (fun _ _ => trivial), HB.out⟩
        · rw [decide_eq_false k2] at hsp
          have k2b : decide (cols > n) = true := decide_eq_true (by omega)
          have k2c : decide (n < cols) = true := decide_eq_true (by omega)
          have HE : Az (res = ([], false)) := ⟨by rw [hsp]; rfl⟩
          clear hra hrb hca hcb hsa hsb hsp ea eb k1
          go_enter Try.func51, Try.ntmps51
          go_wp2_with (first | (go_at_call 38; have _tk := tk0; refine (HROa.out _ HB.out).mono ?_; rintro e w12 ⟨rfl, hb⟩; have BA2 := Az.mk (BA.out.below hb); have BB2 := Az.mk (BB.out.below hb); have HB2 := Az.mk (HB.out.trans (hb.mono HB.out.size)); clear BA BB HB hca_0 hca_1 hcb_0 hcb_1; have BA := BA2; have BB := BB2; have HB := HB2; clear BA2 BB2 HB2; have hca_0 := (BA.out.cell 0).trans rfl; have hca_1 := (BA.out.cell 1).trans rfl; have hcb_0 := (BB.out.cell 0).trans rfl; have hcb_1 := (BB.out.cell 1).trans rfl; clear hb; clear tk0 _tk; have tk1 : True := trivial) | (go_at_call 38; have _tk := tk1; refine (HROb.out _ HB.out).mono ?_; rintro e w17 ⟨rfl, hb⟩; have BA2 := Az.mk (BA.out.below hb); have BB2 := Az.mk (BB.out.below hb); have HB2 := Az.mk (HB.out.trans (hb.mono HB.out.size)); clear BA BB HB hca_0 hca_1 hcb_0 hcb_1; have BA := BA2; have BB := BB2; have HB := HB2; clear BA2 BB2 HB2; have hca_0 := (BA.out.cell 0).trans rfl; have hca_1 := (BA.out.cell 1).trans rfl; have hcb_0 := (BB.out.cell 0).trans rfl; have hcb_1 := (BB.out.cell 1).trans rfl; clear hb; clear tk1 _tk; have tk2 : True := trivial) | go_in)
          go_ret2
          exact ⟨.slice none 0 0, by rw [HE.out]; rfl, by rw [HE.out]; exact Kd.R_nil _ _ _ _ _, HB.out⟩
      · rw [decide_eq_false k1] at hsp
        have k1b : decide (cols < 1) = true := decide_eq_true (by omega)
        have HE : Az (res = ([], false)) := ⟨by rw [hsp]; rfl⟩
        clear hra hrb hca hcb hsa hsb hsp ea eb
        go_enter Try.func51, Try.ntmps51
        go_wp2_with (first | (go_at_call 38; have _tk := tk0; refine (HROa.out _ HB.out).mono ?_; rintro e w12 ⟨rfl, hb⟩; have BA2 := Az.mk (BA.out.below hb); have BB2 := Az.mk (BB.out.below hb); have HB2 := Az.mk (HB.out.trans (hb.mono HB.out.size)); clear BA BB HB hca_0 hca_1 hcb_0 hcb_1; have BA := BA2; have BB := BB2; have HB := HB2; clear BA2 BB2 HB2; have hca_0 := (BA.out.cell 0).trans rfl; have hca_1 := (BA.out.cell 1).trans rfl; have hcb_0 := (BB.out.cell 0).trans rfl; have hcb_1 := (BB.out.cell 1).trans rfl; clear hb; clear tk0 _tk; have tk1 : True := trivial) | (go_at_call 38; have _tk := tk1; refine (HROb.out _ HB.out).mono ?_; rintro e w17 ⟨rfl, hb⟩; have BA2 := Az.mk (BA.out.below hb); have BB2 := Az.mk (BB.out.below hb); have HB2 := Az.mk (HB.out.trans (hb.mono HB.out.size)); clear BA BB HB hca_0 hca_1 hcb_0 hcb_1; have BA := BA2; have BB := BB2; have HB := HB2; clear BA2 BB2 HB2; have hca_0 := (BA.out.cell 0).trans rfl; have hca_1 := (BA.out.cell 1).trans rfl; have hcb_0 := (BB.out.cell 0).trans rfl; have hcb_1 := (BB.out.cell 1).trans rfl; clear hb; clear tk1 _tk; have tk2 : True := trivial) | go_in)
        go_ret2
        exact ⟨.slice none 0 0, by rw [HE.out]; rfl, by rw [HE.out]; exact Kd.R_nil _ _ _ _ _, HB.out⟩
end Go.Proofs.Ytkoimmeghdbodaa.Print
namespace Go.Proofs.Ytkoimmeghdbodaa.Print
open Go.RowKit Go.Proofs.YtkoimmeghdbodaaW.PrintWords Go.Proofs.YtkoimmeghdbodaaW.PrintLast Go.Proofs.YtkoimmeghdbodaaW.PrintMore
attribute [local go_sem] max2_int min2_int max_two min_two max_three min_three max_four min_four
def spec_l12Count.l0 : Nat → List (S37) → Int → Int → Int → Int → Int → Option (Int × Int × Int)
 | 0, _, _, _, _, _, _ => none
 | k + 1, x0, x1, x6, x8, x680000, x680001 => if x8 < (x0.length : Int) then (if 0 ≤ x8 then (if ((rd_T37 x0 x8).f0) = x1 then (if x6 = 0 then (spec_l12Count.l0 k x0 x1 (wrap64 (x6 + 1)) (wrap64 (x8 + 1)) ((rd_T37 x0 x8).f0) ((rd_T37 x0 x8).f1)) else (spec_l12Count.l0 k x0 x1 (wrap64 (x6 + 1)) (wrap64 (x8 + 1)) x680000 x680001)) else (spec_l12Count.l0 k x0 x1 x6 (wrap64 (x8 + 1)) x680000 x680001)) else (none)) else (some (x6, x680000, x680001))
def spec_l12Count.f (k : Nat) (l0 : List (S37)) (a1 : Int) : Option (Int × Int × Int) := spec_l12Count.l0 k l0 a1 0 0 0 0
set_option maxHeartbeats 8000000 in
set_option maxRecDepth 100000 in
theorem spec_l12Count.calls (k : Nat) (A0 : Option Addr) (c0 : Nat) (l0 : List (S37)) (a1 : Int) (r1 : Int) (r2 : Int) (r3 : Int) (w : World) (hr0 : Kd.C k37 w A0 l0.length l0) (hc0 : l0.length ≤ c0) (h : spec_l12Count.f k l0 a1 = some (r1, r2, r3)) :
  Calls Try.prog 118 #[.slice A0 l0.length c0, .int .i64 a1] w fun e w' => e = .returned (.tuple #[.int .i64 r1, .agg #[.int .i64 r2, .int .i64 r3]]) ∧ Below w.heap.size w w' := by
 have hu37 := Try.underlying37
 have HR0 := Az.mk hr0
 have HC0 := Az.mk hc0
 clear hr0 hc0
 have HB := Az.mk (Below.refl w.heap.size w)
 have H : (spec_l12Count.l0 k l0 a1 0 0 0 0) = some (r1, r2, r3) := h
 clear h
 have H' := Az.mk H
 clear H
 go_enter Try.func118, Try.ntmps118
 go_wp2_with (first | ((with_reducible refine zqg (N := 5) rfl ?_); refine zqb ?hg (N := 5) ?hd (cs := #[.int .i64 0, .int .i64 0]) (t := 37) ?hr ?_; (case hd => rfl); (case hg => rfl); (case hr => first | (go_simp; done) | (go_simp; rfl)); intro gb678 hg w3 hbox hb; have n0_ := Az.mk (below_step zB hb); have n1_ := Az.mk (hbox); have n2_ := Az.mk ((by rw [hg]; exact (below_size zB) : w.heap.size ≤ gb678)); have n3_ := Az.mk ((by rw [hg]; exact (below_size zB) : w.heap.size ≤ gb678)); clear HB; have HB := n0_; have BK678 := n1_; have GW678 := n2_; have GE678 := n3_; clear n0_ n1_ n2_ n3_; clear hb hbox hg) | ((with_reducible refine zqg (N := 7) rfl ?_); refine zqb ?hg (N := 7) ?hd (cs := #[.int .i64 0, .int .i64 0]) (t := 37) ?hr ?_; (case hd => rfl); (case hg => rfl); (case hr => first | (go_simp; done) | (go_simp; rfl)); intro gb679 hg w4 hbox hb; have n0_ := Az.mk (blk_below (g := gb678) (o := .cells #[.int .i64 0, .int .i64 0] 37 (0, 0)) (by (with_reducible repeat (first | refine zq6 ?_ _ | refine zq8 ?_ | refine zq7 ?_ _)); exact BK678.out) hb); have n1_ := Az.mk (below_step (by repeat (first | (with_reducible first | exact HB.out | apply zq2 | apply zq1 | apply zqd | refine zq3 ?_ GE678.out) | exact HB.out)) hb); have n2_ := Az.mk (hbox); have n3_ := Az.mk ((by rw [hg]; exact (below_size (by repeat (first | (with_reducible first | exact HB.out | apply zq2 | apply zq1 | apply zqd | refine zq3 ?_ GE678.out) | exact HB.out))) : w.heap.size ≤ gb679)); have n4_ := Az.mk ((by rw [hg]; exact (below_size (by repeat (first | (with_reducible first | exact HB.out | apply zq2 | apply zq1 | apply zqd | refine zq3 ?_ GE678.out) | exact HB.out))) : w.heap.size ≤ gb679)); have n5_ := Az.mk ((by rw [hg]; exact Nat.ne_of_lt (blk_lt (g := gb678) (o := .cells #[.int .i64 0, .int .i64 0] 37 (0, 0)) (by (with_reducible repeat (first | refine zq6 ?_ _ | refine zq8 ?_ | refine zq7 ?_ _)); exact BK678.out)) : gb678 ≠ gb679)); have n6_ := Az.mk ((by rw [hg]; exact Nat.ne_of_gt (blk_lt (g := gb678) (o := .cells #[.int .i64 0, .int .i64 0] 37 (0, 0)) (by (with_reducible repeat (first | refine zq6 ?_ _ | refine zq8 ?_ | refine zq7 ?_ _)); exact BK678.out)) : gb679 ≠ gb678)); clear BK678; clear HB; have BK678 := n0_; have HB := n1_; have BK679 := n2_; have GW679 := n3_; have GE679 := n4_; have NB678_679 := n5_; have NB679_678 := n6_; clear n0_ n1_ n2_ n3_ n4_ n5_ n6_; clear hb hbox hg; have hnb5 := NB679_678.out; have hnc5 := NB678_679.out; have hcz6_0 : w4.cell? ⟨gb679, 0, none⟩ = some (.int .i64 0) := (zq4 BK679.out 0).trans rfl; have hcz6_1 : w4.cell? ⟨gb679, 1, none⟩ = some (.int .i64 0) := (zq4 BK679.out 1).trans rfl; have hfz6_0 := zq5 BK679.out 0; have hfz6_1 := zq5 BK679.out 1))
 go_loopg [6, 8] k (fun kq v6 v8 w' => ∃ (x6_1 : Int) (x8_1 : Int) (x680000_1 : Int) (x680001_1 : Int), v6 = .int .i64 x6_1 ∧ v8 = .int .i64 x8_1 ∧ Az (spec_l12Count.l0 kq l0 a1 x6_1 x8_1 x680000_1 x680001_1 = some (r1, r2, r3)) ∧ Az (kq ≤ k) ∧ Az (w'.heap[gb678]? = some (.cells #[.int .i64 0, .int .i64 0] 37 (0, 0))) ∧ Az (w'.heap[gb679]? = some (.cells #[.int .i64 x680000_1, .int .i64 x680001_1] 37 (0, 0))) ∧ Az (Below w.heap.size w w'))
 case atStart => exact ⟨(0), (0), (0), (0), (by first | rfl | (simp; done) | (simp [*]; done)), (by first | rfl | (simp; done) | (simp [*]; done)), H', ⟨Nat.le_refl _⟩, ⟨by (with_reducible repeat (first | refine zq6 ?_ _ | refine zq8 ?_ | refine zq7 ?_ _)); refine blk_far ?_ NB678_679.out _; (with_reducible repeat (first | refine zq6 ?_ _ | refine zq8 ?_ | refine zq7 ?_ _)); refine blk_far ?_ NB678_679.out _; (with_reducible repeat (first | refine zq6 ?_ _ | refine zq8 ?_ | refine zq7 ?_ _)); exact BK678.out⟩, ⟨by (with_reducible repeat (first | refine zq6 ?_ _ | refine zq8 ?_ | refine zq7 ?_ _)); refine blk_put (cs := #[.int .i64 0, .int .i64 0]) ?_ 1 _ rfl; (with_reducible repeat (first | refine zq6 ?_ _ | refine zq8 ?_ | refine zq7 ?_ _)); refine blk_put (cs := #[.int .i64 0, .int .i64 0]) ?_ 0 _ rfl; (with_reducible repeat (first | refine zq6 ?_ _ | refine zq8 ?_ | refine zq7 ?_ _)); exact BK679.out⟩, ⟨by repeat (first | (with_reducible first | exact HB.out | apply zq2 | apply zq1 | apply zqd | refine zq3 ?_ GE678.out | refine zq3 ?_ GE679.out) | exact HB.out)⟩⟩
 case round =>
  clear H'
  try clear c1
  try clear p2
  try clear c5
  try clear hcz6_0
  try clear hcz6_1
  try clear hfz6_0
  try clear hfz6_1
  obtain ⟨x6_1, x8_1, x680000_1, x680001_1, rfl, rfl, HA, HK1, BK678, BK679, HB⟩ := hrel
  cases gk with
  | zero => exact absurd HA.out (by simp [spec_l12Count.l0])
  | succ k1 =>
   have H := HA.out
   clear HA
   simp only [spec_l12Count.l0] at H
   by_cases c7 : x8_1 < (l0.length : Int)
   ·rw [if_pos c7] at H
    have c7b0 : decide (x8_1 < (l0.length : Int)) = true := decide_eq_true c7
    clear c7
    by_cases c8 : 0 ≤ x8_1
    ·rw [if_pos c8] at H
     have c8b0 : decide (0 ≤ x8_1) = true := decide_eq_true c8
     clear c8
     by_cases c9 : ((rd_T37 l0 x8_1).f0) = a1
     ·rw [if_pos c9] at H
      have c9b0 : (((rd_T37 l0 x8_1).f0) == a1) = true := beq_iff_eq.mpr c9
      have c9b1 : (((rd_T37 l0 x8_1).f0) != a1) = false := bne_eq_false_iff_eq.mpr c9
      clear c9
      by_cases c10 : x6_1 = 0
      ·rw [if_pos c10] at H
       have c10b0 : (x6_1 == 0) = true := beq_iff_eq.mpr c10
       have c10b1 : (x6_1 != 0) = false := bne_eq_false_iff_eq.mpr c10
       clear c10
       have H' := Az.mk H
       clear H
       have p680 : 0 ≤ (x8_1 : Int) := of_decide_eq_true (by first | (with_reducible assumption) | assumption)
       have q680 : x8_1 < (l0.length : Int) := of_decide_eq_true (by first | (with_reducible assumption) | assumption)
       obtain ⟨ad680, e680, hx680_0, hx680_1⟩ := at_T37 HR0.out x8_1 p680 q680
       cases e680
       replace hx680_0 := (HB.out.cell (World.block_lt_of_cell? w _ hx680_0)).trans hx680_0
       replace hx680_1 := (HB.out.cell (World.block_lt_of_cell? w _ hx680_1)).trans hx680_1
       replace p680 := eq_true p680
       replace q680 := eq_true q680
       have p681 : 0 ≤ (x8_1 : Int) := of_decide_eq_true (by first | (with_reducible assumption) | assumption)
       have q681 : x8_1 < (l0.length : Int) := of_decide_eq_true (by first | (with_reducible assumption) | assumption)
       obtain ⟨ad681, e681, hx681_0, hx681_1⟩ := at_T37 HR0.out x8_1 p681 q681
       obtain rfl : ad680 = ad681 := (by injection e681)
       replace hx681_0 := (HB.out.cell (World.block_lt_of_cell? w _ hx681_0)).trans hx681_0
       replace hx681_1 := (HB.out.cell (World.block_lt_of_cell? w _ hx681_1)).trans hx681_1
       replace p681 := eq_true p681
       replace q681 := eq_true q681
       have hnb11 := NB679_678.out
       have hnc11 := NB678_679.out
       have hcz12_0 : wr.cell? ⟨gb679, 0, none⟩ = some (.int .i64 x680000_1) := (zq4 BK679.out 0).trans rfl
       have hcz12_1 : wr.cell? ⟨gb679, 1, none⟩ = some (.int .i64 x680001_1) := (zq4 BK679.out 1).trans rfl
       have hfz12_0 := zq5 BK679.out 0
       have hfz12_1 := zq5 BK679.out 1
       go_wp2
       go_roundg k1
       case measure => have := HK1.out; omega
       case rel => exact ⟨(wrap64 (x6_1 + 1)), (wrap64 (x8_1 + 1)), ((rd_T37 l0 x8_1).f0), ((rd_T37 l0 x8_1).f1), (by first | rfl | (simp; done) | (simp [*]; done)), (by first | rfl | (simp; done) | (simp [*]; done)), H', ⟨by have := HK1.out; omega⟩, ⟨by (with_reducible repeat (first | refine zq6 ?_ _ | refine zq8 ?_ | refine zq7 ?_ _)); refine blk_far ?_ NB678_679.out _; (with_reducible repeat (first | refine zq6 ?_ _ | refine zq8 ?_ | refine zq7 ?_ _)); refine blk_far ?_ NB678_679.out _; (with_reducible repeat (first | refine zq6 ?_ _ | refine zq8 ?_ | refine zq7 ?_ _)); exact BK678.out⟩, ⟨by (with_reducible repeat (first | refine zq6 ?_ _ | refine zq8 ?_ | refine zq7 ?_ _)); refine blk_put (cs := #[.int .i64 ((rd_T37 l0 x8_1).f0), .int .i64 x680001_1]) ?_ 1 _ rfl; (with_reducible repeat (first | refine zq6 ?_ _ | refine zq8 ?_ | refine zq7 ?_ _)); refine blk_put (cs := #[.int .i64 x680000_1, .int .i64 x680001_1]) ?_ 0 _ rfl; (with_reducible repeat (first | refine zq6 ?_ _ | refine zq8 ?_ | refine zq7 ?_ _)); exact BK679.out⟩, ⟨by repeat (first | (with_reducible first | exact HB.out | apply zq2 | apply zq1 | apply zqd | refine zq3 ?_ GE678.out | refine zq3 ?_ GE679.out) | exact HB.out)⟩⟩
      ·rw [if_neg c10] at H
       have c10b0 : (x6_1 == 0) = false := beq_eq_false_iff_ne.mpr c10
       have c10b1 : (x6_1 != 0) = true := bne_iff_ne.mpr c10
       have H' := Az.mk H
       clear H
       have p680 : 0 ≤ (x8_1 : Int) := of_decide_eq_true (by first | (with_reducible assumption) | assumption)
       have q680 : x8_1 < (l0.length : Int) := of_decide_eq_true (by first | (with_reducible assumption) | assumption)
       obtain ⟨ad680, e680, hx680_0, hx680_1⟩ := at_T37 HR0.out x8_1 p680 q680
       cases e680
       replace hx680_0 := (HB.out.cell (World.block_lt_of_cell? w _ hx680_0)).trans hx680_0
       replace hx680_1 := (HB.out.cell (World.block_lt_of_cell? w _ hx680_1)).trans hx680_1
       replace p680 := eq_true p680
       replace q680 := eq_true q680
       go_wp2
       go_roundg k1
       case measure => have := HK1.out; omega
       case rel => exact ⟨(wrap64 (x6_1 + 1)), (wrap64 (x8_1 + 1)), (x680000_1), (x680001_1), (by first | rfl | (simp; done) | (simp [*]; done)), (by first | rfl | (simp; done) | (simp [*]; done)), H', ⟨by have := HK1.out; omega⟩, ⟨by (with_reducible repeat (first | refine zq6 ?_ _ | refine zq8 ?_ | refine zq7 ?_ _)); exact BK678.out⟩, ⟨by (with_reducible repeat (first | refine zq6 ?_ _ | refine zq8 ?_ | refine zq7 ?_ _)); exact BK679.out⟩, ⟨by repeat (first | (with_reducible first | exact HB.out | apply zq2 | apply zq1 | apply zqd | refine zq3 ?_ GE678.out | refine zq3 ?_ GE679.out) | exact HB.out)⟩⟩
     ·rw [if_neg c9] at H
      have c9b0 : (((rd_T37 l0 x8_1).f0) == a1) = false := beq_eq_false_iff_ne.mpr c9
      have c9b1 : (((rd_T37 l0 x8_1).f0) != a1) = true := bne_iff_ne.mpr c9
      have H' := Az.mk H
      clear H
      have p680 : 0 ≤ (x8_1 : Int) := of_decide_eq_true (by first | (with_reducible assumption) | assumption)
      have q680 : x8_1 < (l0.length : Int) := of_decide_eq_true (by first | (with_reducible assumption) | assumption)
      obtain ⟨ad680, e680, hx680_0, hx680_1⟩ := at_T37 HR0.out x8_1 p680 q680
      cases e680
      replace hx680_0 := (HB.out.cell (World.block_lt_of_cell? w _ hx680_0)).trans hx680_0
      replace hx680_1 := (HB.out.cell (World.block_lt_of_cell? w _ hx680_1)).trans hx680_1
      replace p680 := eq_true p680
      replace q680 := eq_true q680
      go_wp2
      go_roundg k1
      case measure => have := HK1.out; omega
      case rel => exact ⟨(x6_1), (wrap64 (x8_1 + 1)), (x680000_1), (x680001_1), (by first | rfl | (simp; done) | (simp [*]; done)), (by first | rfl | (simp; done) | (simp [*]; done)), H', ⟨by have := HK1.out; omega⟩, ⟨by (with_reducible repeat (first | refine zq6 ?_ _ | refine zq8 ?_ | refine zq7 ?_ _)); exact BK678.out⟩, ⟨by (with_reducible repeat (first | refine zq6 ?_ _ | refine zq8 ?_ | refine zq7 ?_ _)); exact BK679.out⟩, ⟨by repeat (first | (with_reducible first | exact HB.out | apply zq2 | apply zq1 | apply zqd | refine zq3 ?_ GE678.out | refine zq3 ?_ GE679.out) | exact HB.out)⟩⟩
    ·rw [if_neg c8] at H
     exact absurd H (by simp)
   ·rw [if_neg c7] at H
    have c7b0 : decide (x8_1 < (l0.length : Int)) = false := decide_eq_false c7
    clear c7
    simp only [Option.some.injEq, Prod.mk.injEq] at H
    obtain ⟨rfl, rfl, rfl⟩ := H
    try go_wp2
    have n0_ := Az.mk (zq8 BK678.out)
    have n1_ := Az.mk (zq8 BK679.out)
    have n2_ := Az.mk (zqd HB.out)
    clear BK678
    clear BK679
    clear HB
    have BK678 := n0_
    have BK679 := n1_
    have HB := n2_
    clear n0_ n1_ n2_
    refine start_ (n := 4) (S := fun w' => w'.cell? ⟨gb679, 0, none⟩ = some (.int .i64 x680000_1) ∧ w'.cell? ⟨gb679, 1, none⟩ = some (.int .i64 x680001_1)) (ds := []) (bm 4 0) (by kernel_rfl) rfl rfl ⟨(zq4 BK679.out 0).trans rfl, (zq4 BK679.out 1).trans rfl⟩ (fun hHeld => ?_)
    generalize wr.drew = w13 at BK678 BK679 HB hHeld ⊢
    refine zP 0 (some 31) (bm 4 1) ?_
    refine zP 2 (some 4) (bm 4 5) ?_
    refine zU 1 (some 32) (bm 4 7) rfl hHeld (Or.inl ⟨by rfl, by rintro w' ⟨s0, s1⟩; go_simp; with_reducible rfl⟩) ?_
    refine one_ (i := 3) (N := none) (bm 4 15) rfl rfl (by kernel_rfl) (by decide) (fun K hK => ?_)
    have hs14 : w13.cell? ⟨gb678, 0, none⟩ = some (.int .i64 0) := (zq4 BK678.out 0).trans rfl
    have hfs14 := zq5 BK678.out 0
    have hns14_1 := NB679_678.out
    have hms14_1 := NB678_679.out
    have hs15 : w13.cell? ⟨gb678, 1, none⟩ = some (.int .i64 0) := (zq4 BK678.out 1).trans rfl
    have hfs15 := zq5 BK678.out 1
    have hns15_1 := NB679_678.out
    have hms15_1 := NB678_679.out
    refine skip_ (w1 := ?_) (by rfl) rfl ?_ ?_
    rotate_left
    ·go_simp
     rfl
    refine hK.out _ _ ⟨((cell_far (p := ⟨gb678, _, none⟩) NB679_678.out _).trans (((cell_far (p := ⟨gb678, _, none⟩) NB679_678.out _).trans (hHeld.1)))), ((cell_far (p := ⟨gb678, _, none⟩) NB679_678.out _).trans (((cell_far (p := ⟨gb678, _, none⟩) NB679_678.out _).trans (hHeld.2))))⟩ (fun hHeld => ?_)
    clear hK K
    refine done_ (by kernel_rfl) ?_
    try go_wp2
    refine bodyPost_ret (results_tc rfl _ _ gb678 37 #[.int .i64 x680000_1, .int .i64 x680001_1] (0, 0) _ rfl (by (with_reducible repeat (first | refine zq6 ?_ _ | refine zq8 ?_ | refine zq7 ?_ _)); refine blk_put (cs := #[.int .i64 x680000_1, .int .i64 0]) ?_ 1 _ rfl; (with_reducible repeat (first | refine zq6 ?_ _ | refine zq8 ?_ | refine zq7 ?_ _)); refine blk_put (cs := #[.int .i64 0, .int .i64 0]) ?_ 0 _ rfl; (with_reducible repeat (first | refine zq6 ?_ _ | refine zq8 ?_ | refine zq7 ?_ _)); exact BK678.out) Try.underlying37 rfl (by kernel_rfl)) rfl ?_
    exact ⟨by first | rfl | (simp [errW_none, errW_some] <;> rfl) | (simp [*, errW_none, errW_some] <;> rfl), by repeat (first | (with_reducible first | exact HB.out | apply zq2 | apply zq1 | apply zqd | refine zq3 ?_ GE678.out | refine zq3 ?_ GE679.out) | exact HB.out)⟩
end Go.Proofs.Ytkoimmeghdbodaa.Print
namespace Go.Proofs.Ytkoimmeghdbodaa.Print
open Go.RowKit Go.Proofs.YtkoimmeghdbodaaW.PrintWords Go.Proofs.YtkoimmeghdbodaaW.PrintLast Go.Proofs.YtkoimmeghdbodaaW.PrintMore
attribute [local go_sem] max2_int min2_int max_two min_two max_three min_three max_four min_four
mutual
def spec_l12Take.l0 : Nat → Int → List (S37) → Int → List (S37) → List Bool → Option ((List (S37)) × Bool)
 | 0, _, _, _, _, _ => none
 | k + 1, x0, x1, x2, x8, x9 => if (x8.length : Int) < x2 then (spec_l12Take.l1 k x0 x1 x2 x8 x9 (-1) 0 0 0 0) else (some (x8, true))
def spec_l12Take.l1 : Nat → Int → List (S37) → Int → List (S37) → List Bool → Int → Int → Int → Int → Int → Option ((List (S37)) × Bool)
 | 0, _, _, _, _, _, _, _, _, _, _ => none
 | k + 1, x0, x1, x2, x8, x9, x10, x11, x13, x689000, x689001 => if x13 < x0 then ((spec_l12Count.f k x1 x13).bind fun bt689 => (if 0 ≤ x13 then (if x13 < (x9.length : Int) then (if rdOf false x9 x13 = true then (spec_l12Take.l1 k x0 x1 x2 x8 x9 x10 x11 (wrap64 (x13 + 1)) x689000 x689001) else (if bt689.1 > x11 then (spec_l12Take.l1 k x0 x1 x2 x8 x9 x13 bt689.1 (wrap64 (x13 + 1)) bt689.2.1 bt689.2.2) else (spec_l12Take.l1 k x0 x1 x2 x8 x9 x10 x11 (wrap64 (x13 + 1)) x689000 x689001))) else (none)) else (none))) else (if x10 < 0 then (some ((([] : List (S37))), false)) else (if 0 ≤ x10 then (if x10 < (x9.length : Int) then (if x8.length < 8796093022208 then (spec_l12Take.l0 k x0 x1 x2 (x8 ++ [(⟨x689000, x689001⟩ : S37)]) (x9.set (x10 : Int).toNat true)) else (none)) else (none)) else (none)))
end
def spec_l12Take.f (k : Nat) (a0 : Int) (l1 : List (S37)) (a2 : Int) : Option ((List (S37)) × Bool) := if 0 ≤ a0 then (if (a0 : Int).toNat ≤ 281474976710656 then (spec_l12Take.l0 k a0 l1 a2 (([] : List (S37))) (List.replicate (a0 : Int).toNat false)) else (none)) else (none)
set_option maxHeartbeats 8000000 in
set_option maxRecDepth 100000 in
theorem spec_l12Take.calls (k : Nat) (a0 : Int) (A1 : Option Addr) (c1 : Nat) (l1 : List (S37)) (a2 : Int) (r1 : List (S37)) (r2 : Bool) (w : World) (hr1 : Kd.C k37 w A1 l1.length l1) (hc1 : l1.length ≤ c1) (h : spec_l12Take.f k a0 l1 a2 = some (r1, r2)) :
  Calls Try.prog 92 #[.int .i64 a0, .slice A1 l1.length c1, .int .i64 a2] w fun e w' => ∃ v0_ : Value, e = .returned (.tuple #[v0_, .bool r2]) ∧ Kd.R k37 37 w' w.heap.size (fun _ => True) v0_ r1 ∧ Below w.heap.size w w' := by
 have hu37 := Try.underlying37
 have HR1 := Az.mk hr1
 have HC1 := Az.mk hc1
 clear hr1 hc1
 have HB := Az.mk (Below.refl w.heap.size w)
 have H : (if 0 ≤ a0 then (if (a0 : Int).toNat ≤ 281474976710656 then (spec_l12Take.l0 k a0 l1 a2 (([] : List (S37))) (List.replicate (a0 : Int).toNat false)) else (none)) else (none)) = some (r1, r2) := h
 clear h
 obtain ⟨y682, hy682⟩ : ∃ y_ : List (S37), y_ = (([] : List (S37))) := ⟨_, rfl⟩
 replace H : (if 0 ≤ a0 then (if (a0 : Int).toNat ≤ 281474976710656 then (spec_l12Take.l0 k a0 l1 a2 y682 (List.replicate (a0 : Int).toNat false)) else (none)) else (none)) = some (r1, r2) := by first | (rw [hy682]; with_reducible exact H) | (have H2_ := (Option.bind_some _ _).symm.trans H; rw [hy682]; with_reducible exact H2_) | (have H2_ := (Option.bind_some _ _).symm.trans H; with_reducible exact H2_) | with_reducible exact H | (rw [hy682]; exact H) | exact H
 have Ny682 := Az.mk hy682
 clear hy682
 by_cases c4 : 0 ≤ a0
 ·rw [if_pos c4] at H
  have c4b0 := eq_true c4
  have c4b1 : decide (0 ≤ a0) = true := decide_eq_true c4
  clear c4
  by_cases c5 : (a0 : Int).toNat ≤ 281474976710656
  ·rw [if_pos c5] at H
   have c5b0 := eq_true c5
   have c5b1 : decide ((a0 : Int).toNat ≤ 281474976710656) = true := decide_eq_true c5
   clear c5
   obtain ⟨y685, hy685⟩ : ∃ y_ : List Bool, y_ = (List.replicate (a0 : Int).toNat false) := ⟨_, rfl⟩
   replace H : (spec_l12Take.l0 k a0 l1 a2 y682 y685) = some (r1, r2) := by first | (rw [hy685]; with_reducible exact H) | (have H2_ := (Option.bind_some _ _).symm.trans H; rw [hy685]; with_reducible exact H2_) | (have H2_ := (Option.bind_some _ _).symm.trans H; with_reducible exact H2_) | with_reducible exact H | (rw [hy685]; exact H) | exact H
   have Ny685 := Az.mk hy685
   clear hy685
   have H' := Az.mk H
   clear H
   go_enter Try.func92, Try.ntmps92
   go_wp2_with (first | ((with_reducible refine zqg (N := 16) rfl ?_); refine Kd.R_lit k37 _ 37 ?hg (N := 16) ?hd (xs := ([] : List (S37))) (inner := []) (ok := fun _ => True) (okp := fun _ => True) ?hr ?hp (fun _ hk => hk) trivial (Below.refl _ _) (Nat.le_refl _) (by simp) ?_; (case hd => rfl); (case hg => rfl); (case hr => first | (go_simp; done) | (go_simp; rfl)); (case hp => exact (Reps.none _ _)); intro v683 w6 ho7 hb hg_ hnew_; clear hg_ hnew_; (first | rw [← Ny682.out] at ho7 | (simp only [Int.reduceToNat] at ho7; rw [← Ny682.out] at ho7)); have n0_ := Az.mk (Kd.R_lower ho7 (below_size zB)); have n1_ := Az.mk (below_step zB hb); clear HB; have HO684 := n0_; have HB := n1_; clear n0_ n1_; clear hb ho7) | ((with_reducible refine zqg (N := 18) rfl ?_); refine Kd.R_make Kd.bool _ 4 rfl (N := 18) rfl 139 _ _ rfl a0 rfl rfl Try.underlying139 (.bool false) 1 info4 rfl (by decide) (by omega) false (ok := fun _ => True) (okp := fun _ => True) rfl (fun _ hk => hk) trivial (of_decide_eq_true (by first | (with_reducible assumption) | assumption)) (Nat.le_trans (Nat.mul_le_mul_right _ (of_decide_eq_true (by first | (with_reducible assumption) | assumption) : a0.toNat ≤ 281474976710656)) (by omega)) (Below.refl _ _) (Nat.le_refl _) ?_; intro v686 w8 ho9 hb hg_ hnew_; clear hg_ hnew_; (first | rw [← Ny685.out] at ho9 | (simp only [Int.reduceToNat] at ho9; rw [← Ny685.out] at ho9)); have n0_ := Az.mk (Kd.R_below (by (with_reducible repeat (first | apply Kd.R_alloc | apply Kd.R_drewN | apply Kd.R_drew)); exact HO684.out) hb); have n1_ := Az.mk (Kd.R_lower ho9 (below_size zB)); have n2_ := Az.mk (below_step zB hb); clear HO684; clear HB; have HO684 := n0_; have HO687 := n1_; have HB := n2_; clear n0_ n1_ n2_; clear hb ho9))
   go_loopg [8] k (fun kq v8 w' => ∃ (x8_1 : List (S37)) (x9_1 : List Bool), Az (spec_l12Take.l0 kq a0 l1 a2 x8_1 x9_1 = some (r1, r2)) ∧ Az (kq ≤ k) ∧ Az (Kd.R k37 37 w' w.heap.size (fun _ => True) v8 x8_1) ∧ Az (Kd.R Kd.bool 4 w' w.heap.size (fun _ => True) v686 x9_1) ∧ Az (Below w.heap.size w w'))
   case atStart => exact ⟨(y682), (y685), H', ⟨Nat.le_refl _⟩, ⟨by (with_reducible repeat (first | apply Kd.R_alloc | apply Kd.R_drewN | apply Kd.R_drew)); exact HO684.out⟩, ⟨by (with_reducible repeat (first | apply Kd.R_alloc | apply Kd.R_drewN | apply Kd.R_drew)); exact HO687.out⟩, ⟨by repeat (first | (with_reducible first | exact HB.out | apply zq2 | apply zq1 | apply zqd) | exact HB.out)⟩⟩
   case round =>
    clear H'
    try clear c1
    try clear p2
    try clear c4
    try clear c4b0
    try clear c4b1
    try clear c5
    try clear c5b0
    try clear c5b1
    try clear c9
    obtain ⟨x8_1, x9_1, HA, HK1, HO_8, HO_9, HB⟩ := hrel
    cases gk with
    | zero => exact absurd HA.out (by simp [spec_l12Take.l0])
    | succ k1 =>
     have H := HA.out
     clear HA
     simp only [spec_l12Take.l0] at H
     by_cases c10 : (x8_1.length : Int) < a2
     ·rw [if_pos c10] at H
      have c10b0 : decide ((x8_1.length : Int) < a2) = true := decide_eq_true c10
      clear c10
      have H' := Az.mk H
      clear H
      obtain ⟨Ao11, co11, eo11⟩ := Kd.R_slice HO_8.out
      subst eo11
      go_wp2_with (first | ((with_reducible refine zqg (N := 12) rfl ?_); refine zqb ?hg (N := 12) ?hd (cs := #[.int .i64 0, .int .i64 0]) (t := 37) ?hr ?_; (case hd => rfl); (case hg => rfl); (case hr => first | (go_simp; done) | (go_simp; rfl)); intro gb688 hg w12 hbox hb; have n0_ := Az.mk (Kd.R_below (Kd.R_elderB (by (with_reducible repeat (first | apply Kd.R_alloc | apply Kd.R_drewN | apply Kd.R_drew)); exact HO_8.out) gb688 (Nat.le_of_eq hg.symm)) hb); have n1_ := Az.mk (Kd.R_below (by (with_reducible repeat (first | apply Kd.R_alloc | apply Kd.R_drewN | apply Kd.R_drew)); exact HO_9.out) hb); have n2_ := Az.mk (below_step zB hb); have n3_ := Az.mk (hbox); have n4_ := Az.mk ((by rw [hg]; exact (below_size zB) : w.heap.size ≤ gb688)); have n5_ := Az.mk ((by rw [hg]; exact (below_size zB) : w.heap.size ≤ gb688)); clear HO_8; clear HO_9; clear HB; have HO_8 := n0_; have HO_9 := n1_; have HB := n2_; have BK688 := n3_; have GW688 := n4_; have GE688 := n5_; clear n0_ n1_ n2_ n3_ n4_ n5_; clear hb hbox hg; have hcz13_0 : w12.cell? ⟨gb688, 0, none⟩ = some (.int .i64 0) := (zq4 BK688.out 0).trans rfl; have hcz13_1 : w12.cell? ⟨gb688, 1, none⟩ = some (.int .i64 0) := (zq4 BK688.out 1).trans rfl; have hfz13_0 := zq5 BK688.out 0; have hfz13_1 := zq5 BK688.out 1))
      go_loopg [10, 11, 13] k1 (fun kq v10 v11 v13 w' => ∃ (x10_2 : Int) (x11_2 : Int) (x13_2 : Int) (x689000_2 : Int) (x689001_2 : Int), v10 = .int .i64 x10_2 ∧ v11 = .int .i64 x11_2 ∧ v13 = .int .i64 x13_2 ∧ Az (spec_l12Take.l1 kq a0 l1 a2 x8_1 x9_1 x10_2 x11_2 x13_2 x689000_2 x689001_2 = some (r1, r2)) ∧ Az (kq ≤ k1) ∧ Az (Kd.R k37 37 w' w.heap.size (fun k_ => k_ ≠ gb688) (.slice Ao11 x8_1.length co11) x8_1) ∧ Az (Kd.R Kd.bool 4 w' w.heap.size (fun _ => True) v686 x9_1) ∧ Az (w'.heap[gb688]? = some (.cells #[.int .i64 x689000_2, .int .i64 x689001_2] 37 (0, 0))) ∧ Az (Below w.heap.size w w'))
      case atStart => exact ⟨((-1)), (0), (0), (0), (0), (by first | rfl | (simp; done) | (simp [*]; done)), (by first | rfl | (simp; done) | (simp [*]; done)), (by first | rfl | (simp; done) | (simp [*]; done)), H', ⟨Nat.le_refl _⟩, ⟨by (with_reducible repeat (first | apply Kd.R_alloc | apply Kd.R_drewN | apply Kd.R_drew)); exact Kd.R_mono (Kd.R_far (p := ⟨gb688, 1, none⟩) (Kd.R_far (p := ⟨gb688, 0, none⟩) (Kd.R_mono HO_8.out (fun k_ hk => (⟨hk, hk.2⟩ : _ ∧ k_ ≠ gb688))) (fun _ hk => hk.2) (.int .i64 0)) (fun _ hk => hk.2) (.int .i64 0)) (fun _ hk => hk.1.2)⟩, ⟨by (with_reducible repeat (first | apply Kd.R_alloc | apply Kd.R_drewN | apply Kd.R_drew)); exact Kd.R_mono (Kd.R_far (p := ⟨gb688, 1, none⟩) (Kd.R_far (p := ⟨gb688, 0, none⟩) (Kd.R_types HO_9.out BK688.out (by decide)) (fun _ hk => hk.2) (.int .i64 0)) (fun _ hk => hk.2) (.int .i64 0)) (fun _ hk => trivial)⟩, ⟨by (with_reducible repeat (first | refine zq6 ?_ _ | refine zq8 ?_ | refine zq7 ?_ _)); refine blk_put (cs := #[.int .i64 0, .int .i64 0]) ?_ 1 _ rfl; (with_reducible repeat (first | refine zq6 ?_ _ | refine zq8 ?_ | refine zq7 ?_ _)); refine blk_put (cs := #[.int .i64 0, .int .i64 0]) ?_ 0 _ rfl; (with_reducible repeat (first | refine zq6 ?_ _ | refine zq8 ?_ | refine zq7 ?_ _)); exact BK688.out⟩, ⟨by repeat (first | (with_reducible first | exact HB.out | apply zq2 | apply zq1 | apply zqd | refine zq3 ?_ GE688.out) | exact HB.out)⟩⟩
      case round =>
       clear H'
       try clear c1
       try clear p2
       try clear c4
       try clear c4b0
       try clear c4b1
       try clear c5
       try clear c5b0
       try clear c5b1
       try clear c9
       try clear c10
       try clear c10b0
       try clear hcz13_0
       try clear hcz13_1
       try clear hfz13_0
       try clear hfz13_1
       try clear p2
       obtain ⟨x10_2, x11_2, x13_2, x689000_2, x689001_2, rfl, rfl, rfl, HA, HK2, HO_8, HO_9, BK688, HB⟩ := hrel
       cases gk with
       | zero => exact absurd HA.out (by simp [spec_l12Take.l1])
       | succ k2 =>
        have H := HA.out
        clear HA
        simp only [spec_l12Take.l1] at H
        by_cases c14 : x13_2 < a0
        ·rw [if_pos c14] at H
         have c14b0 : decide (x13_2 < a0) = true := decide_eq_true c14
         clear c14
         replace H := Option.bind_eq_some_iff.mp H
         obtain ⟨⟨t689, t690, t691⟩, A150, H⟩ := H
         replace H : (if 0 ≤ x13_2 then (if x13_2 < (x9_1.length : Int) then (if rdOf false x9_1 x13_2 = true then (spec_l12Take.l1 k2 a0 l1 a2 x8_1 x9_1 x10_2 x11_2 (wrap64 (x13_2 + 1)) x689000_2 x689001_2) else (if t689 > x11_2 then (spec_l12Take.l1 k2 a0 l1 a2 x8_1 x9_1 x13_2 t689 (wrap64 (x13_2 + 1)) t690 t691) else (spec_l12Take.l1 k2 a0 l1 a2 x8_1 x9_1 x10_2 x11_2 (wrap64 (x13_2 + 1)) x689000_2 x689001_2))) else (none)) else (none)) = some (r1, r2) := H
         have A15 := Az.mk A150
         clear A150
         by_cases c16 : 0 ≤ x13_2
         ·rw [if_pos c16] at H
          have c16b0 : decide (0 ≤ x13_2) = true := decide_eq_true c16
          clear c16
          by_cases c17 : x13_2 < (x9_1.length : Int)
          ·rw [if_pos c17] at H
           have c17b0 : decide (x13_2 < (x9_1.length : Int)) = true := decide_eq_true c17
           clear c17
           obtain ⟨bq18, hbq18⟩ : ∃ b_ : Bool, b_ = (rdOf false x9_1 x13_2) := ⟨_, rfl⟩
           replace H : (if bq18 = true then (spec_l12Take.l1 k2 a0 l1 a2 x8_1 x9_1 x10_2 x11_2 (wrap64 (x13_2 + 1)) x689000_2 x689001_2) else (if t689 > x11_2 then (spec_l12Take.l1 k2 a0 l1 a2 x8_1 x9_1 x13_2 t689 (wrap64 (x13_2 + 1)) t690 t691) else (spec_l12Take.l1 k2 a0 l1 a2 x8_1 x9_1 x10_2 x11_2 (wrap64 (x13_2 + 1)) x689000_2 x689001_2))) = some (r1, r2) := by rw [← hbq18] at H; exact H
           have Nbq18 := Az.mk hbq18
           clear hbq18
           by_cases c19 : bq18 = true
           ·subst c19
            have H1 : (spec_l12Take.l1 k2 a0 l1 a2 x8_1 x9_1 x10_2 x11_2 (wrap64 (x13_2 + 1)) x689000_2 x689001_2) = some (r1, r2) := by rw [if_pos rfl] at H; exact H
            clear H
            have H := H1
            clear H1
            have H' := Az.mk H
            clear H
            go_wp2_with (first | ((with_reducible refine gate_callee (f := 118) rfl ?_); refine zq9 (some 32) rfl rfl Try.func118 (by kernel_rfl) rfl #[.slice A1 l1.length c1, .int .i64 x13_2] rfl (by (try simp only [List.map_toArray, List.map_cons, List.map_nil]); first | done | rfl | (simp only [List.length_drop, List.length_take]; rfl)) ?_; (with_reducible refine (spec_l12Count.calls k2 _ _ l1 x13_2 t689 t690 t691 _ ?side1 ?side2 A15.out).mono ?_); (case side1 => repeat (first | exact (Kd.C_below HR1.out HB.out) | (with_reducible refine Kd.C_alloc ?_ _) | (with_reducible refine Kd.C_drewN ?_ _) | (with_reducible refine Kd.C_drew ?_))); (case side2 => exact HC1.out); rintro e w20 ⟨rfl, hb⟩; refine ⟨_, rfl, ?_⟩; have n0_ := Az.mk (Kd.R_below (by (with_reducible repeat (first | apply Kd.R_alloc | apply Kd.R_drewN | apply Kd.R_drew)); exact HO_8.out) hb); have n1_ := Az.mk (Kd.R_below (by (with_reducible repeat (first | apply Kd.R_alloc | apply Kd.R_drewN | apply Kd.R_drew)); exact HO_9.out) hb); have n2_ := Az.mk (blk_below (g := gb688) (o := .cells #[.int .i64 x689000_2, .int .i64 x689001_2] 37 (0, 0)) (by (with_reducible repeat (first | refine zq6 ?_ _ | refine zq8 ?_ | refine zq7 ?_ _)); exact BK688.out) hb); have n3_ := Az.mk (below_step (by repeat (first | (with_reducible first | exact HB.out | apply zq2 | apply zq1 | apply zqd | refine zq3 ?_ GE688.out) | exact HB.out)) hb); clear HO_8; clear HO_9; clear BK688; clear HB; have HO_8 := n0_; have HO_9 := n1_; have BK688 := n2_; have HB := n3_; clear n0_ n1_ n2_ n3_; (try clear hb); (try clear hb2); (try clear hk); (try clear hi)) | ((with_reducible refine zqg (N := 15) rfl ?_); refine zqb ?hg (N := 15) ?hd (cs := #[.int .i64 0, .int .i64 0]) (t := 37) ?hr ?_; (case hd => rfl); (case hg => rfl); (case hr => first | (go_simp; done) | (go_simp; rfl)); intro gb692 hg w21 hbox hb; have n0_ := Az.mk (Kd.R_below (Kd.R_elderB (by (with_reducible repeat (first | apply Kd.R_alloc | apply Kd.R_drewN | apply Kd.R_drew)); exact HO_8.out) gb692 (Nat.le_of_eq hg.symm)) hb); have n1_ := Az.mk (Kd.R_below (by (with_reducible repeat (first | apply Kd.R_alloc | apply Kd.R_drewN | apply Kd.R_drew)); exact HO_9.out) hb); have n2_ := Az.mk (blk_below (g := gb688) (o := .cells #[.int .i64 x689000_2, .int .i64 x689001_2] 37 (0, 0)) (by (with_reducible repeat (first | refine zq6 ?_ _ | refine zq8 ?_ | refine zq7 ?_ _)); exact BK688.out) hb); have n3_ := Az.mk (below_step (by repeat (first | (with_reducible first | exact HB.out | apply zq2 | apply zq1 | apply zqd | refine zq3 ?_ GE688.out) | exact HB.out)) hb); have n4_ := Az.mk (hbox); have n5_ := Az.mk ((by rw [hg]; exact (below_size (by repeat (first | (with_reducible first | exact HB.out | apply zq2 | apply zq1 | apply zqd | refine zq3 ?_ GE688.out) | exact HB.out))) : w.heap.size ≤ gb692)); have n6_ := Az.mk ((by rw [hg]; exact (below_size (by repeat (first | (with_reducible first | exact HB.out | apply zq2 | apply zq1 | apply zqd | refine zq3 ?_ GE688.out) | exact HB.out))) : w.heap.size ≤ gb692)); have n7_ := Az.mk ((by rw [hg]; exact Nat.ne_of_lt (blk_lt (g := gb688) (o := .cells #[.int .i64 x689000_2, .int .i64 x689001_2] 37 (0, 0)) (by (with_reducible repeat (first | refine zq6 ?_ _ | refine zq8 ?_ | refine zq7 ?_ _)); exact BK688.out)) : gb688 ≠ gb692)); have n8_ := Az.mk ((by rw [hg]; exact Nat.ne_of_gt (blk_lt (g := gb688) (o := .cells #[.int .i64 x689000_2, .int .i64 x689001_2] 37 (0, 0)) (by (with_reducible repeat (first | refine zq6 ?_ _ | refine zq8 ?_ | refine zq7 ?_ _)); exact BK688.out)) : gb692 ≠ gb688)); clear HO_8; clear HO_9; clear BK688; clear HB; have HO_8 := n0_; have HO_9 := n1_; have BK688 := n2_; have HB := n3_; have BK692 := n4_; have GW692 := n5_; have GE692 := n6_; have NB688_692 := n7_; have NB692_688 := n8_; clear n0_ n1_ n2_ n3_ n4_ n5_ n6_ n7_ n8_; clear hb hbox hg; have hnb22 := NB692_688.out; have hnc22 := NB688_692.out; have hcz23_0 : w21.cell? ⟨gb692, 0, none⟩ = some (.int .i64 0) := (zq4 BK692.out 0).trans rfl; have hcz23_1 : w21.cell? ⟨gb692, 1, none⟩ = some (.int .i64 0) := (zq4 BK692.out 1).trans rfl; have hfz23_0 := zq5 BK692.out 0; have hfz23_1 := zq5 BK692.out 1; obtain ⟨Ao24, co24, eo24⟩ := Kd.R_slice HO_9.out; subst eo24; have p693 : 0 ≤ (x13_2 : Int) := of_decide_eq_true (by first | (with_reducible assumption) | assumption); have q693 : x13_2 < (x9_1.length : Int) := of_decide_eq_true (by first | (with_reducible assumption) | assumption); obtain ⟨ad693, e693, hx693_0⟩ := Kd.at_bool (Kd.R_reads' HO_9.out).2.2 x13_2 p693 q693; (try rw [← Nbq18.out] at hx693_0); cases e693; have hn693_0 : ad693.block ≠ gb692 := Kd.own_blk (Kd.R_ne HO_9.out BK692.out (by decide)); have hn693_1 : ad693.block ≠ gb692 := Kd.own_blk (Kd.R_ne HO_9.out BK692.out (by decide)); replace hx693_0 := (cell_far (p := ⟨gb692, 0, none⟩) (by first | (rw [add_block]; exact hn693_0) | (show (Addr.add _ _).block ≠ _; rw [add_block]; exact hn693_0) | exact hn693_0) (.int .i64 t690)).trans hx693_0; replace hx693_0 := (cell_far (p := ⟨gb692, 1, none⟩) (by first | (rw [add_block]; exact hn693_1) | (show (Addr.add _ _).block ≠ _; rw [add_block]; exact hn693_1) | exact hn693_1) (.int .i64 t691)).trans hx693_0; clear hn693_0; clear hn693_1; replace p693 := eq_true p693; replace q693 := eq_true q693))
            go_roundg k2
            case measure => have := HK1.out; have := HK2.out; omega
            case rel => exact ⟨(x10_2), (x11_2), (wrap64 (x13_2 + 1)), (x689000_2), (x689001_2), (by first | rfl | (simp; done) | (simp [*]; done)), (by first | rfl | (simp; done) | (simp [*]; done)), (by first | rfl | (simp; done) | (simp [*]; done)), H', ⟨by have := HK1.out; have := HK2.out; omega⟩, ⟨by (with_reducible repeat (first | apply Kd.R_alloc | apply Kd.R_drewN | apply Kd.R_drew)); exact Kd.R_mono (Kd.R_far (p := ⟨gb692, 1, none⟩) (Kd.R_far (p := ⟨gb692, 0, none⟩) (Kd.R_mono HO_8.out (fun k_ hk => (⟨hk, hk.2⟩ : _ ∧ k_ ≠ gb692))) (fun _ hk => hk.2) (.int .i64 t690)) (fun _ hk => hk.2) (.int .i64 t691)) (fun _ hk => hk.1.1)⟩, ⟨by (with_reducible repeat (first | apply Kd.R_alloc | apply Kd.R_drewN | apply Kd.R_drew)); exact Kd.R_mono (Kd.R_far (p := ⟨gb692, 1, none⟩) (Kd.R_far (p := ⟨gb692, 0, none⟩) (Kd.R_types HO_9.out BK692.out (by decide)) (fun _ hk => hk.2) (.int .i64 t690)) (fun _ hk => hk.2) (.int .i64 t691)) (fun _ hk => trivial)⟩, ⟨by (with_reducible repeat (first | refine zq6 ?_ _ | refine zq8 ?_ | refine zq7 ?_ _)); refine blk_far ?_ NB688_692.out _; (with_reducible repeat (first | refine zq6 ?_ _ | refine zq8 ?_ | refine zq7 ?_ _)); refine blk_far ?_ NB688_692.out _; (with_reducible repeat (first | refine zq6 ?_ _ | refine zq8 ?_ | refine zq7 ?_ _)); exact BK688.out⟩, ⟨by repeat (first | (with_reducible first | exact HB.out | apply zq2 | apply zq1 | apply zqd | refine zq3 ?_ GE688.out | refine zq3 ?_ GE692.out) | exact HB.out)⟩⟩
           ·replace c19 := Bool.eq_false_iff.mpr c19
            subst c19
            have H1 : (if t689 > x11_2 then (spec_l12Take.l1 k2 a0 l1 a2 x8_1 x9_1 x13_2 t689 (wrap64 (x13_2 + 1)) t690 t691) else (spec_l12Take.l1 k2 a0 l1 a2 x8_1 x9_1 x10_2 x11_2 (wrap64 (x13_2 + 1)) x689000_2 x689001_2)) = some (r1, r2) := by rw [if_neg (show ¬ (false = true) by decide)] at H; exact H
            clear H
            have H := H1
            clear H1
            by_cases c25 : t689 > x11_2
            ·rw [if_pos c25] at H
             have c25b0 : decide (x11_2 < t689) = true := decide_eq_true c25
             clear c25
             have H' := Az.mk H
             clear H
             go_wp2_with (first | ((with_reducible refine gate_callee (f := 118) rfl ?_); refine zq9 (some 32) rfl rfl Try.func118 (by kernel_rfl) rfl #[.slice A1 l1.length c1, .int .i64 x13_2] rfl (by (try simp only [List.map_toArray, List.map_cons, List.map_nil]); first | done | rfl | (simp only [List.length_drop, List.length_take]; rfl)) ?_; (with_reducible refine (spec_l12Count.calls k2 _ _ l1 x13_2 t689 t690 t691 _ ?side1 ?side2 A15.out).mono ?_); (case side1 => repeat (first | exact (Kd.C_below HR1.out HB.out) | (with_reducible refine Kd.C_alloc ?_ _) | (with_reducible refine Kd.C_drewN ?_ _) | (with_reducible refine Kd.C_drew ?_))); (case side2 => exact HC1.out); rintro e w26 ⟨rfl, hb⟩; refine ⟨_, rfl, ?_⟩; have n0_ := Az.mk (Kd.R_below (by (with_reducible repeat (first | apply Kd.R_alloc | apply Kd.R_drewN | apply Kd.R_drew)); exact HO_8.out) hb); have n1_ := Az.mk (Kd.R_below (by (with_reducible repeat (first | apply Kd.R_alloc | apply Kd.R_drewN | apply Kd.R_drew)); exact HO_9.out) hb); have n2_ := Az.mk (blk_below (g := gb688) (o := .cells #[.int .i64 x689000_2, .int .i64 x689001_2] 37 (0, 0)) (by (with_reducible repeat (first | refine zq6 ?_ _ | refine zq8 ?_ | refine zq7 ?_ _)); exact BK688.out) hb); have n3_ := Az.mk (below_step (by repeat (first | (with_reducible first | exact HB.out | apply zq2 | apply zq1 | apply zqd | refine zq3 ?_ GE688.out) | exact HB.out)) hb); clear HO_8; clear HO_9; clear BK688; clear HB; have HO_8 := n0_; have HO_9 := n1_; have BK688 := n2_; have HB := n3_; clear n0_ n1_ n2_ n3_; (try clear hb); (try clear hb2); (try clear hk); (try clear hi)) | ((with_reducible refine zqg (N := 15) rfl ?_); refine zqb ?hg (N := 15) ?hd (cs := #[.int .i64 0, .int .i64 0]) (t := 37) ?hr ?_; (case hd => rfl); (case hg => rfl); (case hr => first | (go_simp; done) | (go_simp; rfl)); intro gb692 hg w27 hbox hb; have n0_ := Az.mk (Kd.R_below (Kd.R_elderB (by (with_reducible repeat (first | apply Kd.R_alloc | apply Kd.R_drewN | apply Kd.R_drew)); exact HO_8.out) gb692 (Nat.le_of_eq hg.symm)) hb); have n1_ := Az.mk (Kd.R_below (by (with_reducible repeat (first | apply Kd.R_alloc | apply Kd.R_drewN | apply Kd.R_drew)); exact HO_9.out) hb); have n2_ := Az.mk (blk_below (g := gb688) (o := .cells #[.int .i64 x689000_2, .int .i64 x689001_2] 37 (0, 0)) (by (with_reducible repeat (first | refine zq6 ?_ _ | refine zq8 ?_ | refine zq7 ?_ _)); exact BK688.out) hb); have n3_ := Az.mk (below_step (by repeat (first | (with_reducible first | exact HB.out | apply zq2 | apply zq1 | apply zqd | refine zq3 ?_ GE688.out) | exact HB.out)) hb); have n4_ := Az.mk (hbox); have n5_ := Az.mk ((by rw [hg]; exact (below_size (by repeat (first | (with_reducible first | exact HB.out | apply zq2 | apply zq1 | apply zqd | refine zq3 ?_ GE688.out) | exact HB.out))) : w.heap.size ≤ gb692)); have n6_ := Az.mk ((by rw [hg]; exact (below_size (by repeat (first | (with_reducible first | exact HB.out | apply zq2 | apply zq1 | apply zqd | refine zq3 ?_ GE688.out) | exact HB.out))) : w.heap.size ≤ gb692)); have n7_ := Az.mk ((by rw [hg]; exact Nat.ne_of_lt (blk_lt (g := gb688) (o := .cells #[.int .i64 x689000_2, .int .i64 x689001_2] 37 (0, 0)) (by (with_reducible repeat (first | refine zq6 ?_ _ | refine zq8 ?_ | refine zq7 ?_ _)); exact BK688.out)) : gb688 ≠ gb692)); have n8_ := Az.mk ((by rw [hg]; exact Nat.ne_of_gt (blk_lt (g := gb688) (o := .cells #[.int .i64 x689000_2, .int .i64 x689001_2] 37 (0, 0)) (by (with_reducible repeat (first | refine zq6 ?_ _ | refine zq8 ?_ | refine zq7 ?_ _)); exact BK688.out)) : gb692 ≠ gb688)); clear HO_8; clear HO_9; clear BK688; clear HB; have HO_8 := n0_; have HO_9 := n1_; have BK688 := n2_; have HB := n3_; have BK692 := n4_; have GW692 := n5_; have GE692 := n6_; have NB688_692 := n7_; have NB692_688 := n8_; clear n0_ n1_ n2_ n3_ n4_ n5_ n6_ n7_ n8_; clear hb hbox hg; have hnb28 := NB692_688.out; have hnc28 := NB688_692.out; have hcz29_0 : w27.cell? ⟨gb692, 0, none⟩ = some (.int .i64 0) := (zq4 BK692.out 0).trans rfl; have hcz29_1 : w27.cell? ⟨gb692, 1, none⟩ = some (.int .i64 0) := (zq4 BK692.out 1).trans rfl; have hfz29_0 := zq5 BK692.out 0; have hfz29_1 := zq5 BK692.out 1; obtain ⟨Ao30, co30, eo30⟩ := Kd.R_slice HO_9.out; subst eo30; have p693 : 0 ≤ (x13_2 : Int) := of_decide_eq_true (by first | (with_reducible assumption) | assumption); have q693 : x13_2 < (x9_1.length : Int) := of_decide_eq_true (by first | (with_reducible assumption) | assumption); obtain ⟨ad693, e693, hx693_0⟩ := Kd.at_bool (Kd.R_reads' HO_9.out).2.2 x13_2 p693 q693; (try rw [← Nbq18.out] at hx693_0); cases e693; have hn693_0 : ad693.block ≠ gb692 := Kd.own_blk (Kd.R_ne HO_9.out BK692.out (by decide)); have hn693_1 : ad693.block ≠ gb692 := Kd.own_blk (Kd.R_ne HO_9.out BK692.out (by decide)); replace hx693_0 := (cell_far (p := ⟨gb692, 0, none⟩) (by first | (rw [add_block]; exact hn693_0) | (show (Addr.add _ _).block ≠ _; rw [add_block]; exact hn693_0) | exact hn693_0) (.int .i64 t690)).trans hx693_0; replace hx693_0 := (cell_far (p := ⟨gb692, 1, none⟩) (by first | (rw [add_block]; exact hn693_1) | (show (Addr.add _ _).block ≠ _; rw [add_block]; exact hn693_1) | exact hn693_1) (.int .i64 t691)).trans hx693_0; clear hn693_0; clear hn693_1; replace p693 := eq_true p693; replace q693 := eq_true q693; have hcz31_0 : w27.cell? ⟨gb688, 0, none⟩ = some (.int .i64 x689000_2) := (zq4 BK688.out 0).trans rfl; have hcz31_1 : w27.cell? ⟨gb688, 1, none⟩ = some (.int .i64 x689001_2) := (zq4 BK688.out 1).trans rfl; have hfz31_0 := zq5 BK688.out 0; have hfz31_1 := zq5 BK688.out 1))
             go_roundg k2
             case measure => have := HK1.out; have := HK2.out; omega
             case rel => exact ⟨(x13_2), (t689), (wrap64 (x13_2 + 1)), (t690), (t691), (by first | rfl | (simp; done) | (simp [*]; done)), (by first | rfl | (simp; done) | (simp [*]; done)), (by first | rfl | (simp; done) | (simp [*]; done)), H', ⟨by have := HK1.out; have := HK2.out; omega⟩, ⟨by (with_reducible repeat (first | apply Kd.R_alloc | apply Kd.R_drewN | apply Kd.R_drew)); exact Kd.R_mono (Kd.R_far (p := ⟨gb688, 1, none⟩) (Kd.R_far (p := ⟨gb688, 0, none⟩) (Kd.R_far (p := ⟨gb692, 1, none⟩) (Kd.R_far (p := ⟨gb692, 0, none⟩) (Kd.R_mono (Kd.R_mono HO_8.out (fun k_ hk => (⟨hk, hk.2⟩ : _ ∧ k_ ≠ gb692))) (fun k_ hk => (⟨hk, hk.1.1⟩ : _ ∧ k_ ≠ gb688))) (fun _ hk => hk.1.2) (.int .i64 t690)) (fun _ hk => hk.1.2) (.int .i64 t691)) (fun _ hk => hk.2) (.int .i64 t690)) (fun _ hk => hk.2) (.int .i64 t691)) (fun _ hk => hk.1.1.1)⟩, ⟨by (with_reducible repeat (first | apply Kd.R_alloc | apply Kd.R_drewN | apply Kd.R_drew)); exact Kd.R_mono (Kd.R_far (p := ⟨gb688, 1, none⟩) (Kd.R_far (p := ⟨gb688, 0, none⟩) (Kd.R_far (p := ⟨gb692, 1, none⟩) (Kd.R_far (p := ⟨gb692, 0, none⟩) (Kd.R_types (Kd.R_types HO_9.out BK692.out (by decide)) BK688.out (by decide)) (fun _ hk => hk.1.2) (.int .i64 t690)) (fun _ hk => hk.1.2) (.int .i64 t691)) (fun _ hk => hk.2) (.int .i64 t690)) (fun _ hk => hk.2) (.int .i64 t691)) (fun _ hk => trivial)⟩, ⟨by (with_reducible repeat (first | refine zq6 ?_ _ | refine zq8 ?_ | refine zq7 ?_ _)); refine blk_put (cs := #[.int .i64 t690, .int .i64 x689001_2]) ?_ 1 _ rfl; (with_reducible repeat (first | refine zq6 ?_ _ | refine zq8 ?_ | refine zq7 ?_ _)); refine blk_put (cs := #[.int .i64 x689000_2, .int .i64 x689001_2]) ?_ 0 _ rfl; (with_reducible repeat (first | refine zq6 ?_ _ | refine zq8 ?_ | refine zq7 ?_ _)); refine blk_far ?_ NB688_692.out _; (with_reducible repeat (first | refine zq6 ?_ _ | refine zq8 ?_ | refine zq7 ?_ _)); refine blk_far ?_ NB688_692.out _; (with_reducible repeat (first | refine zq6 ?_ _ | refine zq8 ?_ | refine zq7 ?_ _)); exact BK688.out⟩, ⟨by repeat (first | (with_reducible first | exact HB.out | apply zq2 | apply zq1 | apply zqd | refine zq3 ?_ GE688.out | refine zq3 ?_ GE692.out) | exact HB.out)⟩⟩
            ·rw [if_neg c25] at H
             have c25b0 : decide (x11_2 < t689) = false := decide_eq_false c25
             clear c25
             have H' := Az.mk H
             clear H
             go_wp2_with (first | ((with_reducible refine gate_callee (f := 118) rfl ?_); refine zq9 (some 32) rfl rfl Try.func118 (by kernel_rfl) rfl #[.slice A1 l1.length c1, .int .i64 x13_2] rfl (by (try simp only [List.map_toArray, List.map_cons, List.map_nil]); first | done | rfl | (simp only [List.length_drop, List.length_take]; rfl)) ?_; (with_reducible refine (spec_l12Count.calls k2 _ _ l1 x13_2 t689 t690 t691 _ ?side1 ?side2 A15.out).mono ?_); (case side1 => repeat (first | exact (Kd.C_below HR1.out HB.out) | (with_reducible refine Kd.C_alloc ?_ _) | (with_reducible refine Kd.C_drewN ?_ _) | (with_reducible refine Kd.C_drew ?_))); (case side2 => exact HC1.out); rintro e w32 ⟨rfl, hb⟩; refine ⟨_, rfl, ?_⟩; have n0_ := Az.mk (Kd.R_below (by (with_reducible repeat (first | apply Kd.R_alloc | apply Kd.R_drewN | apply Kd.R_drew)); exact HO_8.out) hb); have n1_ := Az.mk (Kd.R_below (by (with_reducible repeat (first | apply Kd.R_alloc | apply Kd.R_drewN | apply Kd.R_drew)); exact HO_9.out) hb); have n2_ := Az.mk (blk_below (g := gb688) (o := .cells #[.int .i64 x689000_2, .int .i64 x689001_2] 37 (0, 0)) (by (with_reducible repeat (first | refine zq6 ?_ _ | refine zq8 ?_ | refine zq7 ?_ _)); exact BK688.out) hb); have n3_ := Az.mk (below_step (by repeat (first | (with_reducible first | exact HB.out | apply zq2 | apply zq1 | apply zqd | refine zq3 ?_ GE688.out) | exact HB.out)) hb); clear HO_8; clear HO_9; clear BK688; clear HB; have HO_8 := n0_; have HO_9 := n1_; have BK688 := n2_; have HB := n3_; clear n0_ n1_ n2_ n3_; (try clear hb); (try clear hb2); (try clear hk); (try clear hi)) | ((with_reducible refine zqg (N := 15) rfl ?_); refine zqb ?hg (N := 15) ?hd (cs := #[.int .i64 0, .int .i64 0]) (t := 37) ?hr ?_; (case hd => rfl); (case hg => rfl); (case hr => first | (go_simp; done) | (go_simp; rfl)); intro gb692 hg w33 hbox hb; have n0_ := Az.mk (Kd.R_below (Kd.R_elderB (by (with_reducible repeat (first | apply Kd.R_alloc | apply Kd.R_drewN | apply Kd.R_drew)); exact HO_8.out) gb692 (Nat.le_of_eq hg.symm)) hb); have n1_ := Az.mk (Kd.R_below (by (with_reducible repeat (first | apply Kd.R_alloc | apply Kd.R_drewN | apply Kd.R_drew)); exact HO_9.out) hb); have n2_ := Az.mk (blk_below (g := gb688) (o := .cells #[.int .i64 x689000_2, .int .i64 x689001_2] 37 (0, 0)) (by (with_reducible repeat (first | refine zq6 ?_ _ | refine zq8 ?_ | refine zq7 ?_ _)); exact BK688.out) hb); have n3_ := Az.mk (below_step (by repeat (first | (with_reducible first | exact HB.out | apply zq2 | apply zq1 | apply zqd | refine zq3 ?_ GE688.out) | exact HB.out)) hb); have n4_ := Az.mk (hbox); have n5_ := Az.mk ((by rw [hg]; exact (below_size (by repeat (first | (with_reducible first | exact HB.out | apply zq2 | apply zq1 | apply zqd | refine zq3 ?_ GE688.out) | exact HB.out))) : w.heap.size ≤ gb692)); have n6_ := Az.mk ((by rw [hg]; exact (below_size (by repeat (first | (with_reducible first | exact HB.out | apply zq2 | apply zq1 | apply zqd | refine zq3 ?_ GE688.out) | exact HB.out))) : w.heap.size ≤ gb692)); have n7_ := Az.mk ((by rw [hg]; exact Nat.ne_of_lt (blk_lt (g := gb688) (o := .cells #[.int .i64 x689000_2, .int .i64 x689001_2] 37 (0, 0)) (by (with_reducible repeat (first | refine zq6 ?_ _ | refine zq8 ?_ | refine zq7 ?_ _)); exact BK688.out)) : gb688 ≠ gb692)); have n8_ := Az.mk ((by rw [hg]; exact Nat.ne_of_gt (blk_lt (g := gb688) (o := .cells #[.int .i64 x689000_2, .int .i64 x689001_2] 37 (0, 0)) (by (with_reducible repeat (first | refine zq6 ?_ _ | refine zq8 ?_ | refine zq7 ?_ _)); exact BK688.out)) : gb692 ≠ gb688)); clear HO_8; clear HO_9; clear BK688; clear HB; have HO_8 := n0_; have HO_9 := n1_; have BK688 := n2_; have HB := n3_; have BK692 := n4_; have GW692 := n5_; have GE692 := n6_; have NB688_692 := n7_; have NB692_688 := n8_; clear n0_ n1_ n2_ n3_ n4_ n5_ n6_ n7_ n8_; clear hb hbox hg; have hnb34 := NB692_688.out; have hnc34 := NB688_692.out; have hcz35_0 : w33.cell? ⟨gb692, 0, none⟩ = some (.int .i64 0) := (zq4 BK692.out 0).trans rfl; have hcz35_1 : w33.cell? ⟨gb692, 1, none⟩ = some (.int .i64 0) := (zq4 BK692.out 1).trans rfl; have hfz35_0 := zq5 BK692.out 0; have hfz35_1 := zq5 BK692.out 1; obtain ⟨Ao36, co36, eo36⟩ := Kd.R_slice HO_9.out; subst eo36; have p693 : 0 ≤ (x13_2 : Int) := of_decide_eq_true (by first | (with_reducible assumption) | assumption); have q693 : x13_2 < (x9_1.length : Int) := of_decide_eq_true (by first | (with_reducible assumption) | assumption); obtain ⟨ad693, e693, hx693_0⟩ := Kd.at_bool (Kd.R_reads' HO_9.out).2.2 x13_2 p693 q693; (try rw [← Nbq18.out] at hx693_0); cases e693; have hn693_0 : ad693.block ≠ gb692 := Kd.own_blk (Kd.R_ne HO_9.out BK692.out (by decide)); have hn693_1 : ad693.block ≠ gb692 := Kd.own_blk (Kd.R_ne HO_9.out BK692.out (by decide)); replace hx693_0 := (cell_far (p := ⟨gb692, 0, none⟩) (by first | (rw [add_block]; exact hn693_0) | (show (Addr.add _ _).block ≠ _; rw [add_block]; exact hn693_0) | exact hn693_0) (.int .i64 t690)).trans hx693_0; replace hx693_0 := (cell_far (p := ⟨gb692, 1, none⟩) (by first | (rw [add_block]; exact hn693_1) | (show (Addr.add _ _).block ≠ _; rw [add_block]; exact hn693_1) | exact hn693_1) (.int .i64 t691)).trans hx693_0; clear hn693_0; clear hn693_1; replace p693 := eq_true p693; replace q693 := eq_true q693))
             go_roundg k2
             case measure => have := HK1.out; have := HK2.out; omega
             case rel => exact ⟨(x10_2), (x11_2), (wrap64 (x13_2 + 1)), (x689000_2), (x689001_2), (by first | rfl | (simp; done) | (simp [*]; done)), (by first | rfl | (simp; done) | (simp [*]; done)), (by first | rfl | (simp; done) | (simp [*]; done)), H', ⟨by have := HK1.out; have := HK2.out; omega⟩, ⟨by (with_reducible repeat (first | apply Kd.R_alloc | apply Kd.R_drewN | apply Kd.R_drew)); exact Kd.R_mono (Kd.R_far (p := ⟨gb692, 1, none⟩) (Kd.R_far (p := ⟨gb692, 0, none⟩) (Kd.R_mono HO_8.out (fun k_ hk => (⟨hk, hk.2⟩ : _ ∧ k_ ≠ gb692))) (fun _ hk => hk.2) (.int .i64 t690)) (fun _ hk => hk.2) (.int .i64 t691)) (fun _ hk => hk.1.1)⟩, ⟨by (with_reducible repeat (first | apply Kd.R_alloc | apply Kd.R_drewN | apply Kd.R_drew)); exact Kd.R_mono (Kd.R_far (p := ⟨gb692, 1, none⟩) (Kd.R_far (p := ⟨gb692, 0, none⟩) (Kd.R_types HO_9.out BK692.out (by decide)) (fun _ hk => hk.2) (.int .i64 t690)) (fun _ hk => hk.2) (.int .i64 t691)) (fun _ hk => trivial)⟩, ⟨by (with_reducible repeat (first | refine zq6 ?_ _ | refine zq8 ?_ | refine zq7 ?_ _)); refine blk_far ?_ NB688_692.out _; (with_reducible repeat (first | refine zq6 ?_ _ | refine zq8 ?_ | refine zq7 ?_ _)); refine blk_far ?_ NB688_692.out _; (with_reducible repeat (first | refine zq6 ?_ _ | refine zq8 ?_ | refine zq7 ?_ _)); exact BK688.out⟩, ⟨by repeat (first | (with_reducible first | exact HB.out | apply zq2 | apply zq1 | apply zqd | refine zq3 ?_ GE688.out | refine zq3 ?_ GE692.out) | exact HB.out)⟩⟩
          ·rw [if_neg c17] at H
           exact absurd H (by simp)
         ·rw [if_neg c16] at H
          exact absurd H (by simp)
        ·rw [if_neg c14] at H
         have c14b0 : decide (x13_2 < a0) = false := decide_eq_false c14
         clear c14
         by_cases c37 : x10_2 < 0
         ·rw [if_pos c37] at H
          have c37b0 : decide (x10_2 < 0) = true := decide_eq_true c37
          clear c37
          obtain ⟨y694, hy694⟩ : ∃ y_ : List (S37), y_ = (([] : List (S37))) := ⟨_, rfl⟩
          replace H : (some (y694, false)) = some (r1, r2) := by first | (rw [hy694]; with_reducible exact H) | (have H2_ := (Option.bind_some _ _).symm.trans H; rw [hy694]; with_reducible exact H2_) | (have H2_ := (Option.bind_some _ _).symm.trans H; with_reducible exact H2_) | with_reducible exact H | (rw [hy694]; exact H) | exact H
          have Ny694 := Az.mk hy694
          clear hy694
          simp only [Option.some.injEq, Prod.mk.injEq] at H
          obtain ⟨rfl, rfl⟩ := H
          go_wp2_with (first | ((with_reducible refine zqg (N := 50) rfl ?_); refine Kd.R_lit k37 _ 37 ?hg (N := 50) ?hd (xs := ([] : List (S37))) (inner := []) (ok := fun _ => True) (okp := fun _ => True) ?hr ?hp (fun _ hk => hk) trivial (Below.refl _ _) (Nat.le_refl _) (by simp) ?_; (case hd => rfl); (case hg => rfl); (case hr => first | (go_simp; done) | (go_simp; rfl)); (case hp => exact (Reps.none _ _)); intro v695 w38 ho39 hb hg_ hnew_; clear hg_ hnew_; (first | rw [← Ny694.out] at ho39 | (simp only [Int.reduceToNat] at ho39; rw [← Ny694.out] at ho39)); have n0_ := Az.mk (Kd.R_elder' (by (with_reducible repeat (first | apply Kd.R_alloc | apply Kd.R_drewN | apply Kd.R_drew)); exact HO_8.out) (Kd.R_base ho39) hb); have n1_ := Az.mk (Kd.R_below (by (with_reducible repeat (first | apply Kd.R_alloc | apply Kd.R_drewN | apply Kd.R_drew)); exact HO_9.out) hb); have n2_ := Az.mk (Kd.R_lower (Kd.R_newB (Kd.R_new' ho39 (Kd.R_lt (by (with_reducible repeat (first | apply Kd.R_alloc | apply Kd.R_drewN | apply Kd.R_drew)); exact HO_8.out))) (g := gb688) (o := .cells #[.int .i64 x689000_2, .int .i64 x689001_2] 37 (0, 0)) (by (with_reducible repeat (first | refine zq6 ?_ _ | refine zq8 ?_ | refine zq7 ?_ _)); exact BK688.out)) (below_size (by repeat (first | (with_reducible first | exact HB.out | apply zq2 | apply zq1 | apply zqd | refine zq3 ?_ GE688.out) | exact HB.out)))); have n3_ := Az.mk (blk_below (g := gb688) (o := .cells #[.int .i64 x689000_2, .int .i64 x689001_2] 37 (0, 0)) (by (with_reducible repeat (first | refine zq6 ?_ _ | refine zq8 ?_ | refine zq7 ?_ _)); exact BK688.out) hb); have n4_ := Az.mk (below_step (by repeat (first | (with_reducible first | exact HB.out | apply zq2 | apply zq1 | apply zqd | refine zq3 ?_ GE688.out) | exact HB.out)) hb); clear HO_8; clear HO_9; clear BK688; clear HB; have HO_8 := n0_; have HO_9 := n1_; have HO696 := n2_; have BK688 := n3_; have HB := n4_; clear n0_ n1_ n2_ n3_ n4_; clear hb ho39))
          go_ret2
          exact ⟨_, by first | rfl | (simp [errW_none, errW_some] <;> rfl) | (simp [*, errW_none, errW_some] <;> rfl), by (with_reducible repeat (first | apply Kd.R_alloc | apply Kd.R_drewN | apply Kd.R_drew)); exact Kd.R_mono HO696.out (fun _ hk => trivial), by repeat (first | (with_reducible first | exact HB.out | apply zq2 | apply zq1 | apply zqd | refine zq3 ?_ GE688.out) | exact HB.out)⟩
         ·rw [if_neg c37] at H
          have c37b0 : decide (x10_2 < 0) = false := decide_eq_false c37
          clear c37
          by_cases c40 : 0 ≤ x10_2
          ·rw [if_pos c40] at H
           have c40b0 : decide (0 ≤ x10_2) = true := decide_eq_true c40
           clear c40
           by_cases c41 : x10_2 < (x9_1.length : Int)
           ·rw [if_pos c41] at H
            have c41b0 : decide (x10_2 < (x9_1.length : Int)) = true := decide_eq_true c41
            clear c41
            obtain ⟨y697, hy697⟩ : ∃ y_ : List Bool, y_ = (x9_1.set (x10_2 : Int).toNat true) := ⟨_, rfl⟩
            replace H : (if x8_1.length < 8796093022208 then (spec_l12Take.l0 k2 a0 l1 a2 (x8_1 ++ [(⟨x689000_2, x689001_2⟩ : S37)]) y697) else (none)) = some (r1, r2) := by first | (rw [hy697]; with_reducible exact H) | (have H2_ := (Option.bind_some _ _).symm.trans H; rw [hy697]; with_reducible exact H2_) | (have H2_ := (Option.bind_some _ _).symm.trans H; with_reducible exact H2_) | with_reducible exact H | (rw [hy697]; exact H) | exact H
            have Ny697 := Az.mk hy697
            clear hy697
            by_cases c43 : x8_1.length < 8796093022208
            ·rw [if_pos c43] at H
             have LMc43 := Az.mk c43
             clear c43
             obtain ⟨y698, hy698⟩ : ∃ y_ : List (S37), y_ = (x8_1 ++ [(⟨x689000_2, x689001_2⟩ : S37)]) := ⟨_, rfl⟩
             replace H : (spec_l12Take.l0 k2 a0 l1 a2 y698 y697) = some (r1, r2) := by first | (rw [hy698]; with_reducible exact H) | (have H2_ := (Option.bind_some _ _).symm.trans H; rw [hy698]; with_reducible exact H2_) | (have H2_ := (Option.bind_some _ _).symm.trans H; with_reducible exact H2_) | with_reducible exact H | (rw [hy698]; exact H) | exact H
             have Ny698 := Az.mk hy698
             clear hy698
             have H' := Az.mk H
             clear H
             have p42 : 0 ≤ (x10_2 : Int) := of_decide_eq_true (by first | (with_reducible assumption) | assumption)
             have q42 : (x10_2 : Int) < ((x9_1.length : Int) : Int) := of_decide_eq_true (by first | (with_reducible assumption) | assumption)
             obtain ⟨go42, co42, eo42, gb42, gl42, cl42, HG42⟩ := Kd.R_form HO_9.out (by omega)
             (first | cases eo42 | (injection eo42 with ea_ en_ ec_; (first | subst ea_ | (injection ea_ with ea_; subst ea_)); subst ec_; clear en_))
             have GB42 := Az.mk gb42
             have GG42 := Az.mk HG42
             clear gb42 gl42 HG42
             obtain ⟨hx42_0, hf42_0⟩ := Kd.R_celln false HO_9.out (x10_2 : Int) p42 q42
             replace p42 := eq_true p42
             replace q42 := eq_true q42
             have HP44 := Kd.R_putg HO_9.out (x10_2 : Int) true
             go_wp2_with (first | ((with_reducible refine gate_store (t := 4) (p := 53) rfl ?_); refine store_event (t := 4) (p := 53) (v := ?vo_w45) (w1 := (wr.setCell ⟨go42, (x10_2 : Int).toNat, none⟩ (.bool true))) ?hg ?ho ?hn ?hr ?_; (case ho => rfl); (case hg => rfl); (case hn => rfl); (case hr => first | (go_simp; done) | (go_simp; rfl)); intro w45 hw; have hg : wr.grownBy w45 (some go42) := (by rw [hw]; exact HP44.2); have hp_ : Kd.R Kd.bool 4 w45 w.heap.size (fun _ => True) (.slice (some ⟨go42, 0, none⟩) x9_1.length co42) y697 := (by rw [hw, Ny697.out]; exact HP44.1); clear HP44; have n0_ := Az.mk (Kd.R_over' (v := (.slice (some ⟨go42, 0, none⟩) x9_1.length co42)) (by (with_reducible repeat (first | apply Kd.R_alloc | apply Kd.R_drewN | apply Kd.R_drew)); exact HO_8.out) (Kd.R_typed HO_9.out) (by decide) hg); have n1_ := Az.mk (hp_); have n2_ := Az.mk (blk_grown (g := gb688) (o := .cells #[.int .i64 x689000_2, .int .i64 x689001_2] 37 (0, 0)) (by (with_reducible repeat (first | refine zq6 ?_ _ | refine zq8 ?_ | refine zq7 ?_ _)); exact BK688.out) hg (Kd.R_ne HO_9.out BK688.out (by decide))); have n3_ := Az.mk ((by rw [hw]; exact zq3 (HB.out) GB42.out : Below w.heap.size w w45)); clear HO_8; clear HO_9; clear BK688; clear HB; have HO_8 := n0_; have HO_9 := n1_; have BK688 := n2_; have HB := n3_; clear n0_ n1_ n2_ n3_; clear hg hw hp_; have hcz46_0 : w45.cell? ⟨gb688, 0, none⟩ = some (.int .i64 x689000_2) := (zq4 BK688.out 0).trans rfl; have hcz46_1 : w45.cell? ⟨gb688, 1, none⟩ = some (.int .i64 x689001_2) := (zq4 BK688.out 1).trans rfl; have hfz46_0 := zq5 BK688.out 0; have hfz46_1 := zq5 BK688.out 1) | ((with_reducible refine gate_builtin (b := .append) (xs := #[.tmp 54, .tmp 56]) rfl ?_); at_builtin; refine Kd.R_append k37 (w0 := w) w.heap.size rfl (.tmp 54) (.tmp 56) 27 37 (.agg #[(.int .i64 0), (.int .i64 0)]) 16 rfl Try.underlying27 info37 rfl (by decide) (by omega) (.slice Ao11 x8_1.length co11) x8_1 (⟨x689000_2, x689001_2⟩ : S37) [.int .i64 x689000_2, .int .i64 x689001_2] (fun k_ => k_ ≠ gb688) (fun _ => False) rfl rfl ?aP (fun _ hk => hk.elim) ?aF ?aO ?aB ?aS ?aL ?_; (case aP => exact k37_mkM _ _ _ (⟨x689000_2, x689001_2⟩ : S37)); (case aB => exact (by repeat (first | (with_reducible first | exact HB.out | apply zq2 | apply zq1 | apply zqd | refine zq3 ?_ GE688.out) | exact HB.out))); (case aF => exact (fun k_ hk => Kd.freshB (g := gb688) (o := .cells #[.int .i64 x689000_2, .int .i64 x689001_2] 37 (0, 0)) (by (with_reducible repeat (first | refine zq6 ?_ _ | refine zq8 ?_ | refine zq7 ?_ _)); exact BK688.out) k_ hk)); (case aO => exact (by (with_reducible repeat (first | apply Kd.R_alloc | apply Kd.R_drewN | apply Kd.R_drew)); exact HO_8.out)); (case aS => exact (below_size (by repeat (first | (with_reducible first | exact HB.out | apply zq2 | apply zq1 | apply zqd | refine zq3 ?_ GE688.out) | exact HB.out)))); (case aL => have := LMc43.out; omega); intro v699 w47 ho hb hg hat; rw [← Ny698.out] at ho; have n0_ := Az.mk (Kd.R_over' (by (with_reducible repeat (first | apply Kd.R_alloc | apply Kd.R_drewN | apply Kd.R_drew)); exact HO_9.out) (Kd.R_typed (by (with_reducible repeat (first | apply Kd.R_alloc | apply Kd.R_drewN | apply Kd.R_drew)); exact HO_8.out)) (by decide) hg); have n1_ := Az.mk (blk_grown (g := gb688) (o := .cells #[.int .i64 x689000_2, .int .i64 x689001_2] 37 (0, 0)) (by (with_reducible repeat (first | refine zq6 ?_ _ | refine zq8 ?_ | refine zq7 ?_ _)); exact BK688.out) hg (Kd.R_away HO_8.out (fun _ hk => hk))); have n2_ := Az.mk (hb); have n3_ := Az.mk (ho); clear HO_9; clear BK688; clear HB; clear HO_8; have HO_9 := n0_; have BK688 := n1_; have HB := n2_; have HO700 := n3_; clear n0_ n1_ n2_ n3_; clear ho hb hg hat))
             go_roundg k2
             case measure => have := HK1.out; have := HK2.out; omega
             case rel => exact ⟨(y698), (y697), H', ⟨by have := HK1.out; have := HK2.out; omega⟩, ⟨by (with_reducible repeat (first | apply Kd.R_alloc | apply Kd.R_drewN | apply Kd.R_drew)); exact Kd.R_mono HO700.out (fun _ hk => trivial)⟩, ⟨by (with_reducible repeat (first | apply Kd.R_alloc | apply Kd.R_drewN | apply Kd.R_drew)); exact HO_9.out⟩, ⟨by repeat (first | (with_reducible first | exact HB.out | apply zq2 | apply zq1 | apply zqd | refine zq3 ?_ GE688.out) | exact HB.out)⟩⟩
            ·rw [if_neg c43] at H
             exact absurd H (by simp)
           ·rw [if_neg c41] at H
            exact absurd H (by simp)
          ·rw [if_neg c40] at H
           exact absurd H (by simp)
     ·rw [if_neg c10] at H
      have c10b0 : decide ((x8_1.length : Int) < a2) = false := decide_eq_false c10
      clear c10
      simp only [Option.some.injEq, Prod.mk.injEq] at H
      obtain ⟨rfl, rfl⟩ := H
      obtain ⟨Ao48, co48, eo48⟩ := Kd.R_slice HO_8.out
      subst eo48
      go_wp2
      go_ret2
      exact ⟨_, by first | rfl | (simp [errW_none, errW_some] <;> rfl) | (simp [*, errW_none, errW_some] <;> rfl), by (with_reducible repeat (first | apply Kd.R_alloc | apply Kd.R_drewN | apply Kd.R_drew)); exact HO_8.out, by repeat (first | (with_reducible first | exact HB.out | apply zq2 | apply zq1 | apply zqd) | exact HB.out)⟩
  ·rw [if_neg c5] at H
   exact absurd H (by simp)
 ·rw [if_neg c4] at H
  exact absurd H (by simp)
end Go.Proofs.Ytkoimmeghdbodaa.Print
namespace Go.Proofs.Ytkoimmeghdbodaa.Pure
open Go.RowKit Go.Lib Go.Sort Go.Proofs.Ytkoimmeghdbodaa.Print Go.Proofs.YtkoimmeghdbodaaW.PrintWords Go.Proofs.YtkoimmeghdbodaaW.PrintLast
def onD (d : Int) (x : S37) : Bool := decide (x.f0 = d)
theorem count_l0 (l : List S37) (hl : l.length ≤ 1000) (d : Int) (q : Nat) : ∀ (i n : Nat) (a : S37), i + q = l.length → n ≤ i →
    Ev (fun k => spec_l12Count.l0 k l d (n : Int) (i : Int) a.f0 a.f1) (((n + ((l.drop i).filter (onD d)).length : Nat) : Int), (if n = 0 then ((l.drop i).filter (onD d)).getD 0 a else a).f0, (if n = 0 then ((l.drop i).filter (onD d)).getD 0 a else a).f1) := by
  induction q with
  | zero =>
    intro i n a hi hn
    refine Ev.next ?_
    simp only [spec_l12Count.l0]
    refine Ev.neg (by omega) (Ev.ret ?_)
    rw [List.drop_of_length_le (by omega)]
    simp
  | succ q ih =>
    intro i n a hi hn
    have e : wrap64 ((i : Int) + 1) = ((i + 1 : Nat) : Int) := by rw [wrap_ok (by omega)]; omega
    have e2 : wrap64 ((n : Int) + 1) = ((n + 1 : Nat) : Int) := by rw [wrap_ok (by omega)]; omega
    have hd := drop_getD l z37 i (by omega)
    refine Ev.next ?_
    simp only [spec_l12Count.l0, e, e2, rd37n]
    clear e e2
    refine Ev.pos (by omega) (Ev.pos (by omega) ?_)
    by_cases c : (l.getD i z37).f0 = d
    · have h1 := ih (i + 1) (n + 1)
      refine Ev.pos c ?_
      rw [hd, List.filter_cons_of_pos (by unfold onD; simpa using c)]
      by_cases c2 : n = 0
      · have h := h1 (l.getD i z37) (by omega) (by omega)
        rw [if_neg (by omega)] at h
        rw [if_pos c2, List.length_cons, List.getD_cons_zero, show n + ((List.filter (onD d) (l.drop (i + 1))).length + 1) = n + 1 + (List.filter (onD d) (l.drop (i + 1))).length by omega]
        exact Ev.pos (by omega) h
      · have h := h1 a (by omega) (by omega)
        rw [if_neg (by omega)] at h
        rw [if_neg c2, List.length_cons, show n + ((List.filter (onD d) (l.drop (i + 1))).length + 1) = n + 1 + (List.filter (onD d) (l.drop (i + 1))).length by omega]
        exact Ev.neg (by omega) h
    · refine Ev.neg c ?_
      rw [hd, List.filter_cons_of_neg (by unfold onD; simpa using c)]
      exact ih (i + 1) n a (by omega) (by omega)
theorem count_ev (l : List S37) (hl : l.length ≤ 1000) (d : Int) : Ev (fun k => spec_l12Count.f k l d) (((l.filter (onD d)).length : Int), ((l.filter (onD d)).getD 0 z37).f0, ((l.filter (onD d)).getD 0 z37).f1) := by
  have h := count_l0 l hl d l.length 0 0 z37 (Nat.zero_add _) (Nat.le_refl _)
  rw [if_pos rfl, List.drop_zero, Nat.zero_add] at h
  exact h
theorem freeP_f0 {U : List S37} {e s : Nat} {x : S37} (h : x ∈ freeP U e s) : x.f0 = (e : Int) := by
  unfold freeP at h
  have := (List.mem_filter.1 h).1
  obtain ⟨t, _, rfl⟩ := List.mem_map.1 this
  rfl
theorem flatF_on (U : List S37) (d : Nat) : ∀ nn, (flatF U nn).filter (onD (d : Int)) = if d < nn then freeP U d 12 else [] := by
  intro nn
  induction nn with
  | zero => simp [flatF]
  | succ nn ih =>
    rw [flatF_succ, List.filter_append, ih]
    by_cases h : d = nn
    · subst h
      rw [if_neg (by omega), if_pos (by omega), List.nil_append, List.filter_eq_self.2]
      intro x hx
      unfold onD
      exact decide_eq_true (freeP_f0 hx)
    · have e : (freeP U nn 12).filter (onD (d : Int)) = [] := by
        rw [List.filter_eq_nil_iff]
        intro x hx
        unfold onD
        rw [decide_eq_true_iff, freeP_f0 hx]
        omega
      rw [e, List.append_nil]
      by_cases h2 : d < nn
      · rw [if_pos h2, if_pos (by omega)]
      · rw [if_neg h2, if_neg (by omega)]
def sB (L : Nat → List S37) : Nat → Int × Int × S37
  | 0 => (-1, 0, z37)
  | d + 1 => if ((L d).length : Int) > (sB L d).2.1 then ((d : Int), ((L d).length : Int), (L d).getD 0 z37) else sB L d
def sE (L : Nat → List S37) (b : Nat) : Int × Int × S37 := if (L b).length = 0 then (-1, 0, z37) else ((b : Int), ((L b).length : Int), (L b).getD 0 z37)
theorem sE_len (L : Nat → List S37) (b : Nat) : (sE L b).2.1 = ((L b).length : Int) := by
  unfold sE
  by_cases h : (L b).length = 0
  · rw [if_pos h, h]; rfl
  · rw [if_neg h]
theorem sB_pos (L : Nat → List S37) (d : Nat) : 0 ≤ (sB L d).2.1 := by
  induction d with
  | zero => exact Int.le_refl _
  | succ d ih =>
    unfold sB
    by_cases h : ((L d).length : Int) > (sB L d).2.1
    · rw [if_pos h]; exact Int.natCast_nonneg _
    · rw [if_neg h]; exact ih
theorem sB_eq (L : Nat → List S37) (d : Nat) : sB L (d + 1) = sE L (bestOf L (d + 1)) := by
  induction d with
  | zero =>
    have e : bestOf L (0 + 1) = 0 := by
      show (if (L (bestOf L 0)).length < (L 0).length then 0 else bestOf L 0) = 0
      by_cases h : (L (bestOf L 0)).length < (L 0).length
      · rw [if_pos h]
      · rw [if_neg h]; rfl
    rw [e]
    show (if ((L 0).length : Int) > 0 then (((0 : Nat) : Int), ((L 0).length : Int), (L 0).getD 0 z37) else (-1, 0, z37)) = sE L 0
    unfold sE
    by_cases h : (L 0).length = 0
    · rw [if_neg (by omega), if_pos h]
    · rw [if_pos (by omega), if_neg h]
  | succ d ih =>
    show (if ((L (d + 1)).length : Int) > (sB L (d + 1)).2.1 then (((d + 1 : Nat) : Int), ((L (d + 1)).length : Int), (L (d + 1)).getD 0 z37) else sB L (d + 1)) = sE L (if (L (bestOf L (d + 1))).length < (L (d + 1)).length then d + 1 else bestOf L (d + 1))
    rw [ih, sE_len]
    by_cases h : (L (bestOf L (d + 1))).length < (L (d + 1)).length
    · rw [if_pos (by omega), if_pos h]
      unfold sE
      rw [if_neg (by omega)]
    · rw [if_neg (by omega), if_neg h]
def Lu (U : List S37) (nn : Nat) (us : List Bool) : Nat → List S37 := fun e => if e < nn then (if us.getD e false = true then [] else freeP U e 12) else []
theorem Lu_set (U : List S37) (nn : Nat) (us : List Bool) (hl : us.length = nn) (b : Nat) (hb : b < nn) : upd (Lu U nn us) b [] = Lu U nn (us.set b true) := by
  funext e
  unfold upd Lu
  by_cases c : e = b
  · subst c
    rw [if_pos rfl, if_pos hb, if_pos]
    simp [List.getD, List.getElem?_set, hl, hb]
  · rw [if_neg c]
    by_cases c2 : e < nn
    · rw [if_pos c2, if_pos c2]
      have : (us.set b true).getD e false = us.getD e false := by
        simp only [List.getD, List.getElem?_set]
        rw [if_neg (fun h => c h.symm)]
      rw [this]
    · rw [if_neg c2, if_neg c2]
theorem Lu_none (U : List S37) (nn : Nat) : Lu U nn (List.replicate nn false) = Lst U nn 0 := by
  funext e
  unfold Lu Lst
  by_cases c : e < nn
  · rw [if_pos c, if_pos c, if_neg]
    simp [List.getD, List.getElem?_replicate, c]
  · rw [if_neg c, if_neg c]
    by_cases c2 : e = nn
    · rw [if_pos c2]; simp [freeP]
    · rw [if_neg c2]
theorem rdB (us : List Bool) (d : Nat) : rdOf false us (d : Int) = us.getD d false := by simp [rdOf]
section
variable {U : List S37} {nn : Nat} {n cols : Int} (h4 : nn ≤ 4) (h1 : 1 ≤ nn) (hn : n = (nn : Int))
include h4 h1 hn
theorem take_l1 {out : List S37} {us : List Bool} (hus : us.length = nn) (hout : out.length ≤ 4) {r : List S37 × Bool}
    (h0 : (Lu U nn us (bestOf (Lu U nn us) nn)).length = 0 → r = ([], false))
    (K : (Lu U nn us (bestOf (Lu U nn us) nn)).length ≠ 0 → Ev (fun k => spec_l12Take.l0 k n (flatF U nn) cols (out ++ [(Lu U nn us (bestOf (Lu U nn us) nn)).getD 0 z37]) (us.set (bestOf (Lu U nn us) nn) true)) r) (q : Nat) :
    ∀ d : Nat, d + q = nn → Ev (fun k => spec_l12Take.l1 k n (flatF U nn) cols out us (sB (Lu U nn us) d).1 (sB (Lu U nn us) d).2.1 (d : Int) (sB (Lu U nn us) d).2.2.f0 (sB (Lu U nn us) d).2.2.f1) r := by
  induction q with
  | zero =>
    intro d hd
    have hd : d = nn := by omega
    subst hd
    have hb := bestOf_lt (Lu U d us) (d - 1)
    have hs := sB_eq (Lu U d us) (d - 1)
    rw [show d - 1 + 1 = d by omega] at hs hb
    rw [hs]
    refine Ev.next ?_
    simp only [spec_l12Take.l1]
    refine Ev.neg (by omega) ?_
    unfold sE
    by_cases hz : (Lu U d us (bestOf (Lu U d us) d)).length = 0
    · rw [if_pos hz]
      exact Ev.pos (by decide) (Ev.ret (h0 hz).symm)
    · rw [if_neg hz]
      exact Ev.neg (by omega) (Ev.pos (by omega) (Ev.pos (by omega) (Ev.pos (by omega) (K hz))))
  | succ q ih =>
    intro d hd
    have e : wrap64 ((d : Int) + 1) = ((d + 1 : Nat) : Int) := by rw [wrap_ok (by omega)]; omega
    have hih := ih (d + 1) (by omega)
    have hlen := flatF_len U nn
    have hc := count_ev (flatF U nn) (by omega) (d : Int)
    rw [flatF_on, if_pos (by omega)] at hc
    have hp := sB_pos (Lu U nn us) d
    refine Ev.next ?_
    simp only [spec_l12Take.l1, e, rdB]
    clear e
    refine Ev.pos (by omega) (Ev.bind hc (Ev.pos (by omega) (Ev.pos (by omega) ?_)))
    dsimp only
    unfold sB at hih
    by_cases cu : us.getD d false = true
    · have hL : Lu U nn us d = [] := by unfold Lu; rw [if_pos (by omega), if_pos cu]
      rw [hL, if_neg (by simp only [List.length_nil]; omega)] at hih
      exact Ev.pos cu hih
    · have hL : Lu U nn us d = freeP U d 12 := by unfold Lu; rw [if_pos (by omega), if_neg cu]
      refine Ev.neg cu ?_
      rw [hL] at hih
      by_cases cm : ((freeP U d 12).length : Int) > (sB (Lu U nn us) d).2.1
      · rw [if_pos cm] at hih
        exact Ev.pos cm hih
      · rw [if_neg cm] at hih
        exact Ev.neg cm hih
theorem take_l0 (cc : Nat) (hcc : cc ≤ nn) (hcols : cols = (cc : Int)) (c : Nat) : ∀ (out : List S37) (us : List Bool), us.length = nn → out.length + c = cc →
    Ev (fun k => spec_l12Take.l0 k n (flatF U nn) cols out us) (takeG nn c (Lu U nn us) out) := by
  induction c with
  | zero =>
    intro out us hus ho
    refine Ev.next ?_
    simp only [spec_l12Take.l0]
    exact Ev.neg (by omega) (Ev.ret rfl)
  | succ c ih =>
    intro out us hus ho
    have hb := bestOf_lt (Lu U nn us) (nn - 1)
    rw [show nn - 1 + 1 = nn by omega] at hb
    refine Ev.next ?_
    simp only [spec_l12Take.l0]
    refine Ev.pos (by omega) (take_l1 h4 h1 hn hus (by omega) (fun hz => ?_) (fun hz => ?_) nn 0 (Nat.zero_add _))
    · unfold takeG
      rw [if_pos hz]
    · unfold takeG
      rw [if_neg hz, Lu_set U nn us hus _ hb, show (Lu U nn us (bestOf (Lu U nn us) nn)).getD 0 z37 = (Lu U nn us (bestOf (Lu U nn us) nn)).getD 0 z37 from rfl]
      exact ih _ _ (by rw [List.length_set]; exact hus) (by rw [List.length_append, List.length_singleton]; omega)
theorem take_ev (cc : Nat) (hcc : cc ≤ nn) (hcols : cols = (cc : Int)) : Ev (fun k => spec_l12Take.f k n (flatF U nn) cols) (takeG nn cc (Lst U nn 0) []) := by
  have h := take_l0 (U := U) h4 h1 hn cc hcc hcols cc [] (List.replicate nn false) (by simp) (by simp)
  rw [Lu_none] at h
  unfold spec_l12Take.f
  have e : (n : Int).toNat = nn := by omega
  rw [e]
  exact Ev.pos (by omega) (Ev.pos (by omega) h)
end
end Go.Proofs.Ytkoimmeghdbodaa.Pure
namespace Go.Proofs.Ytkoimmeghdbodaa.Print
open Go.RowKit Go.Lib Go.Maps Go.WideMaps Go.Proofs.YtkoimmeghdbodaaW.PrintWords Go.Proofs.YtkoimmeghdbodaaW.PrintLast Go.Proofs.YtkoimmeghdbodaaW.PrintMore Go.Proofs.Ytkoimmeghdbodaa.Pure
set_option maxHeartbeats 16000000 in
set_option maxRecDepth 100000 in
theorem sTake_call (n txa txb cols : Int) (Aa Ab : Option Addr) (ca cb : Nat) (la lb : List S65) (w : World)
    (hra : Kd.C k65 w Aa la.length la) (hca : la.length ≤ ca) (hFa : FitM la) (hrb : Kd.C k65 w Ab lb.length lb) (hcb : lb.length ≤ cb) (hFb : FitM lb) :
    Calls Try.prog 50 #[.int .i64 n, .agg #[.int .i64 txa, .slice Aa la.length ca], .agg #[.int .i64 txb, .slice Ab lb.length cb], .int .i64 cols] w fun e w' => ∃ v, e = .returned (.tuple #[v, .bool (takeI n txa txb cols la lb).2]) ∧ Kd.R k37 37 w' w.heap.size (fun _ => True) v (takeI n txa txb cols la lb).1 ∧ Below w.heap.size w w' := by
  have hu37 := Try.underlying37
  have hu57 := Try.underlying57
  have HROa := Az.mk (fun (W : World) (hb : Below w.heap.size w W) => sRoot_call n txa Aa ca la W (Kd.C_below hra hb) hca hFa)
  have HROb := Az.mk (fun (W : World) (hb : Below w.heap.size w W) => sRoot_call n txb Ab cb lb W (Kd.C_below hrb hb) hcb hFb)
  have H75 := Az.mk (fun W => spec_l6In.calls cols 1 n (decide (1 ≤ cols ∧ cols ≤ n)) W (l6In_eq _ _ _))
  have b1 : Blk (w.alloc (.cells #[.int .i64 txa, .slice Aa la.length ca] 57)) w.heap.size #[.int .i64 txa, .slice Aa la.length ca] 57 := Blk.made _ _ _
  have b2 := Blk.made (w.alloc (.cells #[.int .i64 txa, .slice Aa la.length ca] 57)) #[.int .i64 txb, .slice Ab lb.length cb] 57
  rw [World.size_alloc] at b2
  have b1 := b1.alloc (.cells #[.int .i64 txb, .slice Ab lb.length cb] 57)
  have hB0 : Below w.heap.size w ((w.alloc (.cells #[.int .i64 txa, .slice Aa la.length ca] 57)).alloc (.cells #[.int .i64 txb, .slice Ab lb.length cb] 57)) := by
    have h1 : Below w.heap.size w (w.alloc (.cells #[.int .i64 txa, .slice Aa la.length ca] 57)) := (Below.refl w.heap.size w).alloc (Nat.le_refl _) _
    exact h1.alloc (by simp) _
  have BA := Az.mk b1
  have BB := Az.mk b2
  have HB := Az.mk hB0
  have hca_0 := (BA.out.cell 0).trans rfl
  have hca_1 := (BA.out.cell 1).trans rfl
  have hcb_0 := (BB.out.cell 0).trans rfl
  have hcb_1 := (BB.out.cell 1).trans rfl
  have tk0 : True := trivial
  clear b1 b2 hB0
  have hsp : takeI n txa txb cols la lb = if (rootB n txa la && (rootB n txb lb && (decide (1 ≤ cols) && decide (cols ≤ n)))) = true then takeG n.toNat cols.toNat (Lst (rootPl n txa la ++ rootPl n txb lb) n.toNat 0) [] else ([], false) := rfl
  generalize takeI n txa txb cols la lb = res at hsp ⊢
  cases ea : rootB n txa la with
  | false =>
    rw [ea] at HROa hsp
    have HE : Az (res = ([], false)) := ⟨by rw [hsp]; rfl⟩
    clear ea H75
    clear hra hrb hca hcb hsp
    go_enter Try.func50, Try.ntmps50
    go_wp2_with (first | (go_at_call 36; have _tk := tk0; refine (HROa.out _ HB.out).mono ?_; rintro e w12 ⟨rfl, hb⟩; have BA2 := Az.mk (BA.out.below hb); have BB2 := Az.mk (BB.out.below hb); have HB2 := Az.mk (HB.out.trans (hb.mono HB.out.size)); clear BA BB HB hca_0 hca_1 hcb_0 hcb_1; have BA := BA2; have BB := BB2; have HB := HB2; clear BA2 BB2 HB2; have hca_0 := (BA.out.cell 0).trans rfl; have hca_1 := (BA.out.cell 1).trans rfl; have hcb_0 := (BB.out.cell 0).trans rfl; have hcb_1 := (BB.out.cell 1).trans rfl; clear hb; clear tk0 _tk; have tk1 : True := trivial) | ((with_reducible refine zqg (N := 26) rfl ?_); refine Kd.R_lit k37 _ 37 ?hg (N := 26) ?hd (xs := ([] : List S37)) (inner := []) (ok := fun _ => True) (okp := fun _ => True) ?hr ?hp (fun _ hk => hk) trivial (Below.refl _ _) (Nat.le_refl _) (by simp) ?_; (case hd => rfl); (case hg => rfl); (case hr => first | (go_simp; done) | (go_simp; rfl)); (case hp => exact (Reps.none _ _)); intro v26 w36 ho27 hb hg_ hnew_; have R26 := Az.mk ho27; have HB2 := Az.mk (HB.out.trans (hb.mono HB.out.size)); have HBZ := Az.mk HB.out.size; clear HB ho27 hb hg_ hnew_; have HB := HB2; clear HB2) | go_in)
    go_ret2
    exact ⟨v26, by rw [HE.out]; rfl, by rw [HE.out]; exact Kd.R_lower R26.out HBZ.out, HB.out⟩
  | true =>
    rw [ea] at HROa hsp
    cases eb : rootB n txb lb with
    | false =>
      rw [eb] at HROb hsp
      have HE : Az (res = ([], false)) := ⟨by rw [hsp]; rfl⟩
      clear ea eb H75
      clear hra hrb hca hcb hsp
      go_enter Try.func50, Try.ntmps50
      go_wp2_with (first | (go_at_call 36; have _tk := tk0; refine (HROa.out _ HB.out).mono ?_; rintro e w12 ⟨rfl, hb⟩; have BA2 := Az.mk (BA.out.below hb); have BB2 := Az.mk (BB.out.below hb); have HB2 := Az.mk (HB.out.trans (hb.mono HB.out.size)); clear BA BB HB hca_0 hca_1 hcb_0 hcb_1; have BA := BA2; have BB := BB2; have HB := HB2; clear BA2 BB2 HB2; have hca_0 := (BA.out.cell 0).trans rfl; have hca_1 := (BA.out.cell 1).trans rfl; have hcb_0 := (BB.out.cell 0).trans rfl; have hcb_1 := (BB.out.cell 1).trans rfl; clear hb; clear tk0 _tk; have tk1 : True := trivial) | (go_at_call 36; have _tk := tk1; refine (HROb.out _ HB.out).mono ?_; rintro e w17 ⟨rfl, hb⟩; have BA2 := Az.mk (BA.out.below hb); have BB2 := Az.mk (BB.out.below hb); have HB2 := Az.mk (HB.out.trans (hb.mono HB.out.size)); clear BA BB HB hca_0 hca_1 hcb_0 hcb_1; have BA := BA2; have BB := BB2; have HB := HB2; clear BA2 BB2 HB2; have hca_0 := (BA.out.cell 0).trans rfl; have hca_1 := (BA.out.cell 1).trans rfl; have hcb_0 := (BB.out.cell 0).trans rfl; have hcb_1 := (BB.out.cell 1).trans rfl; clear hb; clear tk1 _tk; have tk2 : True := trivial) | ((with_reducible refine zqg (N := 26) rfl ?_); refine Kd.R_lit k37 _ 37 ?hg (N := 26) ?hd (xs := ([] : List S37)) (inner := []) (ok := fun _ => True) (okp := fun _ => True) ?hr ?hp (fun _ hk => hk) trivial (Below.refl _ _) (Nat.le_refl _) (by simp) ?_; (case hd => rfl); (case hg => rfl); (case hr => first | (go_simp; done) | (go_simp; rfl)); (case hp => exact (Reps.none _ _)); intro v26 w36 ho27 hb hg_ hnew_; have R26 := Az.mk ho27; have HB2 := Az.mk (HB.out.trans (hb.mono HB.out.size)); have HBZ := Az.mk HB.out.size; clear HB ho27 hb hg_ hnew_; have HB := HB2; clear HB2) | go_in)
      go_ret2
      exact ⟨v26, by rw [HE.out]; rfl, by rw [HE.out]; exact Kd.R_lower R26.out HBZ.out, HB.out⟩
    | true =>
      rw [eb] at HROb hsp
      by_cases k1 : 1 ≤ cols ∧ cols ≤ n
      · rw [decide_eq_true k1] at H75
        rw [decide_eq_true k1.1, decide_eq_true k1.2] at hsp
        have sa := rootPl_small ea
        obtain ⟨nn, hnn⟩ := Int.eq_ofNat_of_zero_le (show 0 ≤ n by omega)
        obtain ⟨cc, hcc⟩ := Int.eq_ofNat_of_zero_le (show 0 ≤ cols by omega)
        have hnt : n.toNat = nn := by omega
        obtain ⟨U, hU⟩ : ∃ U, U = rootPl n txa la ++ rootPl n txb lb := ⟨_, rfl⟩
        obtain ⟨kf, hkf⟩ := Ev.rounds (free_ev ea eb hFa hFb)
        rw [hnt, ← hU] at hkf
        have HFR := Az.mk (fun (W : World) (hb : Below w.heap.size w W) => spec_l12Free.calls kf n txa Aa ca la txb Ab cb lb _ W (Kd.C_below hra hb) hca (Kd.C_below hrb hb) hcb hkf)
        obtain ⟨kt, hkt⟩ := Ev.rounds (take_ev (U := U) (by omega) (by omega) hnn cc (by omega) hcc)
        have HE : Az (res = takeG nn cc (Lst U nn 0) []) := ⟨by rw [hsp, hnt, ← hU, hcc]; rfl⟩
        have HTK := Az.mk (fun (A : Option Addr) (c : Nat) (W : World) (h : Kd.C k37 W A (flatF U nn).length (flatF U nn)) (hl : (flatF U nn).length ≤ c) => spec_l12Take.calls kt n A c (flatF U nn) cols (takeG nn cc (Lst U nn 0) []).1 (takeG nn cc (Lst U nn 0) []).2 W h hl hkt)
        clear hra hrb hca hcb hsp ea eb hkf hkt hFa hFb sa hnn hcc hnt hU k1
        go_enter Try.func50, Try.ntmps50
        go_wp2_with (first | (go_at_call 36; have _tk := tk0; refine (HROa.out _ HB.out).mono ?_; rintro e w12 ⟨rfl, hb⟩; have BA2 := Az.mk (BA.out.below hb); have BB2 := Az.mk (BB.out.below hb); have HB2 := Az.mk (HB.out.trans (hb.mono HB.out.size)); clear BA BB HB hca_0 hca_1 hcb_0 hcb_1; have BA := BA2; have BB := BB2; have HB := HB2; clear BA2 BB2 HB2; have hca_0 := (BA.out.cell 0).trans rfl; have hca_1 := (BA.out.cell 1).trans rfl; have hcb_0 := (BB.out.cell 0).trans rfl; have hcb_1 := (BB.out.cell 1).trans rfl; clear hb; clear tk0 _tk; have tk1 : True := trivial) | (go_at_call 36; have _tk := tk1; refine (HROb.out _ HB.out).mono ?_; rintro e w17 ⟨rfl, hb⟩; have BA2 := Az.mk (BA.out.below hb); have BB2 := Az.mk (BB.out.below hb); have HB2 := Az.mk (HB.out.trans (hb.mono HB.out.size)); clear BA BB HB hca_0 hca_1 hcb_0 hcb_1; have BA := BA2; have BB := BB2; have HB := HB2; clear BA2 BB2 HB2; have hca_0 := (BA.out.cell 0).trans rfl; have hca_1 := (BA.out.cell 1).trans rfl; have hcb_0 := (BB.out.cell 0).trans rfl; have hcb_1 := (BB.out.cell 1).trans rfl; clear hb; clear tk1 _tk; have tk2 : True := trivial) | (go_at_call 75; refine (H75.out _).mono ?_; rintro e w23 ⟨rfl, hd⟩; have hb := hd.below; have BA2 := Az.mk (BA.out.below hb); have BB2 := Az.mk (BB.out.below hb); have HB2 := Az.mk (HB.out.trans (hb.mono HB.out.size)); clear BA BB HB hca_0 hca_1 hcb_0 hcb_1; have BA := BA2; have BB := BB2; have HB := HB2; clear BA2 BB2 HB2; have hca_0 := (BA.out.cell 0).trans rfl; have hca_1 := (BA.out.cell 1).trans rfl; have hcb_0 := (BB.out.cell 0).trans rfl; have hcb_1 := (BB.out.cell 1).trans rfl; clear hb hd) | (go_at_call 91; refine (HFR.out _ HB.out).mono ?_; rintro e w31 ⟨v31, rfl, hR, hb⟩; obtain ⟨A31, c31, rfl, hl, hc⟩ := Kd.R_reads hR; have HR31 := Az.mk hc; have HL31 := Az.mk hl; have HB2 := Az.mk (HB.out.trans (hb.mono HB.out.size)); clear HB hR hb hl hc; have HB := HB2; clear HB2) | (go_at_call 92; refine (HTK.out A31 c31 _ HR31.out HL31.out).mono ?_; rintro e w33 ⟨v, rfl, hR, hb⟩; have R33 := Az.mk hR; have HBZ := Az.mk HB.out.size; have HB2 := Az.mk (HB.out.trans (hb.mono HB.out.size)); clear HB hR hb; have HB := HB2; clear HB2) | go_in)
        go_ret2
        exact ⟨v, by rw [HE.out]; rfl, by rw [HE.out]; exact Kd.R_lower R33.out HBZ.out, HB.out⟩
      · rw [decide_eq_false k1] at H75
        have HE : Az (res = ([], false)) := ⟨by
          rw [hsp]
          by_cases k2 : 1 ≤ cols
          · rw [decide_eq_false (show ¬ cols ≤ n from fun h => k1 ⟨k2, h⟩), Bool.and_false]; rfl
          · rw [decide_eq_false k2]; rfl⟩
        clear ea eb k1
        clear hra hrb hca hcb hsp
        go_enter Try.func50, Try.ntmps50
        go_wp2_with (first | (go_at_call 36; have _tk := tk0; refine (HROa.out _ HB.out).mono ?_; rintro e w12 ⟨rfl, hb⟩; have BA2 := Az.mk (BA.out.below hb); have BB2 := Az.mk (BB.out.below hb); have HB2 := Az.mk (HB.out.trans (hb.mono HB.out.size)); clear BA BB HB hca_0 hca_1 hcb_0 hcb_1; have BA := BA2; have BB := BB2; have HB := HB2; clear BA2 BB2 HB2; have hca_0 := (BA.out.cell 0).trans rfl; have hca_1 := (BA.out.cell 1).trans rfl; have hcb_0 := (BB.out.cell 0).trans rfl; have hcb_1 := (BB.out.cell 1).trans rfl; clear hb; clear tk0 _tk; have tk1 : True := trivial) | (go_at_call 36; have _tk := tk1; refine (HROb.out _ HB.out).mono ?_; rintro e w17 ⟨rfl, hb⟩; have BA2 := Az.mk (BA.out.below hb); have BB2 := Az.mk (BB.out.below hb); have HB2 := Az.mk (HB.out.trans (hb.mono HB.out.size)); clear BA BB HB hca_0 hca_1 hcb_0 hcb_1; have BA := BA2; have BB := BB2; have HB := HB2; clear BA2 BB2 HB2; have hca_0 := (BA.out.cell 0).trans rfl; have hca_1 := (BA.out.cell 1).trans rfl; have hcb_0 := (BB.out.cell 0).trans rfl; have hcb_1 := (BB.out.cell 1).trans rfl; clear hb; clear tk1 _tk; have tk2 : True := trivial) | (go_at_call 75; refine (H75.out _).mono ?_; rintro e w23 ⟨rfl, hd⟩; have hb := hd.below; have BA2 := Az.mk (BA.out.below hb); have BB2 := Az.mk (BB.out.below hb); have HB2 := Az.mk (HB.out.trans (hb.mono HB.out.size)); clear BA BB HB hca_0 hca_1 hcb_0 hcb_1; have BA := BA2; have BB := BB2; have HB := HB2; clear BA2 BB2 HB2; have hca_0 := (BA.out.cell 0).trans rfl; have hca_1 := (BA.out.cell 1).trans rfl; have hcb_0 := (BB.out.cell 0).trans rfl; have hcb_1 := (BB.out.cell 1).trans rfl; clear hb hd) | ((with_reducible refine zqg (N := 26) rfl ?_); refine Kd.R_lit k37 _ 37 ?hg (N := 26) ?hd (xs := ([] : List S37)) (inner := []) (ok := fun _ => True) (okp := fun _ => True) ?hr ?hp (fun _ hk => hk) trivial (Below.refl _ _) (Nat.le_refl _) (by simp) ?_; (case hd => rfl); (case hg => rfl); (case hr => first | (go_simp; done) | (go_simp; rfl)); (case hp => exact (Reps.none _ _)); intro v26 w36 ho27 hb hg_ hnew_; have R26 := Az.mk ho27; have HB2 := Az.mk (HB.out.trans (hb.mono HB.out.size)); have HBZ := Az.mk HB.out.size; clear HB ho27 hb hg_ hnew_; have HB := HB2; clear HB2) | go_in)
        go_ret2
        exact ⟨v26, by rw [HE.out]; rfl, by rw [HE.out]; exact Kd.R_lower R26.out HBZ.out, HB.out⟩
end Go.Proofs.Ytkoimmeghdbodaa.Print
namespace Go.Proofs.Ytkoimmeghdbodaa.Hd
open Go.RowKit Go.Proofs.Ytkoimmeghdbodaa.Print Go.Proofs.YtkoimmeghdbodaaW.PrintWords Go.Proofs.YtkoimmeghdbodaaW.PrintLast Go.Proofs.YtkoimmeghdbodaaW.PrintMore Go.Proofs.Ytkoimmeghdbodaa.Pure
theorem takeG_len (nn : Nat) : ∀ (c : Nat) (L : Nat → List S37) (out : List S37), (takeG nn c L out).1.length ≤ out.length + c := by
  intro c
  induction c with
  | zero =>
    intro L out
    exact Nat.le_refl _
  | succ c ih =>
    intro L out
    unfold takeG
    by_cases h : (L (bestOf L nn)).length = 0
    · rw [if_pos h]
      exact Nat.zero_le _
    · rw [if_neg h]
      have := ih (upd L (bestOf L nn) []) (out ++ [(L (bestOf L nn)).getD 0 z37])
      rw [List.length_append, List.length_singleton] at this
      omega
theorem takeI_len (n txa txb cols : Int) (la lb : List S65) {rl : List S37} {rb : Bool} (h : takeI n txa txb cols la lb = (rl, rb)) : rl.length ≤ 1048576 := by
  have e : rl = (takeI n txa txb cols la lb).1 := by rw [h]
  rw [e]
  unfold takeI
  by_cases c : (rootB n txa la && (rootB n txb lb && (decide (1 ≤ cols) && decide (cols ≤ n)))) = true
  · rw [if_pos c]
    have hl := takeG_len n.toNat cols.toNat (Lst (rootPl n txa la ++ rootPl n txb lb) n.toNat 0) []
    simp only [Bool.and_eq_true, decide_eq_true_iff] at c
    have := rootPl_small c.1
    rw [List.length_nil] at hl
    omega
  · rw [if_neg c]
    exact Nat.zero_le _
theorem specTk_call (n txa txb cols : Int) {Da Db : List S65} {rl : List S37} {rb : Bool} (hE : takeI n txa txb cols Da Db = (rl, rb)) (hFa : FitM Da) (hFb : FitM Db) {w : World} {Ma Mb : AC} (ha : RdR w Ma Da) (hb : RdR w Mb Db) {B : Nat} (hB : B ≤ w.heap.size) :
    Calls Try.prog 50 #[.int .i64 n, .agg (cR Ma (txa, Da)), .agg (cR Mb (txb, Db)), .int .i64 cols] w fun e w' => ∃ M', e = .returned (.tuple #[pV M' rl, .bool rb]) ∧ OwP w' B w.heap.size w'.heap.size M' rl ∧ Below w.heap.size w w' := by
  refine (sTake_call n txa txb cols Ma.1 Mb.1 Ma.2 Mb.2 Da Db w ha.2 ha.1 hFa hb.2 hb.1 hFb).mono ?_
  rintro e w' ⟨v, rfl, hR, hb⟩
  rw [hE] at hR
  obtain ⟨M', rfl, hO⟩ := owP_of hB hR
  exact ⟨M', by rw [hE], hO, hb⟩
theorem implTk_call (n txa txb cols : Int) {Da Db : List S65} {rl : List S37} {rb : Bool} (hE : takeI n txa txb cols Da Db = (rl, rb)) (hFa : FitM Da) (hFb : FitM Db) {w : World} {Ma Mb : AC} (ha : RdR w Ma Da) (hb : RdR w Mb Db) {B : Nat} (hB : B ≤ w.heap.size) :
    Calls Try.prog 51 #[.int .i64 n, .agg (cR Ma (txa, Da)), .agg (cR Mb (txb, Db)), .int .i64 cols] w fun e w' => ∃ M', e = .returned (.tuple #[pV M' rl, .bool rb]) ∧ OwP w' B w.heap.size w'.heap.size M' rl ∧ Below w.heap.size w w' := by
  refine (spaceTake_call n txa txb cols Ma.1 Mb.1 Ma.2 Mb.2 Da Db w ha.2 ha.1 hFa.places hb.2 hb.1 hFb.places).mono ?_
  rintro e w' ⟨v, rfl, hR, hb⟩
  rw [hE] at hR
  obtain ⟨M', rfl, hO⟩ := owP_of hB hR
  exact ⟨M', by rw [hE], hO, hb⟩
end Go.Proofs.Ytkoimmeghdbodaa.Hd
namespace Go.Proofs.Ytkoimmeghdbodaa.Print
open Go.RowKit Go.Proofs.YtkoimmeghdbodaaW.PrintWords Go.Proofs.YtkoimmeghdbodaaW.PrintLast Go.Proofs.YtkoimmeghdbodaaW.PrintMore Go.Proofs.Ytkoimmeghdbodaa.Pure
attribute [local go_sem] max2_int min2_int max_two min_two max_three min_three max_four min_four
open Classical in
noncomputable def sRootOk.f (k : Nat) (a0 : Int) (a1_0 : Int) (l1_1 : List S65) : Option Bool := if FitM l1_1 then some (rootB a0 a1_0 l1_1) else none
mutual
def sRPlaces.l0 : Nat → Int → List (S37) → List (S29) → Int → Option ((List (S37)))
  | 0, _, _, _, _ => none
  | k + 1, x0, x5, x6, x7 => if x7 < x0 then (sRPlaces.l1 k x0 x5 x6 x7 0) else (some x5)
def sRPlaces.l1 : Nat → Int → List (S37) → List (S29) → Int → Int → Option ((List (S37)))
  | 0, _, _, _, _, _ => none
  | k + 1, x0, x5, x6, x7, x8 => if x8 < 12 then (sRPlaces.l2 k x0 x5 x6 x7 x8 false 0 0 0 (([(⟨x7, x8⟩ : S37)] : List (S37)))) else (sRPlaces.l0 k x0 x5 x6 (wrap64 (x7 + 1)))
def sRPlaces.l2 : Nat → Int → List (S37) → List (S29) → Int → Int → Bool → Int → Int → Int → List (S37) → Option ((List (S37)))
  | 0, _, _, _, _, _, _, _, _, _, _ => none
  | k + 1, x0, x5, x6, x7, x8, x10, x11, x606000, x606001, x606002 => if x11 < (x6.length : Int) then (if x10 = true then (sRPlaces.l2 k x0 x5 x6 x7 x8 true (wrap64 (x11 + 1)) x606000 x606001 x606002) else (if 0 ≤ x11 then ((spec_l2Meet.f k x606000 x606001 x606002 ((rd_T29 x6 x11).f0) ((rd_T29 x6 x11).f1) ((rd_T29 x6 x11).f2)).bind fun t607 => (sRPlaces.l2 k x0 x5 x6 x7 x8 t607 (wrap64 (x11 + 1)) x606000 x606001 x606002)) else (none))) else (if x10 = true then (if x5.length < 8796093022208 then (sRPlaces.l1 k x0 (x5 ++ [(⟨x7, x8⟩ : S37)]) x6 x7 (wrap64 (x8 + 1))) else (none)) else (sRPlaces.l1 k x0 x5 x6 x7 (wrap64 (x8 + 1))))
end
noncomputable def sRPlaces.f (k : Nat) (a0 : Int) (a1_0 : Int) (l1_1 : List (S65)) : Option ((List (S37))) := (some (([] : List (S37)) : List (S37))).bind fun y595 => ((sRootOk.f k a0 a1_0 l1_1).bind fun t598 => (if t598 = true then ((spec_l2All.f k a1_0 l1_1).bind fun t599 => (sRPlaces.l0 k a0 y595 t599 0)) else (some y595)))
end Go.Proofs.Ytkoimmeghdbodaa.Print
namespace Go.Proofs.Ytkoimmeghdbodaa.Pure
open Go.RowKit Go.Lib Go.Sort Go.Proofs.Ytkoimmeghdbodaa.Print Go.Proofs.YtkoimmeghdbodaaW.PrintWords Go.Proofs.YtkoimmeghdbodaaW.PrintLast
end Go.Proofs.Ytkoimmeghdbodaa.Pure
namespace Go.Proofs.Ytkoimmeghdbodaa.Hd
open Go.RowKit Go.Proofs.Ytkoimmeghdbodaa.Print Go.Proofs.YtkoimmeghdbodaaW.PrintWords Go.Proofs.YtkoimmeghdbodaaW.PrintLast Go.Proofs.YtkoimmeghdbodaaW.PrintMore Go.Proofs.Ytkoimmeghdbodaa.Pure
end Go.Proofs.Ytkoimmeghdbodaa.Hd
namespace Go.Proofs.Ytkoimmeghdbodaa.Hq
open Go.RowKit Go.Proofs.Ytkoimmeghdbodaa.Print Go.Proofs.YtkoimmeghdbodaaW.PrintWords Go.Proofs.YtkoimmeghdbodaaW.PrintLast Go.Proofs.YtkoimmeghdbodaaW.PrintMore Go.Proofs.Ytkoimmeghdbodaa.Pure Go.Proofs.Ytkoimmeghdbodaa.Hd
theorem lpaPl_l0 (l : List S37) (hl : l.length ≤ 1048576) (d : Nat) : ∀ i : Nat, i + d = l.length → Ev (fun k => laws_lpaPlaces.l0 k l l (i : Int)) true := by
  induction d with
  | zero =>
    intro i hi
    refine Ev.next ?_
    simp only [laws_lpaPlaces.l0]
    exact Ev.neg (by omega) (Ev.ret rfl)
  | succ d ih =>
    intro i hi
    have e : wrap64 ((i : Int) + 1) = ((i + 1 : Nat) : Int) := by rw [wrap_ok (by omega)]; omega
    have hih := ih (i + 1) (by omega)
    refine Ev.next ?_
    simp only [laws_lpaPlaces.l0, e]
    clear e
    exact Ev.pos (by omega) (Ev.pos (by omega) (Ev.pos (by omega) (Ev.neg (by simp) hih)))
theorem lpaIn_l0 (l : List S37) (p : S37) (hl : l.length ≤ 1048576) (d : Nat) : ∀ i : Nat, i + d = l.length → Ev (fun k => laws_lpaIn.l0 k l (i : Int) p.f0 p.f1) (decide (p ∈ l.drop i)) := by
  induction d with
  | zero =>
    intro i hi
    refine Ev.next ?_
    simp only [laws_lpaIn.l0]
    exact Ev.neg (by omega) (Ev.ret (by rw [List.drop_of_length_le (by omega)]; simp))
  | succ d ih =>
    intro i hi
    have e : wrap64 ((i : Int) + 1) = ((i + 1 : Nat) : Int) := by rw [wrap_ok (by omega)]; omega
    have hih := ih (i + 1) (by omega)
    have hd := drop_getD l z37 i (by omega)
    refine Ev.next ?_
    simp only [laws_lpaIn.l0, e, rd37n]
    clear e
    refine Ev.pos (by omega) (Ev.pos (by omega) ?_)
    have key := eq37 (l.getD i z37) p
    rw [key, hd]
    by_cases c : l.getD i z37 = p
    · refine Ev.pos (decide_eq_true c) (Ev.ret ?_)
      rw [c]
      simp
    · refine Ev.neg (by rw [decide_eq_true_iff]; exact c) ?_
      have : decide (p ∈ l.getD i z37 :: l.drop (i + 1)) = decide (p ∈ l.drop (i + 1)) := by
        rw [Bool.eq_iff_iff, decide_eq_true_iff, decide_eq_true_iff, List.mem_cons]
        exact ⟨fun h => h.resolve_left fun h => c h.symm, Or.inr⟩
      rw [this]
      exact hih
section
variable {base : Nat} {ws w : World} {L : List Part} {S : Nat → Prop} {wc : World} {B lo hi : Nat} {M M' : AC} {l l' : List S37}
theorem Hq.rdP (h : Hq base ws w L) (i : Nat) (e : L[i]? = some (.set (fun k => lo ≤ k ∧ k < hi) wc)) (O : OwP wc B lo hi M l) : RdP w M l := by
  have := Kd.R_reads' (h.rr i e O)
  exact ⟨this.2.1, this.2.2⟩
theorem lpaPl_call (hl : l.length ≤ 1048576) (e : l' = l) (h : RdP w M l) (h' : RdP w M' l') : Calls Try.prog 28 #[pV M l, pV M' l'] w fun e w' => e = .returned (.bool true) ∧ Below w.heap.size w w' := by
  subst e
  obtain ⟨k, hk⟩ := Ev.rounds (show Ev (fun k => laws_lpaPlaces.f k l' l') true from Ev.pos rfl (lpaPl_l0 l' hl _ 0 (Nat.zero_add _)))
  exact (laws_lpaPlaces.calls k M.1 M.2 l' M'.1 M'.2 l' true w h.2 h.1 h'.2 h'.1 hk).mono fun e w' h => ⟨h.1, h.2.below⟩
theorem lpaIn_call (hl : l.length ≤ 1048576) (p : S37) (h : RdP w M l) : Calls Try.prog 42 #[pV M l, .agg #[.int .i64 p.f0, .int .i64 p.f1]] w fun e w' => e = .returned (.bool (decide (p ∈ l))) ∧ Below w.heap.size w w' := by
  have h0 := lpaIn_l0 l p hl l.length 0 (Nat.zero_add _)
  rw [List.drop_zero] at h0
  obtain ⟨k, hk⟩ := Ev.rounds h0
  exact laws_lpaIn.calls k M.1 M.2 l p.f0 p.f1 _ w h.2 h.1 hk
end
section
variable {w : World} {n : Int} {M : AC} {B : Nat} {D : List S65} {l : List S37}
theorem specRt_q (tx : Int) {r : Bool} (e : rootB n tx D = r) (hF : FitM D) (h : RdR w M D) : Calls Try.prog 36 #[.int .i64 n, .agg (cR M (tx, D))] w fun e w' => e = .returned (.bool r) ∧ Below w.heap.size w w' := e ▸ sRoot_call n tx M.1 M.2 D w h.2 h.1 hF
variable {ta tb : Int} {Ma Mb : AC} {Da Db : List S65}
theorem implSp_q (e : spaceI n ta tb Da Db = l) (hFa : FitM Da) (hFb : FitM Db) (ha : RdR w Ma Da) (hb : RdR w Mb Db) (hB : B ≤ w.heap.size) : Calls Try.prog 48 #[.int .i64 n, .agg (cR Ma (ta, Da)), .agg (cR Mb (tb, Db))] w fun e w' => ∃ M', e = .returned (pV M' l) ∧ OwP w' B w.heap.size w'.heap.size M' l ∧ Below w.heap.size w w' := e ▸ implSp_call n ta tb hFa hFb ha hb hB
end
end Go.Proofs.Ytkoimmeghdbodaa.Hq
namespace Go.Proofs.Ytkoimmeghdbodaa.Pure
open Go.RowKit Go.Proofs.Ytkoimmeghdbodaa.Print Go.Proofs.YtkoimmeghdbodaaW.PrintWords Go.Proofs.YtkoimmeghdbodaaW.PrintLast
def room (L : Nat → List S37) : Nat → Nat
  | 0 => 0
  | d + 1 => room L d + if (L d).length = 0 then 0 else 1
theorem room_upd {L : Nat → List S37} {b : Nat} (hb : (L b).length ≠ 0) (nn : Nat) : room (upd L b []) nn + (if b < nn then 1 else 0) = room L nn := by
  induction nn with
  | zero => rfl
  | succ d ih =>
    show room (upd L b []) d + (if (upd L b [] d).length = 0 then 0 else 1) + _ = room L d + (if (L d).length = 0 then 0 else 1)
    by_cases e : d = b
    · subst e
      have e1 : upd L d [] d = [] := by unfold upd; rw [if_pos rfl]
      rw [if_neg (Nat.lt_irrefl d)] at ih
      rw [e1, if_pos (by rfl), if_neg hb, if_pos (Nat.lt_succ_self d)]
      omega
    · have e1 : upd L b [] d = L d := by unfold upd; rw [if_neg e]
      rw [e1]
      by_cases c : b < d
      · rw [if_pos c] at ih
        rw [if_pos (show b < d + 1 by omega)]
        omega
      · rw [if_neg c] at ih
        rw [if_neg (show ¬ b < d + 1 by omega)]
        omega
theorem bestOf_max (L : Nat → List S37) : ∀ d e : Nat, e < d → (L e).length ≤ (L (bestOf L d)).length := by
  intro d
  induction d with
  | zero => intro e he; omega
  | succ d ih =>
    intro e he
    unfold bestOf
    by_cases c : (L (bestOf L d)).length < (L d).length
    · rw [if_pos c]
      by_cases h : e = d
      · rw [h]
        exact Nat.le_refl _
      · have := ih e (by omega)
        omega
    · rw [if_neg c]
      by_cases h : e = d
      · rw [h]
        omega
      · exact ih e (by omega)
theorem room_zero {L : Nat → List S37} : ∀ {nn : Nat}, (∀ e, e < nn → (L e).length = 0) → room L nn = 0
  | 0, _ => rfl
  | d + 1, h => by
    show room L d + (if (L d).length = 0 then 0 else 1) = 0
    rw [room_zero (fun e he => h e (by omega)), if_pos (h d (Nat.lt_succ_self d))]
theorem takeG_spec (nn : Nat) (h1 : 1 ≤ nn) : ∀ (c : Nat) (L : Nat → List S37) (out : List S37), (∀ d x, x ∈ L d → x.f0 = (d : Int)) →
    ∃ sel : List S37, takeG nn c L out = (if c ≤ room L nn then out ++ sel else [], decide (c ≤ room L nn)) ∧ (c ≤ room L nn → sel.length = c ∧ (∀ x ∈ sel, ∃ d, d < nn ∧ x ∈ L d) ∧ sel.Pairwise (fun x y => x.f0 ≠ y.f0))
  | 0, L, out, hL => ⟨[], by rw [if_pos (Nat.zero_le _), List.append_nil, decide_eq_true (Nat.zero_le _)]; rfl, fun _ => ⟨rfl, fun x hx => (by cases hx), List.Pairwise.nil⟩⟩
  | c + 1, L, out, hL => by
    unfold takeG
    by_cases hz : (L (bestOf L nn)).length = 0
    · have hr : room L nn = 0 := room_zero fun e he => by have := bestOf_max L nn e he; omega
      rw [if_pos hz]
      exact ⟨[], by rw [if_neg (by omega), decide_eq_false (by omega)], fun h => absurd h (by omega)⟩
    · rw [if_neg hz]
      have hb : bestOf L nn < nn := by
        cases nn with
        | zero => omega
        | succ m => exact bestOf_lt L m
      have hr := room_upd hz nn
      rw [if_pos hb] at hr
      obtain ⟨sel, e, h⟩ := takeG_spec nn h1 c (upd L (bestOf L nn) []) (out ++ [(L (bestOf L nn)).getD 0 z37]) (fun d x hx => by
        unfold upd at hx
        by_cases c : d = bestOf L nn
        · rw [if_pos c] at hx; cases hx
        · rw [if_neg c] at hx; exact hL d x hx)
      have hmem : (L (bestOf L nn)).getD 0 z37 ∈ L (bestOf L nn) := getD_mem (by omega)
      refine ⟨(L (bestOf L nn)).getD 0 z37 :: sel, ?_, fun hc => ?_⟩
      · rw [e]
        by_cases hc : c ≤ room (upd L (bestOf L nn) []) nn
        · rw [if_pos hc, if_pos (show c + 1 ≤ room L nn by omega), decide_eq_true hc, decide_eq_true (show c + 1 ≤ room L nn by omega), List.append_assoc]
          rfl
        · rw [if_neg hc, if_neg (show ¬ c + 1 ≤ room L nn by omega), decide_eq_false hc, decide_eq_false (show ¬ c + 1 ≤ room L nn by omega)]
      · obtain ⟨h2, h3, h4⟩ := h (by omega)
        have h3' : ∀ x ∈ sel, ∃ d, d < nn ∧ d ≠ bestOf L nn ∧ x ∈ L d := fun x hx => by
          obtain ⟨d, hd, hx⟩ := h3 x hx
          unfold upd at hx
          by_cases c : d = bestOf L nn
          · rw [if_pos c] at hx; cases hx
          · rw [if_neg c] at hx; exact ⟨d, hd, c, hx⟩
        refine ⟨by rw [List.length_cons, h2], fun x hx => ?_, List.pairwise_cons.2 ⟨fun x hx he => ?_, h4⟩⟩
        · rcases List.mem_cons.1 hx with rfl | hx
          · exact ⟨_, hb, hmem⟩
          · obtain ⟨d, hd, _, hx⟩ := h3' x hx
            exact ⟨d, hd, hx⟩
        · obtain ⟨d, hd, hne, hx⟩ := h3' x hx
          rw [hL _ _ hmem, hL _ _ hx] at he
          exact hne (by omega)
def rooms (sp : List S37) : Nat → Nat
  | 0 => 0
  | d + 1 => rooms sp d + if sp.any (fun p => decide (p.f0 = (d : Int))) = true then 1 else 0
theorem rooms_le (sp : List S37) : ∀ d, rooms sp d ≤ d
  | 0 => Nat.le_refl _
  | d + 1 => by
    have := rooms_le sp d
    show rooms sp d + (if sp.any (fun p => decide (p.f0 = (d : Int))) = true then 1 else 0) ≤ d + 1
    by_cases c : sp.any (fun p => decide (p.f0 = (d : Int))) = true
    · rw [if_pos c]; omega
    · rw [if_neg c]; omega
theorem room_rooms (U : List S37) (nn : Nat) : ∀ d, d ≤ nn → room (Lst U nn 0) d = rooms (flatF U nn) d
  | 0, _ => rfl
  | d + 1, h => by
    show room (Lst U nn 0) d + (if (Lst U nn 0 d).length = 0 then 0 else 1) = rooms (flatF U nn) d + (if (flatF U nn).any (fun p => decide (p.f0 = (d : Int))) = true then 1 else 0)
    rw [room_rooms U nn d (by omega), Lst_done U (by omega : d < nn)]
    have hf := flatF_on U d nn
    rw [if_pos (by omega : d < nn)] at hf
    have ha : (flatF U nn).any (fun p => decide (p.f0 = (d : Int))) = true ↔ ¬ (freeP U d 12).length = 0 := by
      rw [← hf, List.any_eq_true]
      constructor
      · rintro ⟨x, hx, hd⟩ h0
        have : x ∈ (flatF U nn).filter (onD (d : Int)) := List.mem_filter.2 ⟨hx, hd⟩
        rw [List.eq_nil_of_length_eq_zero h0] at this
        cases this
      · intro h0
        obtain ⟨x, hx⟩ := List.exists_mem_of_length_pos (Nat.pos_of_ne_zero h0)
        exact ⟨x, (List.mem_filter.1 hx).1, (List.mem_filter.1 hx).2⟩
    congr 1
    by_cases c : (freeP U d 12).length = 0
    · rw [if_pos c, if_neg (fun h => ha.1 h c)]
    · rw [if_neg c, if_pos (ha.2 c)]
structure TakeF (n cols : Int) (sp rl : List S37) (rb : Bool) : Prop where
  ok : rb = decide (cols ≤ (rooms sp n.toNat : Int))
  len : rb = true → (rl.length : Int) = cols
  mem : rb = true → ∀ x ∈ rl, x ∈ sp
  far : rb = true → rl.Pairwise (fun x y => x.f0 ≠ y.f0)
theorem take_facts {n ta tb cols : Int} {Da Db : List S65} {sp rl : List S37} {rb : Bool} (ea : rootB n ta Da = true) (eb : rootB n tb Db = true) (hc : 1 ≤ cols ∧ cols ≤ n) (es : spaceI n ta tb Da Db = sp) (et : takeI n ta tb cols Da Db = (rl, rb)) : TakeF n cols sp rl rb := by
  have e1 : spaceI n ta tb Da Db = flatF (rootPl n ta Da ++ rootPl n tb Db) n.toNat := by
    unfold spaceI
    rw [ea, eb, if_pos (by rfl)]
  have e2 : takeI n ta tb cols Da Db = takeG n.toNat cols.toNat (Lst (rootPl n ta Da ++ rootPl n tb Db) n.toNat 0) [] := by
    unfold takeI
    rw [ea, eb, decide_eq_true hc.1, decide_eq_true hc.2, if_pos (by rfl)]
  obtain ⟨sel, h1, h2⟩ := takeG_spec n.toNat (by omega) cols.toNat (Lst (rootPl n ta Da ++ rootPl n tb Db) n.toNat 0) [] (fun d x hx => by
    unfold Lst at hx
    by_cases c : d < n.toNat
    · rw [if_pos c] at hx; exact freeP_f0 hx
    · rw [if_neg c] at hx
      by_cases c2 : d = n.toNat
      · rw [if_pos c2] at hx; rw [freeP_f0 hx, c2]
      · rw [if_neg c2] at hx; cases hx)
  rw [e2, h1, room_rooms _ _ _ (Nat.le_refl _), ← e1, es] at et
  rw [room_rooms _ _ _ (Nat.le_refl _), ← e1, es] at h2
  injection et with e3 e4
  rw [List.nil_append] at e3
  have hk : rb = true → cols.toNat ≤ rooms sp n.toNat := fun h => by rw [← e4] at h; exact of_decide_eq_true h
  refine ⟨?_, fun h => ?_, fun h x hx => ?_, fun h => ?_⟩
  · rw [← e4]
    by_cases c : cols.toNat ≤ rooms sp n.toNat
    · rw [decide_eq_true c, decide_eq_true (by omega)]
    · rw [decide_eq_false c, decide_eq_false (by omega)]
  · have := (h2 (hk h)).1
    rw [if_pos (hk h)] at e3
    rw [← e3, this]
    omega
  · rw [if_pos (hk h)] at e3
    rw [← e3] at hx
    obtain ⟨d, hd, hx⟩ := (h2 (hk h)).2.1 x hx
    rw [Lst_done _ hd] at hx
    rw [← es, e1]
    exact List.mem_flatMap.2 ⟨d, List.mem_range.2 hd, hx⟩
  · rw [if_pos (hk h)] at e3
    rw [← e3]
    exact (h2 (hk h)).2.2
theorem far_at {l : List S37} (h : l.Pairwise (fun x y => x.f0 ≠ y.f0)) {j i : Nat} (hj : j < i) (hi : i < l.length) : (l.getD j z37).f0 ≠ (l.getD i z37).f0 := by
  have h := List.pairwise_iff_getElem.1 h j i (by omega) hi hj
  simp only [List.getD, List.getElem?_eq_getElem hi, List.getElem?_eq_getElem (show j < l.length by omega), Option.getD_some]
  exact h
theorem any_snoc (l : List S37) (i : Nat) (hi : i < l.length) (d : Int) : (l.take (i + 1)).any (fun p => decide (p.f0 = d)) = ((l.take i).any (fun p => decide (p.f0 = d)) || decide ((l.getD i z37).f0 = d)) := by
  rw [List.take_add_one, List.any_append]
  simp [List.getD, List.getElem?_eq_getElem hi]
end Go.Proofs.Ytkoimmeghdbodaa.Pure
