/- Proved, with what follows on it: the row of the law FnDiskPut. Conditions: the row's alone. Texts of this session and words that the kit's print laid for this seat, merged and cut by shrink.py, a program of this session. -/
import Derived.Below
import Derived.ChangeOld
import Derived.OpenShut
import Derived.ProofKit
import Derived.ShutString
import Derived.SizedLaws
import Derived.WalkKit
import Derived.Test.YtkgpnloghmbmlaaRows
import Derived.Test.YtkgpnloghmbmlaaZFnDiskPutE
namespace Go.Proofs.Ytkgpnloghmbmlaa.Hq
open Go.RowKit Go.Proofs.Ytkgpnloghmbmlaa.Print Go.Proofs.YtkgpnloghmbmlaaW.PrintWords Go.Proofs.YtkgpnloghmbmlaaW.PrintLast Go.Proofs.Ytkgpnloghmbmlaa.Pure Go.Proofs.Ytkgpnloghmbmlaa.Hd
set_option linter.unusedVariables false
theorem text_l0 {b : List Int} (hb : Pure.Code b) (n : Nat) : ∀ (p : Int) (x : List Int), 0 ≤ p → n ≤ 1000 → x.length + n ≤ 1000000 → p + 2 * (n : Int) ≤ 10000000 →
    ∃ s q, Ev (fun k => spec_l71Text.l0 k x (n : Int) b p) (s, q) ∧ s.size ≤ x.length + n ∧ p ≤ q ∧ q ≤ p + 2 * (n : Int) := by
  induction n with
  | zero =>
    intro p x h0 hn hx hp
    refine ⟨strOfNums x, p, Ev.next ?_, by rw [size_strOfNums']; omega, by omega, by omega⟩
    simp only [spec_l71Text.l0]
    exact Ev.neg (by omega) (Ev.ret rfl)
  | succ n ih =>
    intro p x h0 hn hx hp
    obtain ⟨r1, e1, a1, a2, _⟩ := pick_ev hb p 6 (by omega) (by omega)
    obtain ⟨r2, e2, _, _, _⟩ := pick_ev hb (p + 1) 3 (by omega) (by omega)
    have a2 := a2 (by omega)
    obtain ⟨s, q, e3, l1, l2, l3⟩ := ih (p + 1 + 1) (x ++ [((rd ([97, 98, 122, 0, 255, 128] : List Int) r1) + (r2 % 256)) % 256]) (by omega) (by omega) (by rw [List.length_append, List.length_singleton]; omega) (by omega)
    have e : wrap64 (((n + 1 : Nat) : Int) - 1) = (n : Int) := by rw [wrap_ok (by omega)]; omega
    rw [List.length_append, List.length_singleton] at l1
    refine ⟨s, q, Ev.next ?_, by omega, by omega, by omega⟩
    simp only [spec_l71Text.l0, e]
    clear e
    exact Ev.pos (by omega) (Ev.take rfl (Ev.bind e1 (Ev.pos a1 (Ev.pos (by dsimp only [List.length]; omega) (Ev.bind e2 (Ev.pos (by omega) e3))))))
theorem text_ev {b : List Int} (hb : Pure.Code b) (p : Int) (m : Nat) (h0 : 0 ≤ p) (hm : m ≤ 100) (hp : p ≤ 1000000) : ∃ s q, Ev (fun k => spec_l71Text.f k b p (m : Int)) (s, q) ∧ s.size ≤ m ∧ p ≤ q ∧ q ≤ p + 1 + 2 * (m : Int) := by
  have e : wrap64 ((m : Int) + 1) = (m : Int) + 1 := wrap_ok (by omega)
  obtain ⟨r, e1, a1, a2, _⟩ := pick_ev hb p ((m : Int) + 1) (by omega) (by omega)
  have a2 := a2 (by omega)
  obtain ⟨n, rfl⟩ := Int.eq_ofNat_of_zero_le a1
  obtain ⟨s, q, e2, l1, l2, l3⟩ := text_l0 hb n (p + 1) [] (by omega) (by omega) (by simp; omega) (by omega)
  refine ⟨s, q, ?_, by simp at l1; omega, by omega, by omega⟩
  unfold spec_l71Text.f
  rw [e]
  exact Ev.bind e1 e2
theorem sec_ev (n : Nat) : ∀ s : ByteArray, s.size + n = 3 ∨ (n = 0 ∧ 3 ≤ s.size) → ∃ r, Ev (fun k => spec_l1Sec.f k s) r ∧ r.size = 3 := by
  induction n with
  | zero =>
    intro s hs
    refine ⟨s.extract 0 3, Ev.next ?_, by simp [ByteArray.size_extract]; omega⟩
    simp only [spec_l1Sec.f, spec_l1Sec.l0]
    exact Ev.neg (by omega) (Ev.pos (by omega) (Ev.pos (by omega) (Ev.ret rfl)))
  | succ n ih =>
    intro s hs
    have h1 : (s ++ (⟨#[0]⟩ : ByteArray)).size = s.size + 1 := by rw [ByteArray.size_append]; rfl
    obtain ⟨r, e, hr⟩ := ih (s ++ (⟨#[0]⟩ : ByteArray)) (by omega)
    refine ⟨r, Ev.next ?_, hr⟩
    simp only [spec_l1Sec.f, spec_l1Sec.l0]
    exact Ev.pos (by omega) (Ev.pos (by omega) e)
theorem put_ev {b : List Int} (hb : Pure.Code b) (p : Int) (h0 : 0 ≤ p) (hp : p ≤ 900000) : ∃ (x : S54) (q : Int), Ev (fun k => spec_l71Put.f k b p) (x.f0, x.f1, x.f2, q) ∧ putB x = true ∧ p ≤ q ∧ q ≤ p + 30 := by
  obtain ⟨r, e1, a1, a2, _⟩ := pick_ev hb p 4 (by omega) (by omega)
  unfold spec_l71Put.f
  by_cases hr : r = 0
  · obtain ⟨r2, e2, c1, c2, _⟩ := pick_ev hb (p + 1) 2 (by omega) (by omega)
    have c2 := c2 (by omega)
    obtain ⟨s, q, e3, l1, l2, l3⟩ := text_ev hb (p + 1 + 1) 6 (by omega) (by omega) (by omega)
    refine ⟨⟨true, r2, s⟩, q, Ev.bind e1 (Ev.pos hr (Ev.bind e2 (Ev.bind e3 (Ev.ret rfl)))), ?_, by omega, by omega⟩
    unfold putB
    rw [if_pos rfl]
    exact decide_eq_true ⟨c1, c2, by show s.size ≤ 700; omega⟩
  · obtain ⟨r2, e2, c1, c2, _⟩ := pick_ev hb (p + 1) 12 (by omega) (by omega)
    have c2 := c2 (by omega)
    obtain ⟨s, q, e3, l1, l2, l3⟩ := text_ev hb (p + 1 + 1) 3 (by omega) (by omega) (by omega)
    obtain ⟨t, e4, ht⟩ := sec_ev (3 - s.size) s (by omega)
    refine ⟨⟨false, r2, t⟩, q, Ev.bind e1 (Ev.neg hr (Ev.bind e2 (Ev.bind e3 (Ev.bind e4 (Ev.ret rfl))))), ?_, by omega, by omega⟩
    unfold putB
    rw [if_neg (by simp)]
    exact decide_eq_true ⟨c1, c2, ht⟩
structure Rdr (w0 : World) (b : List Int) (m : Nat) (cs : Array Value) : Prop where
  ok : ∃ A c p, cs = #[.slice A b.length c, .int .i64 p] ∧ Kd.C (Kd.int .u8) w0 A b.length b ∧ 0 ≤ p ∧ p + m ≤ 500000
  code : Pure.Code b
theorem Rdr.less {w0 : World} {b : List Int} {m m' : Nat} {cs : Array Value} (h : Rdr w0 b m cs) (hm : m' ≤ m) : Rdr w0 b m' cs := by
  obtain ⟨A, c, p, h1, h2, h3, h4⟩ := h.ok
  exact ⟨⟨A, c, p, h1, h2, h3, by omega⟩, h.code⟩
section
variable {w0 ws w : World} {L : List Part} {b : List Int} {g : Nat} {cs : Array Value}
theorem is_of (H : Hq w0.heap.size ws w L) (i : Nat) (e : L[i]? = some (.box g cs 104)) {A : Option Addr} {c : Nat} {p : Int} (hcs : cs = #[.slice A b.length c, .int .i64 p]) (hC : Kd.C (Kd.int .u8) w0 A b.length b) : IsS104 w0 w g b p :=
  ⟨A, c, by rw [← hcs]; exact H.box i e, H.box_ge i e, hC⟩
theorem rd_of {w' : World} (hB : Below w0.heap.size w0 ws) (H : Hq w0.heap.size ws w L) (i : Nat) (e : L[i]? = some (.box g cs 104)) (hc : Pure.Code b) {q : Int} {m : Nat} (hq : 0 ≤ q ∧ q + m ≤ 500000) (hI : IsS104 w0 w' g b q) (hb : Below w0.heap.size w0 w') (hk : KeepBut w w' g none) :
    ∃ cs', Rdr w0 b m cs' ∧ Hq w0.heap.size ws w' (L.set i (.box g cs' 104)) := by
  obtain ⟨A, c, h1, h2, h3⟩ := hI
  have hbel := hB.trans H.bel
  exact ⟨_, ⟨⟨A, c, q, rfl, h3, hq.1, hq.2⟩, hc⟩, H.put_box i e h1 ⟨hb.os.trans hbel.os.symm, hb.tape.trans hbel.tape.symm, hb.output.trans hbel.output.symm, hk.1, fun k h1 => (hb.block k h1).trans (hbel.block k h1).symm⟩ fun k h1 h2 => hk.2 k h1 h2 (by simp)⟩
theorem pick_callq {m : Nat} (hB : Below w0.heap.size w0 ws) (H : Hq w0.heap.size ws w L) (i : Nat) (e : L[i]? = some (.box g cs 104)) (hr : Rdr w0 b (m + 1) cs) (n : Int) (hn : 1 ≤ n ∧ n ≤ 100000) :
    Calls Try.prog 48 #[.pointer (some ⟨g, 0, none⟩), .int .i64 n] w fun e w' => ∃ (r : Nat) (cs' : Array Value), e = .returned (.int .i64 (r : Int)) ∧ (r : Int) < n ∧ Rdr w0 b m cs' ∧ Hq w0.heap.size ws w' (L.set i (.box g cs' 104)) := by
  obtain ⟨A, c, p, h1, h2, h3, h4⟩ := hr.ok
  obtain ⟨r, e1, a1, a2, _⟩ := pick_ev hr.code p n (by omega) (by omega)
  obtain ⟨K, hK⟩ := e1
  obtain ⟨r, rfl⟩ := Int.eq_ofNat_of_zero_le a1
  refine (spec_l6Rd_pick.calls K g b p n r (p + 1) w0 w (is_of H i e h1 h2) (hB.trans H.bel) (hK K (Nat.le_refl _))).mono fun e' w' hh => ?_
  obtain ⟨he, hI, hb, hk⟩ := hh
  obtain ⟨cs', q1, q2⟩ := rd_of hB H i e hr.code (m := m) (by omega) hI hb hk
  exact ⟨r, cs', he, a2 (by omega), q1, q2⟩
theorem put_callq {m : Nat} (hB : Below w0.heap.size w0 ws) (H : Hq w0.heap.size ws w L) (i : Nat) (e : L[i]? = some (.box g cs 104)) (hr : Rdr w0 b (m + 30) cs) :
    Calls Try.prog 81 #[.pointer (some ⟨g, 0, none⟩)] w fun e w' => ∃ (x : S54) (cs' : Array Value), e = .returned (.agg (cP x)) ∧ putB x = true ∧ Rdr w0 b m cs' ∧ Hq w0.heap.size ws w' (L.set i (.box g cs' 104)) := by
  obtain ⟨A, c, p, h1, h2, h3, h4⟩ := hr.ok
  obtain ⟨x, q, e1, a1, a2, a3⟩ := put_ev hr.code p (by omega) (by omega)
  obtain ⟨K, hK⟩ := e1
  refine (spec_l71Put.calls K g b p x.f0 x.f1 x.f2 q w0 w (is_of H i e h1 h2) (hB.trans H.bel) (hK K (Nat.le_refl _))).mono fun e' w' hh => ?_
  obtain ⟨he, hI, hb, hk⟩ := hh
  obtain ⟨cs', q1, q2⟩ := rd_of hB H i e hr.code (m := m) (by omega) hI hb hk
  exact ⟨x, cs', he, a1, q1, q2⟩
end
end Go.Proofs.Ytkgpnloghmbmlaa.Hq
namespace Go.Proofs.Ytkgpnloghmbmlaa.Hq
open Go.RowKit Go.Proofs.Ytkgpnloghmbmlaa.Print Go.Proofs.YtkgpnloghmbmlaaW.PrintWords Go.Proofs.YtkgpnloghmbmlaaW.PrintLast Go.Proofs.YtkgpnloghmbmlaaW.PrintMore Go.Proofs.Ytkgpnloghmbmlaa.Pure Go.Proofs.Ytkgpnloghmbmlaa.Hd
set_option linter.unusedVariables false
theorem blk_frz0 {w : World} {g : Nat} {cs : Array Value} {t : TypeId} (h : w.heap[g]? = some (.cells cs t (0, 0))) (j : Nat) : w.frozen? ⟨g, j, none⟩ = false := by simp [World.frozen?, h]
section
variable {P : Program} {ops : Array Oper} {Q : Exit → Act → World → Prop} {rest : List Oper} {o : Oper} {a : Act} {base : Nat} {w0 w : World} {L : List Part} {Kc : Act → World → Prop}
theorem Hq.lit (h : Hq base w0 w L) (hgd : o.guard = none) (cs : Array Value) (t : TypeId) (n : Nat)
    (hrun : (execOp a.eval o).run P w = .ok (.value (.slice (some ⟨w.heap.size, 0, none⟩) n n)) (w.alloc (.cells cs t (0, 0))))
    (k : ∀ g w1, Az (Hq base w0 w1 (.box g cs t :: L)) → wpList P ops Q rest (a.put o.dst (.slice (some ⟨g, 0, none⟩) n n)) w1) : wpList P ops Q (o :: rest) a w :=
  Kd.event_run hgd hrun (k _ _ ⟨h.boxed rfl (blk_new w _) (zq2 (Below.refl _ _) _)⟩)
theorem Hq.run_stb (h : Hq base w0 w L) (i : Nat) {g : Nat} {cs : Array Value} {t : TypeId} (e : L[i]? = some (.box g cs t)) (j : Nat) {u v : Value} (hj : cs[j]? = some u) {ty : TypeId} {x y : Operand} (hi : (P.info? ty).map (·.size) = some 1) (ho : o.op = .store ty x y) (hx : a.eval x = .pointer (some ⟨g, j, none⟩)) (hy : a.eval y = v) (h1 : v.oneCell' = true) :
    (execOp a.eval o).run P w = .ok .skip (w.setCell ⟨g, j, none⟩ v) :=
  run_sc hi ((zq4 (h.box i e) j).trans hj) (blk_frz0 (h.box i e) j) ho hx hy h1
theorem Hq.stb (h : Hq base w0 w L) (i : Nat) {g : Nat} {cs : Array Value} {t : TypeId} (e : L[i]? = some (.box g cs t)) (j : Nat) {u : Value} (v : Value) (hj : cs[j]? = some u) (hgd : o.guard = none) {ty : TypeId} {x y : Operand} (hi : (P.info? ty).map (·.size) = some 1) (ho : o.op = .store ty x y) (hN : o.dst = none) (hx : a.eval x = .pointer (some ⟨g, j, none⟩)) (hy : a.eval y = v) (h1 : v.oneCell' = true)
    (k : ∀ w1, Az (Hq base w0 w1 (L.set i (.box g (cs.setIfInBounds j v) t))) → wpList P ops Q rest a w1) : wpList P ops Q (o :: rest) a w :=
  h.st_cell i e j v hgd hN (h.run_stb i e j hj hi ho hx hy h1) k
theorem last_st {w1 : World} (hw : Region.wanted o (yielded ops a.tmps) = true) (hN : o.dst = none) (hrun : (execOp a.eval o).run P w = .ok .skip w1) (k : Kc a w1) : if Region.wanted o (yielded ops a.tmps) = true then Oper.wp P o a w Kc Q else Kc (a.put none undef) w := by
  rw [if_pos hw]
  unfold Oper.wp
  rw [hrun]
  show Kc (a.put o.dst undef) _
  rw [hN]
  exact k
theorem Hq.last_row (h : Hq base w0 w L) (i : Nat) {g : Nat} {cs : Array Value} {t : TypeId} (e : L[i]? = some (.box g cs t)) (hw : Region.wanted o (yielded ops a.tmps) = true) {ty : TypeId} {x y : Operand} (ho : o.op = .store ty x y) (hN : o.dst = none) (hx : a.eval x = .pointer (some ⟨g, 0, none⟩)) (cs' : Array Value) (hy : a.eval y = .agg cs')
    (hi : (P.info? ty).map (·.size) = some cs'.size) (hs : cs.size = cs'.size) (h1 : cs'.all (·.oneCell') = true) (k : ∀ w1, Az (Hq base w0 w1 (L.set i (.box g cs' t))) → Kc a w1) : if Region.wanted o (yielded ops a.tmps) = true then Oper.wp P o a w Kc Q else Kc (a.put none undef) w :=
  last_st hw hN (h.run_st i e ho hx cs' hy hi hs h1) (k _ ⟨h.set_row i e cs'⟩)
theorem Hq.last_cell (h : Hq base w0 w L) (i : Nat) {g : Nat} {cs : Array Value} {t : TypeId} (e : L[i]? = some (.box g cs t)) (j : Nat) {u : Value} (v : Value) (hj : cs[j]? = some u) (hw : Region.wanted o (yielded ops a.tmps) = true) {ty : TypeId} {x y : Operand} (hi : (P.info? ty).map (·.size) = some 1) (ho : o.op = .store ty x y) (hN : o.dst = none) (hx : a.eval x = .pointer (some ⟨g, j, none⟩)) (hy : a.eval y = v) (h1 : v.oneCell' = true)
    (k : ∀ w1, Az (Hq base w0 w1 (L.set i (.box g (cs.setIfInBounds j v) t))) → Kc a w1) : if Region.wanted o (yielded ops a.tmps) = true then Oper.wp P o a w Kc Q else Kc (a.put none undef) w :=
  last_st hw hN (h.run_stb i e j hj hi ho hx hy h1) (k _ ⟨h.set_box i e j v⟩)
end
def moreD (D : Dd) (p : S54) : Dd := { D with l4 := D.l4 ++ [p] }
def newS (S : Nat → Prop) (w w' : World) : Nat → Prop := fun k => (S k ∨ w.heap.size ≤ k) ∧ k < w'.heap.size
section
variable {b : Nat} {ws W w1 : World} {L : List Part} {S : Nat → Prop} {wo : World} {M : Mm} {D : Dd}
theorem app_of (H : Hq b ws W L) (i : Nat) (e : L[i]? = some (.set S wo)) (O : OwS wo b S M D) {p : S54} {v1 : Value} (hr : Kd.R k54 54 w1 b (fun k => S k ∨ W.heap.size ≤ k) v1 (D.l4 ++ [p])) (hb : Below b ws w1) (hg : W.grownBy w1 (M.s4 D).ownBlock) :
    ∃ A c, v1 = .slice A (D.l4 ++ [p]).length c ∧ Hq b ws w1 (L.set i (.set (newS S W w1) w1)) ∧ OwS w1 b (newS S W w1) ⟨M.A1, M.c1, M.A2, M.c2, M.A3, M.c3, A, c⟩ (moreD D p) := by
  obtain ⟨A, c, rfl⟩ := Kd.R_slice hr
  have O' := H.ows i e O
  have g4 := own_ge O'.o4
  have hbel := H.bel
  refine ⟨A, c, rfl, H.wrote i e ⟨hb.os.trans hbel.os.symm, hb.tape.trans hbel.tape.symm, hb.output.trans hbel.output.symm, hg.size, fun k h1 => (hb.block k h1).trans (hbel.block k h1).symm⟩ (fun k h1 h2 => hg.block k h1 fun e => h2 (g4 k e.symm).2), ?_⟩
  have up : ∀ k, (S k ∨ W.heap.size ≤ k) → k < w1.heap.size → newS S W w1 k := fun k h1 h2 => ⟨h1, h2⟩
  exact ⟨Kd.R_mono (Kd.R_bound (R_far_types O'.o1 O'.o4 (by decide) hg ownerless_string)) fun k hk => ⟨up k (.inl hk.1.1) hk.2.2.1, hk.1.2⟩, Kd.R_mono (Kd.R_bound (R_far_types O'.o2 O'.o4 (by decide) hg ownerless_string)) fun k hk => ⟨up k (.inl hk.1.1) hk.2.2.1, hk.1.2⟩,
    Kd.R_mono (Kd.R_bound (R_far_types O'.o3 O'.o4 (by decide) hg ownerless_bool)) fun k hk => up k (.inl hk.1) hk.2.2.1, Kd.R_mono (Kd.R_bound hr) fun k hk => up k hk.1 hk.2.2.1⟩
end
section
variable {ops : Array Oper} {Q : Exit → Act → World → Prop} {rest : List Oper} {o : Oper} {a : Act} {b : Nat} {ws W w1 : World} {L : List Part} {S : Nat → Prop} {wo : World} {M : Mm} {D : Dd} {Kc : Act → World → Prop}
theorem Hq.app (H : Hq b ws W L) (i : Nat) (e : L[i]? = some (.set S wo)) (O : OwS wo b S M D) (hl : D.l4.length ≤ 1000) (p : S54) (hgd : o.guard = none) (s x : Operand) (ho : o.op = .call { callee := .builtin .append, args := #[s, x], argTypes := #[26, 26] }) (hs : a.eval s = .slice M.A4 D.l4.length M.c4) (hx : a.eval x = .slice (some ⟨W.heap.size, 0, none⟩) 1 1)
    (k : ∀ A c w1 (q : List S54), Az (q = D.l4 ++ [p]) → Az (Hq b ws w1 (L.set i (.set (newS S W w1) w1))) → Az (OwS w1 b (newS S W w1) ⟨M.A1, M.c1, M.A2, M.c2, M.A3, M.c3, A, c⟩ { D with l4 := q }) → wpList Try.prog ops Q rest (a.put o.dst (.slice A q.length c)) w1) :
    wpList Try.prog ops Q (o :: rest) a (W.alloc (.cells #[.bool p.f0, .int .i64 p.f1, .string p.f2] 54)) := by
  have O' := H.ows i e O
  refine Kd.R_append k54 (w0 := ws) b hgd s x 26 54 (.agg #[(.bool false), (.int .i64 0), (.string ⟨#[]⟩)]) 32 ho Try.underlying26 info54 rfl (by decide) (by omega) (M.s4 D) D.l4 p [.bool p.f0, .int .i64 p.f1, .string p.f2] (fun k => S k ∨ W.heap.size ≤ k) (fun _ => False) hs hx (k54_mkM _ _ _ p) (fun _ hk => hk.elim) (fun k hk => .inr hk) (Kd.R_mono O'.o4 fun _ hk => .inl hk) H.bel H.ge (by omega) ?_
  intro v1 w1 hr hb hg _
  obtain ⟨A, c, rfl, h1, h2⟩ := app_of H i e O hr hb hg
  exact k A c w1 _ ⟨rfl⟩ ⟨h1⟩ ⟨h2⟩
theorem Hq.app_ (H : Hq b ws W L) (i : Nat) (e : L[i]? = some (.set S wo)) (O : OwS wo b S M D) (hl : D.l4.length ≤ 1000) (p : S54) (hw : Region.wanted o (yielded ops a.tmps) = true) (s x : Operand) (ho : o.op = .call { callee := .builtin .append, args := #[s, x], argTypes := #[26, 26] }) (hs : a.eval s = .slice M.A4 D.l4.length M.c4) (hx : a.eval x = .slice (some ⟨W.heap.size, 0, none⟩) 1 1)
    (k : ∀ A c w1 (q : List S54), Az (q = D.l4 ++ [p]) → Az (Hq b ws w1 (L.set i (.set (newS S W w1) w1))) → Az (OwS w1 b (newS S W w1) ⟨M.A1, M.c1, M.A2, M.c2, M.A3, M.c3, A, c⟩ { D with l4 := q }) → Kc (a.put o.dst (.slice A q.length c)) w1) :
    if Region.wanted o (yielded ops a.tmps) = true then Oper.wp Try.prog o a (W.alloc (.cells #[.bool p.f0, .int .i64 p.f1, .string p.f2] 54)) Kc Q else Kc (a.put o.dst undef) (W.alloc (.cells #[.bool p.f0, .int .i64 p.f1, .string p.f2] 54)) := by
  have O' := H.ows i e O
  refine Kd.R_append_step k54 (w0 := ws) b hw s x 26 54 (.agg #[(.bool false), (.int .i64 0), (.string ⟨#[]⟩)]) 32 ho Try.underlying26 info54 rfl (by decide) (by omega) (M.s4 D) D.l4 p [.bool p.f0, .int .i64 p.f1, .string p.f2] (fun k => S k ∨ W.heap.size ≤ k) (fun _ => False) hs hx (k54_mkM _ _ _ p) (fun _ hk => hk.elim) (fun k hk => .inr hk) (Kd.R_mono O'.o4 fun _ hk => .inl hk) H.bel H.ge (by omega) ?_
  intro v1 w1 hr hb hg _
  obtain ⟨A, c, rfl, h1, h2⟩ := app_of H i e O hr hb hg
  exact k A c w1 _ ⟨rfl⟩ ⟨h1⟩ ⟨h2⟩
end
def LiesS (w : World) (S : Nat → Prop) (M : Mm) (D : Dd) : Prop := ∀ w', (∀ k, S k → w'.heap[k]? = w.heap[k]?) → Rd w' M D
theorem OwS.lies {w : World} {b : Nat} {S : Nat → Prop} {M : Mm} {D : Dd} (h : OwS w b S M D) : LiesS w S M D := fun w' hk => (h.move hk).rd
theorem OwS.lies_drop {w : World} {b : Nat} {S : Nat → Prop} {A1 A3 A4 : Option Addr} {g2 c1 c2 c3 c4 : Nat} {D : Dd} (h : OwS w b S ⟨A1, c1, some ⟨g2, 0, none⟩, c2, A3, c3, A4, c4⟩ D) (h2 : D.l2.length = 2) : LiesS w S ⟨A1, c1, some ⟨g2, 1, none⟩, c2 - 1, A3, c3, A4, c4⟩ { D with l2 := D.l2.drop 1 } := fun w' hk => by
  have r := (h.move hk).rd
  have hc : 2 ≤ c2 := by have := r.h2; simp only at this; omega
  have q := Kd.C_drop (m := 1) r.r2 (by omega) r.h2
  rw [if_neg (by simp only; omega)] at q
  have hz : (⟨g2, 0, none⟩ : Addr).add (1 * Kd.string.sz) = ⟨g2, 1, none⟩ := add0 g2 1
  rw [Option.map_some, hz] at q
  exact ⟨r.r1, r.h1, q, by show (D.l2.drop 1).length ≤ c2 - 1; rw [List.length_drop]; omega, r.r3, r.h3, r.r4, r.h4⟩
theorem Hq.apart {b : Nat} {ws w : World} {L : List Part} (H : Hq b ws w L) (i j : Nat) {p q : Part} (hij : i ≠ j) (e : L[i]? = some p) (e' : L[j]? = some q) : p.Off q := by
  obtain ⟨hi1, hi2⟩ := List.getElem?_eq_some_iff.1 e
  obtain ⟨hj1, hj3⟩ := List.getElem?_eq_some_iff.1 e'
  rw [← hi2, ← hj3]
  rcases Nat.lt_or_gt_of_ne hij with hl | hl
  · exact List.pairwise_iff_getElem.1 H.dis i j hi1 hj1 hl
  · exact (List.pairwise_iff_getElem.1 H.dis j i hj1 hi1 hl).symm
def DrawsDisk (w0 : World) (b : List Int) (g m : Nat) (w : World) (e : Ending) (w' : World) : Prop := ∃ (M : Mm) (D : Dd) (cs' : Array Value), e = .returned (.agg (cD M D)) ∧ FitsD D ∧ (∀ w'', (∀ k, w.heap.size ≤ k → k < w'.heap.size → w''.heap[k]? = w'.heap[k]?) → Rd w'' M D) ∧ Rdr w0 b m cs' ∧ w'.heap[g]? = some (.cells cs' 104 (0, 0)) ∧ Below w0.heap.size w w' ∧ ∀ k, k < w.heap.size → k ≠ g → w'.heap[k]? = w.heap[k]?
theorem draws_of {w0 w w' wo : World} {b : List Int} {g m : Nat} {L : List Part} {cs' : Array Value} {S : Nat → Prop} {M : Mm} {D : Dd} (hwg : g < w.heap.size) (H : Hq w0.heap.size w w' L) (ig ir io : Nat) (eg : L[ig]? = some (.box g cs' 104)) (er : L[ir]? = some (.set (fun k => k ≠ g ∧ w0.heap.size ≤ k ∧ k < w.heap.size) w)) (eo : L[io]? = some (.set S wo)) (n1 : io ≠ ig) (n2 : io ≠ ir) (hr : Rdr w0 b m cs') (hl : LiesS wo S M D) (hf : FitsD D) : DrawsDisk w0 b g m w (.returned (.agg (cD M D))) w' := by
  refine ⟨M, D, cs', rfl, hf, fun w'' hk => hl w'' fun k hS => ?_, hr, H.box ig eg, H.bel, fun k h1 h2 => ?_⟩
  · have hin := H.set_in io eo k hS
    rw [← H.same io eo k hS]
    refine hk k ?_ hin.2
    refine Nat.le_of_not_lt fun hlt => ?_
    by_cases hg : k = g
    · exact H.apart io ig n1 eo eg k hS hg
    · exact H.apart io ir n2 eo er k hS ⟨hg, hin.1, hlt⟩
  · by_cases hb : w0.heap.size ≤ k
    · exact H.same ir er k ⟨h2, hb, h1⟩
    · exact H.bel.block k (by omega)
end Go.Proofs.Ytkgpnloghmbmlaa.Hq
namespace Go.Proofs.Ytkgpnloghmbmlaa.Hq
open Go.RowKit Go.Proofs.Ytkgpnloghmbmlaa.Print Go.Proofs.YtkgpnloghmbmlaaW.PrintWords Go.Proofs.YtkgpnloghmbmlaaW.PrintLast Go.Proofs.YtkgpnloghmbmlaaW.PrintMore Go.Proofs.Ytkgpnloghmbmlaa.Pure Go.Proofs.Ytkgpnloghmbmlaa.Hd
set_option linter.unusedVariables false
set_option linter.unusedSimpArgs false
theorem cell4' {M : Mm} {D : Dd} {n : Nat} (h : D.l4.length = n) : (cD M D)[4]? = some (.slice M.A4 n M.c4) := by rw [← h]; rfl
theorem OwS.up {w w' : World} {b : Nat} {S S' : Nat → Prop} {M : Mm} {D : Dd} (h : OwS w b S M D) (hi : ∀ k, S k → S' k) : OwS w b S' M D := ⟨Kd.R_mono h.o1 fun k hk => ⟨hi k hk.1, hk.2⟩, Kd.R_mono h.o2 fun k hk => ⟨hi k hk.1, hk.2⟩, Kd.R_mono h.o3 fun k hk => hi k hk, Kd.R_mono h.o4 fun k hk => hi k hk⟩
theorem Hq.start (w : World) : Hq w.heap.size w w [] := ⟨Below.refl _ _, Nat.le_refl _, fun _ h => (by cases h), List.Pairwise.nil⟩
theorem touch_as {b : Nat} {S : Nat → Prop} {D D' : Dd} {w w' : World} {e : Ending} (h : D = D') (t : Touch b S D w e w') : Touch b S D' w e w' := h ▸ t
theorem touch_end {b : Nat} {w w' wo : World} {L : List Part} {S S1 : Nat → Prop} {M : Mm} {D : Dd} (H : Hq b w w' L) (i j : Nat) (eo : L[i]? = some (.set S1 wo)) (er : L[j]? = some (.set (fun k => ¬ S k ∧ b ≤ k ∧ k < w.heap.size) w)) (hij : i ≠ j) (O : OwS wo b S1 M D) : Touch b S D w (.returned (.agg (cD M D))) w' := by
  refine ⟨M, rfl, (H.ows i eo O).up (w' := w') fun k hk => ?_, H.bel, H.kept j er⟩
  have hin := H.set_in i eo k hk
  refine ⟨?_, hin.2⟩
  by_cases hS : S k
  · exact .inl hS
  · refine .inr (Nat.le_of_not_lt fun hlt => H.apart i j hij eo er k hk ⟨hS, hin.1, hlt⟩)
section
variable {ops : Array Oper} {Q : Exit → Act → World → Prop} {rest : List Oper} {o : Oper} {a : Act} {w : World}
theorem lit54 (p : S54) (hgd : o.guard = none) (hrun : (execOp a.eval o).run Try.prog w = .ok (.value (.slice (some ⟨w.heap.size, 0, none⟩) 1 1)) (w.alloc (.cells #[.bool p.f0, .int .i64 p.f1, .string p.f2] 54)))
    (k : wpList Try.prog ops Q rest (a.put o.dst (.slice (some ⟨w.heap.size, 0, none⟩) 1 1)) (w.alloc (.cells #[.bool p.f0, .int .i64 p.f1, .string p.f2] 54))) : wpList Try.prog ops Q (o :: rest) a w := Kd.event_run hgd hrun k
end
theorem OwS.own {w : World} {b : Nat} {S : Nat → Prop} {M : Mm} {D : Dd} (h : OwS w b S M D) : Own w b w.heap.size M D :=
  ⟨Kd.R_mono (Kd.R_bound h.o1) fun k hk => ⟨hk.2.2.1, hk.1.2⟩, Kd.R_mono (Kd.R_bound h.o2) fun k hk => ⟨hk.2.2.1, hk.1.2⟩, Kd.R_mono (Kd.R_bound h.o3) fun k hk => hk.2.2.1, Kd.R_mono (Kd.R_bound h.o4) fun k hk => hk.2.2.1⟩
theorem sizeZ26 : (Try.prog.info? 26).map (·.size) = some 1 := by kernel_rfl
theorem gives_as' {D D' : Dd} {w w' : World} {e : Ending} (h : D = D') (t : Gives D w e w') : Gives D' w e w' := h ▸ t
theorem l3Put_callz {w : World} {p : S54} {r : Bool} (hr : putB p = r) : Calls Try.prog 66 #[.agg (cP p)] w fun e w' => e = .returned (.bool r) ∧ Below w.heap.size w w' := by
  rw [← hr]
  exact spec_l3Put.calls p.f0 p.f1 p.f2 (putB p) w (l3Put_eq p)
theorem OwS.of_own' {w : World} {b lo hi : Nat} {M : Mm} {D : Dd} (h : Own w lo hi M D) (hb : b ≤ lo) : OwS w b (fun k => lo ≤ k ∧ k < hi) M D := OwS.of_own h hb
set_option maxHeartbeats 8000000 in
set_option maxRecDepth 100000 in
theorem l3Write_callz {w0 w : World} {S : Nat → Prop} {M : Mm} {D : Dd} (hB : Below w0.heap.size w0 w) (hS : ∀ k, S k → w0.heap.size ≤ k ∧ k < w.heap.size) (h : OwS w w0.heap.size S M D) (hg : GoodD D) (p : S54) : Calls Try.prog 85 #[.agg (cD M D), .agg (cP p)] w (Touch w0.heap.size S (laidD D p) w) := by
  have hs28 := sizeE28
  have hs54 := sizeE54
  have HB := Az.mk hB
  have HG := Az.mk hg
  have O := Az.mk h
  have H := Az.mk (Hq.start_set w hB.size hS)
  have tk0 : True := trivial
  clear hB hS h
  by_cases h1 : D.st = 1
  · skip
    have HE := Az.mk (show D = laidD D p from (if_pos h1).symm)
    have hs1 : (D.st == 1) = true := by simp [h1]
    clear h1
    clear hg
    go_enter Try.func85, Try.ntmps85
    go_wp2_with (first | ((with_reducible refine zqg (N := 2) rfl ?_); refine H.out.bx rfl (cD M D) 28 ?hr ?_; (case hr => first | (go_simp; done) | (go_simp; rfl)); intro g2 w2 H1; clear H; have H := H1; clear H1; (try simp only [Act.put, List.setIfInBounds_toArray, List.set_cons_zero, List.set_cons_succ])) | ((with_reducible refine zqg (N := 3) rfl ?_); refine H.out.bx rfl (cP p) 54 ?hr ?_; (case hr => first | (go_simp; done) | (go_simp; rfl)); intro g3 w3 H1; clear H; have H := H1; clear H1; (try simp only [Act.put, List.setIfInBounds_toArray, List.set_cons_zero, List.set_cons_succ])) | ((with_reducible refine zqg (N := 4) rfl ?_); refine H.out.bx rfl (#[.int .i64 0, .slice none 0 0, .slice none 0 0, .slice none 0 0, .slice none 0 0]) 28 ?hr ?_; (case hr => first | (go_simp; done) | (go_simp; rfl)); intro g4 w4 H1; clear H; have H := H1; clear H1; (try simp only [Act.put, List.setIfInBounds_toArray, List.set_cons_zero, List.set_cons_succ])) | ((with_reducible refine zqg (N := 6) rfl ?_); refine H.out.ld_cell 2 rfl 0 (v := .int .i64 D.st) rfl rfl rfl rfl Try.underlying3 rfl ?_; (try simp only [Act.put, List.setIfInBounds_toArray, List.set_cons_zero, List.set_cons_succ])) | ((with_reducible refine zqg (N := 8) rfl ?_); refine H.out.ld_row 2 rfl rfl rfl rfl Try.underlying28 rfl hs28 ?_; (try simp only [Act.put, List.setIfInBounds_toArray, List.set_cons_zero, List.set_cons_succ])) | ((with_reducible refine gate_store (t := 28) (p := 4) rfl ?_); refine H.out.st_row 0 rfl rfl (x := .tmp 4) (y := .tmp 8) rfl rfl rfl (cD M D) rfl hs28 rfl (cD_one _ _) ?_; intro ws1 H1; clear H; have H := H1; clear H1))
    exact bodyPost_ret (results_cell_row rfl _ _ g4 28 _ (0, 0) _ rfl (H.out.box 0 rfl) Try.underlying28 rfl (by kernel_rfl)) rfl (touch_as HE.out (touch_end H.out 3 4 rfl rfl (by decide) O.out))
  · skip
    by_cases h2 : D.l4.length = 40
    · skip
      have HE := Az.mk (show ∀ q, q = (comeD D).l4 ++ [p] → { comeD D with l4 := q } = laidD D p from fun q hq => by rw [hq]; unfold laidD; rw [if_neg h1, if_pos h2]; rfl)
      have H40 := Az.mk h2
      have hs1 : (D.st == 1) = false := by simp [h1]
      clear h1 h2
      clear hg
      go_enter Try.func85, Try.ntmps85
      have HL4 := Az.mk (show (comeD D).l4.length ≤ 1000 from by show ([] : List S54).length ≤ 1000; simp)
      go_wp2_with (first | ((with_reducible refine zqg (N := 2) rfl ?_); refine H.out.bx rfl (cD M D) 28 ?hr ?_; (case hr => first | (go_simp; done) | (go_simp; rfl)); intro g2 w2 H1; clear H; have H := H1; clear H1; (try simp only [Act.put, List.setIfInBounds_toArray, List.set_cons_zero, List.set_cons_succ])) | ((with_reducible refine zqg (N := 3) rfl ?_); refine H.out.bx rfl (cP p) 54 ?hr ?_; (case hr => first | (go_simp; done) | (go_simp; rfl)); intro g3 w3 H1; clear H; have H := H1; clear H1; (try simp only [Act.put, List.setIfInBounds_toArray, List.set_cons_zero, List.set_cons_succ])) | ((with_reducible refine zqg (N := 4) rfl ?_); refine H.out.bx rfl (#[.int .i64 0, .slice none 0 0, .slice none 0 0, .slice none 0 0, .slice none 0 0]) 28 ?hr ?_; (case hr => first | (go_simp; done) | (go_simp; rfl)); intro g4 w4 H1; clear H; have H := H1; clear H1; (try simp only [Act.put, List.setIfInBounds_toArray, List.set_cons_zero, List.set_cons_succ])) | ((with_reducible refine zqg (N := 6) rfl ?_); refine H.out.ld_cell 2 rfl 0 (v := .int .i64 D.st) rfl rfl rfl rfl Try.underlying3 rfl ?_; (try simp only [Act.put, List.setIfInBounds_toArray, List.set_cons_zero, List.set_cons_succ])) | ((with_reducible refine zqg (N := 10) rfl ?_); refine H.out.ld_cell 2 rfl 4 (v := .slice M.A4 40 M.c4) (cell4' H40.out) rfl rfl rfl Try.underlying26 rfl ?_; (try simp only [Act.put, List.setIfInBounds_toArray, List.set_cons_zero, List.set_cons_succ])) | ((with_reducible refine zqg (N := 13) rfl ?_); refine H.out.ld_row 2 rfl rfl rfl rfl Try.underlying28 rfl hs28 ?_; (try simp only [Act.put, List.setIfInBounds_toArray, List.set_cons_zero, List.set_cons_succ])) | (go_at_call 79; have _tk := tk0; refine (l3Flush_callq (HB.out.trans H.out.bel) (H.out.ows 3 rfl O.out) HG.out).mono ?_; rintro e w14 ⟨M14, rfl, ho, hb, hk⟩; have H1 := Az.mk (H.out.wrote 3 rfl hb hk); have O1 := Az.mk ho; have HG1 := Az.mk (good_come HG.out); clear ho hb hk; clear H O HG; have H := H1; have O := O1; have HG := HG1; clear H1 O1 HG1; clear tk0 _tk; have tk1 : True := trivial) | ((with_reducible refine gate_store (t := 28) (p := 2) rfl ?_); refine H.out.st_row 2 rfl rfl (x := .tmp 2) (y := .tmp 14) rfl rfl rfl (cD M14 (comeD D)) rfl hs28 rfl (cD_one _ _) ?_; intro ws1 H1; clear H; have H := H1; clear H1) | ((with_reducible refine zqg (N := 16) rfl ?_); refine H.out.ld_cell 2 rfl 4 (v := .slice M14.A4 (comeD D).l4.length M14.c4) rfl rfl rfl rfl Try.underlying26 rfl ?_; (try simp only [Act.put, List.setIfInBounds_toArray, List.set_cons_zero, List.set_cons_succ])) | ((with_reducible refine zqg (N := 17) rfl ?_); refine H.out.ld_row 1 rfl rfl rfl rfl Try.underlying54 rfl hs54 ?_; (try simp only [Act.put, List.setIfInBounds_toArray, List.set_cons_zero, List.set_cons_succ])) | ((with_reducible refine zqg (N := 18) rfl ?_); refine lit54 p rfl ?hr ?_; (case hr => simp only [cP]; first | (go_simp; done) | (go_simp; rfl)); (try simp only [Act.put, List.setIfInBounds_toArray, List.set_cons_zero, List.set_cons_succ])) | ((with_reducible refine gate_builtin (b := .append) (xs := #[.tmp 16, .tmp 18]) rfl ?_); at_builtin; refine H.out.app 3 rfl O.out HL4.out p rfl (.tmp 16) (.tmp 18) rfl rfl rfl ?_; intro A19 c19 w19 q19 HQ19 H1 O1; clear H O; have H := H1; have O := O1; clear H1 O1; (try simp only [Act.put, List.setIfInBounds_toArray, List.set_cons_zero, List.set_cons_succ])) | ((with_reducible refine gate_store (t := 26) (p := 20) rfl ?_); refine H.out.stb 2 rfl 4 (.slice A19 q19.length c19) rfl rfl sizeZ26 rfl rfl rfl rfl rfl ?_; intro ws5 H1; clear H; have H := H1; clear H1) | ((with_reducible refine zqg (N := 21) rfl ?_); refine H.out.ld_row 2 rfl rfl rfl rfl Try.underlying28 rfl hs28 ?_; (try simp only [Act.put, List.setIfInBounds_toArray, List.set_cons_zero, List.set_cons_succ])) | ((with_reducible refine gate_store (t := 28) (p := 4) rfl ?_); refine H.out.st_row 0 rfl rfl (x := .tmp 4) (y := .tmp 21) rfl rfl rfl (cD ⟨M14.A1, M14.c1, M14.A2, M14.c2, M14.A3, M14.c3, A19, c19⟩ { (comeD D) with l4 := q19 }) rfl hs28 rfl (cD_one _ _) ?_; intro ws6 H1; clear H; have H := H1; clear H1))
      exact bodyPost_ret (results_cell_row rfl _ _ g4 28 _ (0, 0) _ rfl (H.out.box 0 rfl) Try.underlying28 rfl (by kernel_rfl)) rfl (touch_as (HE.out q19 HQ19.out) (touch_end H.out 3 4 rfl rfl (by decide) O.out))
    · skip
      have HE := Az.mk (show ∀ q, q = D.l4 ++ [p] → { D with l4 := q } = laidD D p from fun q hq => by rw [hq]; unfold laidD; rw [if_neg h1, if_neg h2])
      have hs1 : (D.st == 1) = false := by simp [h1]
      have hs2 : ((D.l4.length : Int) == 40) = false := by rw [beq_eq_false_iff_ne]; omega
      clear h1 h2
      clear hg
      go_enter Try.func85, Try.ntmps85
      have HL4 := Az.mk (show D.l4.length ≤ 1000 from by have := HG.out.sh.2.2.2.2; omega)
      go_wp2_with (first | ((with_reducible refine zqg (N := 2) rfl ?_); refine H.out.bx rfl (cD M D) 28 ?hr ?_; (case hr => first | (go_simp; done) | (go_simp; rfl)); intro g2 w2 H1; clear H; have H := H1; clear H1; (try simp only [Act.put, List.setIfInBounds_toArray, List.set_cons_zero, List.set_cons_succ])) | ((with_reducible refine zqg (N := 3) rfl ?_); refine H.out.bx rfl (cP p) 54 ?hr ?_; (case hr => first | (go_simp; done) | (go_simp; rfl)); intro g3 w3 H1; clear H; have H := H1; clear H1; (try simp only [Act.put, List.setIfInBounds_toArray, List.set_cons_zero, List.set_cons_succ])) | ((with_reducible refine zqg (N := 4) rfl ?_); refine H.out.bx rfl (#[.int .i64 0, .slice none 0 0, .slice none 0 0, .slice none 0 0, .slice none 0 0]) 28 ?hr ?_; (case hr => first | (go_simp; done) | (go_simp; rfl)); intro g4 w4 H1; clear H; have H := H1; clear H1; (try simp only [Act.put, List.setIfInBounds_toArray, List.set_cons_zero, List.set_cons_succ])) | ((with_reducible refine zqg (N := 6) rfl ?_); refine H.out.ld_cell 2 rfl 0 (v := .int .i64 D.st) rfl rfl rfl rfl Try.underlying3 rfl ?_; (try simp only [Act.put, List.setIfInBounds_toArray, List.set_cons_zero, List.set_cons_succ])) | ((with_reducible refine zqg (N := 10) rfl ?_); refine H.out.ld_cell 2 rfl 4 (v := .slice M.A4 D.l4.length M.c4) rfl rfl rfl rfl Try.underlying26 rfl ?_; (try simp only [Act.put, List.setIfInBounds_toArray, List.set_cons_zero, List.set_cons_succ])) | ((with_reducible refine zqg (N := 16) rfl ?_); refine H.out.ld_cell 2 rfl 4 (v := .slice M.A4 D.l4.length M.c4) rfl rfl rfl rfl Try.underlying26 rfl ?_; (try simp only [Act.put, List.setIfInBounds_toArray, List.set_cons_zero, List.set_cons_succ])) | ((with_reducible refine zqg (N := 17) rfl ?_); refine H.out.ld_row 1 rfl rfl rfl rfl Try.underlying54 rfl hs54 ?_; (try simp only [Act.put, List.setIfInBounds_toArray, List.set_cons_zero, List.set_cons_succ])) | ((with_reducible refine zqg (N := 18) rfl ?_); refine lit54 p rfl ?hr ?_; (case hr => simp only [cP]; first | (go_simp; done) | (go_simp; rfl)); (try simp only [Act.put, List.setIfInBounds_toArray, List.set_cons_zero, List.set_cons_succ])) | ((with_reducible refine gate_builtin (b := .append) (xs := #[.tmp 16, .tmp 18]) rfl ?_); at_builtin; refine H.out.app 3 rfl O.out HL4.out p rfl (.tmp 16) (.tmp 18) rfl rfl rfl ?_; intro A19 c19 w19 q19 HQ19 H1 O1; clear H O; have H := H1; have O := O1; clear H1 O1; (try simp only [Act.put, List.setIfInBounds_toArray, List.set_cons_zero, List.set_cons_succ])) | ((with_reducible refine gate_store (t := 26) (p := 20) rfl ?_); refine H.out.stb 2 rfl 4 (.slice A19 q19.length c19) rfl rfl sizeZ26 rfl rfl rfl rfl rfl ?_; intro ws5 H1; clear H; have H := H1; clear H1) | ((with_reducible refine zqg (N := 21) rfl ?_); refine H.out.ld_row 2 rfl rfl rfl rfl Try.underlying28 rfl hs28 ?_; (try simp only [Act.put, List.setIfInBounds_toArray, List.set_cons_zero, List.set_cons_succ])) | ((with_reducible refine gate_store (t := 28) (p := 4) rfl ?_); refine H.out.st_row 0 rfl rfl (x := .tmp 4) (y := .tmp 21) rfl rfl rfl (cD ⟨M.A1, M.c1, M.A2, M.c2, M.A3, M.c3, A19, c19⟩ { D with l4 := q19 }) rfl hs28 rfl (cD_one _ _) ?_; intro ws6 H1; clear H; have H := H1; clear H1))
      exact bodyPost_ret (results_cell_row rfl _ _ g4 28 _ (0, 0) _ rfl (H.out.box 0 rfl) Try.underlying28 rfl (by kernel_rfl)) rfl (touch_as (HE.out q19 HQ19.out) (touch_end H.out 3 4 rfl rfl (by decide) O.out))
set_option maxHeartbeats 8000000 in
set_option maxRecDepth 100000 in
theorem specPut_callz {w : World} {M : Mm} {D : Dd} {p : S54} (hf : FitsD D) (h : Rd w M D) : Calls Try.prog 39 #[.agg (cD M D), .agg (cP p)] w (Gives (putD D p) w) := by
  have hs28 := sizeE28
  have hs54 := sizeE54
  have HF := Az.mk hf
  have HR := Az.mk h
  have HB := Az.mk (Below.refl w.heap.size w)
  have H := Az.mk (Hq.start w)
  have tk0 : True := trivial
  have hgb : goodB D.st D.l1 D.l2 D.l3 D.l4 = true ↔ GoodD D := by simp [goodB, GoodD]
  clear hf h
  by_cases hg : GoodD D
  · skip
    have HGB := Az.mk (hgb.2 hg)
    have HG := Az.mk hg
    by_cases hp : putB p = true
    · skip
      have HPB := Az.mk hp
      have HE := Az.mk (show laidD D p = putD D p from (if_pos ⟨hg, hp⟩).symm)
      clear hg hp hgb
      go_enter Try.func39, Try.ntmps39
      go_wp2_with (first | ((with_reducible refine zqg (N := 2) rfl ?_); refine H.out.bx rfl (cD M D) 28 ?hr ?_; (case hr => first | (go_simp; done) | (go_simp; rfl)); intro g2 w2 H1; clear H; have H := H1; clear H1; (try simp only [Act.put, List.setIfInBounds_toArray, List.set_cons_zero, List.set_cons_succ])) | ((with_reducible refine zqg (N := 3) rfl ?_); refine H.out.bx rfl (cP p) 54 ?hr ?_; (case hr => first | (go_simp; done) | (go_simp; rfl)); intro g3 w3 H1; clear H; have H := H1; clear H1; (try simp only [Act.put, List.setIfInBounds_toArray, List.set_cons_zero, List.set_cons_succ])) | ((with_reducible refine zqg (N := 4) rfl ?_); refine H.out.bx rfl (#[.int .i64 0, .slice none 0 0, .slice none 0 0, .slice none 0 0, .slice none 0 0]) 28 ?hr ?_; (case hr => first | (go_simp; done) | (go_simp; rfl)); intro g4 w4 H1; clear H; have H := H1; clear H1; (try simp only [Act.put, List.setIfInBounds_toArray, List.set_cons_zero, List.set_cons_succ])) | ((with_reducible refine zqg (N := 5) rfl ?_); refine H.out.ld_row 2 rfl rfl rfl rfl Try.underlying28 rfl hs28 ?_; (try simp only [Act.put, List.setIfInBounds_toArray, List.set_cons_zero, List.set_cons_succ])) | (go_at_call 26; have _tk := tk0; refine (specOk_call HF.out HGB.out (HR.out.below H.out.bel)).mono ?_; rintro e w6 ⟨rfl, hb⟩; have H1 := Az.mk (H.out.step hb); clear hb; clear H; have H := H1; clear H1; clear tk0 _tk; have tk1 : True := trivial) | ((with_reducible refine zqg (N := 9) rfl ?_); refine gate_guard (by rfl) ?_; dsimp only; refine H.out.ld_row 1 rfl rfl rfl rfl Try.underlying54 rfl hs54 ?_; (try simp only [Act.put, List.setIfInBounds_toArray, List.set_cons_zero, List.set_cons_succ])) | (go_at_call 66; have _tk := tk1; refine (l3Put_callz HPB.out).mono ?_; rintro e w10 ⟨rfl, hb⟩; have H1 := Az.mk (H.out.step hb); clear hb; clear H; have H := H1; clear H1; clear tk1 _tk; have tk2 : True := trivial))
      refine start_ (n := 5) (S := fun w' => Hq w.heap.size w w' [.box g2 (cD M D) 28, .box g3 (cP p) 54]) (ds := []) #[false, false, false, false, false] (by kernel_rfl) rfl rfl (H.out.drew.sel [2, 1] _ (by decide) rfl) (fun hHeld => ?_)
      have H1 := Az.mk H.out.drew
      clear H; have H := H1; clear H1
      generalize World.drew _ = wd3 at hHeld H ⊢
      refine zqt (i := 0) (N := some 14) (v := .agg (cD M D)) (a' := ?_) #[true, false, false, false, false] rfl rfl (by kernel_rfl) (fun _ _ _ h => h) (Or.inl ⟨by rfl, fun w' s0 => s0.run_row 0 rfl rfl rfl Try.underlying28 rfl hs28⟩) hHeld ?_ ?_
      rotate_left
      · simp only [Act.put, List.setIfInBounds_toArray, List.set_cons_zero, List.set_cons_succ, i64_w, i32_w]
        rfl
      refine zqt (i := 2) (N := some 16) (v := .agg (cP p)) (a' := ?_) #[true, false, true, false, false] rfl rfl (by kernel_rfl) (fun _ _ _ h => h) (Or.inl ⟨by rfl, fun w' s0 => s0.run_row 1 rfl rfl rfl Try.underlying54 rfl hs54⟩) hHeld ?_ ?_
      rotate_left
      · simp only [Act.put, List.setIfInBounds_toArray, List.set_cons_zero, List.set_cons_succ, i64_w, i32_w]
        rfl
      refine one_ (i := 1) (N := some 15) #[true, true, true, false, false] rfl rfl (by kernel_rfl) (by decide) (fun K hK => ?_)
      refine goes_ Try.func80 (by kernel_rfl) rfl #[.agg (cD M D)] (by rfl) rfl rfl (by (try simp only [List.map_toArray, List.map_cons, List.map_nil]); first | done | rfl) ?_
      refine (l3Copy_call HF.out (HR.out.below H.out.bel)).mono ?_
      rintro e w15 ⟨M15, rfl, ho, hb⟩
      refine ⟨_, rfl, ?_⟩
      have O := Az.mk (OwS.of_own' ho H.out.ge)
      have H1 := Az.mk (H.out.made hb)
      clear ho hb
      clear H; have H := H1; clear H1
      refine hK.out _ _ (H.out.sel [3, 2] _ (by decide) rfl) (fun hHeld => ?_)
      clear hK K
      refine norm_ (a' := ?_) ?_ ?_
      rotate_left
      · show Act.put _ (some 15) _ = _
        simp only [Act.put, List.setIfInBounds_toArray, List.set_cons_zero, List.set_cons_succ, i64_w, i32_w]
        rfl
      refine one_ (i := 3) (N := some 17) #[true, true, true, true, false] rfl rfl (by kernel_rfl) (by decide) (fun K hK => ?_)
      refine goes_ Try.func85 (by kernel_rfl) rfl #[.agg (cD M15 D), .agg (cP p)] (by rfl) rfl rfl (by (try simp only [List.map_toArray, List.map_cons, List.map_nil]); first | done | rfl) ?_
      refine (l3Write_callz H.out.bel (H.out.set_in 0 rfl) (H.out.ows 0 rfl O.out) HG.out p).mono ?_
      rintro e w17 ⟨M17, rfl, ho, hb, hk⟩
      refine ⟨_, rfl, ?_⟩
      have H1 := Az.mk (H.out.wrote 0 rfl hb hk)
      have O1 := Az.mk ho
      clear ho hb hk
      clear H O; have H := H1; have O := O1; clear H1 O1
      refine hK.out _ _ (H.out.sel [3, 2] _ (by decide) rfl) (fun hHeld => ?_)
      clear hK K
      refine norm_ (a' := ?_) ?_ ?_
      rotate_left
      · show Act.put _ (some 17) _ = _
        simp only [Act.put, List.setIfInBounds_toArray, List.set_cons_zero, List.set_cons_succ, i64_w, i32_w]
        rfl
      refine one_ (i := 4) (N := none) #[true, true, true, true, true] rfl rfl (by kernel_rfl) (by decide) (fun K hK => ?_)
      refine H.out.last_row 1 rfl (by rfl) (x := .tmp 4) (y := .tmp 17) rfl rfl rfl (cD M17 (laidD D p)) rfl hs28 rfl (cD_one _ _) ?_
      intro ws3 H1
      clear H; have H := H1; clear H1
      refine hK.out _ _ (H.out.sel [3, 2] _ (by decide) rfl) (fun hHeld => ?_)
      clear hK K
      refine norm_ (a' := ?_) ?_ ?_
      rotate_left
      · rfl
      refine done_ (by kernel_rfl) ?_
      go_wp2
      exact bodyPost_ret (results_cell_row rfl _ _ g4 28 _ (0, 0) _ rfl (H.out.box 1 rfl) Try.underlying28 rfl (by kernel_rfl)) rfl (gives_as' HE.out ⟨M17, rfl, (H.out.ows 0 rfl O.out).own, H.out.bel⟩)
    · skip
      have HPB := Az.mk (show putB p = false from by simpa using hp)
      have HE := Az.mk (show noD = putD D p from (if_neg fun hh => hp hh.2).symm)
      clear hg hp hgb
      go_enter Try.func39, Try.ntmps39
      go_wp2_with (first | ((with_reducible refine zqg (N := 2) rfl ?_); refine H.out.bx rfl (cD M D) 28 ?hr ?_; (case hr => first | (go_simp; done) | (go_simp; rfl)); intro g2 w2 H1; clear H; have H := H1; clear H1; (try simp only [Act.put, List.setIfInBounds_toArray, List.set_cons_zero, List.set_cons_succ])) | ((with_reducible refine zqg (N := 3) rfl ?_); refine H.out.bx rfl (cP p) 54 ?hr ?_; (case hr => first | (go_simp; done) | (go_simp; rfl)); intro g3 w3 H1; clear H; have H := H1; clear H1; (try simp only [Act.put, List.setIfInBounds_toArray, List.set_cons_zero, List.set_cons_succ])) | ((with_reducible refine zqg (N := 4) rfl ?_); refine H.out.bx rfl (#[.int .i64 0, .slice none 0 0, .slice none 0 0, .slice none 0 0, .slice none 0 0]) 28 ?hr ?_; (case hr => first | (go_simp; done) | (go_simp; rfl)); intro g4 w4 H1; clear H; have H := H1; clear H1; (try simp only [Act.put, List.setIfInBounds_toArray, List.set_cons_zero, List.set_cons_succ])) | ((with_reducible refine zqg (N := 5) rfl ?_); refine H.out.ld_row 2 rfl rfl rfl rfl Try.underlying28 rfl hs28 ?_; (try simp only [Act.put, List.setIfInBounds_toArray, List.set_cons_zero, List.set_cons_succ])) | (go_at_call 26; have _tk := tk0; refine (specOk_call HF.out HGB.out (HR.out.below H.out.bel)).mono ?_; rintro e w6 ⟨rfl, hb⟩; have H1 := Az.mk (H.out.step hb); clear hb; clear H; have H := H1; clear H1; clear tk0 _tk; have tk1 : True := trivial) | ((with_reducible refine zqg (N := 9) rfl ?_); refine gate_guard (by rfl) ?_; dsimp only; refine H.out.ld_row 1 rfl rfl rfl rfl Try.underlying54 rfl hs54 ?_; (try simp only [Act.put, List.setIfInBounds_toArray, List.set_cons_zero, List.set_cons_succ])) | (go_at_call 66; have _tk := tk1; refine (l3Put_callz HPB.out).mono ?_; rintro e w10 ⟨rfl, hb⟩; have H1 := Az.mk (H.out.step hb); clear hb; clear H; have H := H1; clear H1; clear tk1 _tk; have tk2 : True := trivial) | ((with_reducible refine gate_store (t := 28) (p := 4) rfl ?_); refine H.out.st_row 0 rfl rfl (x := .tmp 4) (y := .tmp 13) rfl rfl rfl (#[.int .i64 0, .slice none 0 0, .slice none 0 0, .slice none 0 0, .slice none 0 0]) rfl hs28 rfl (by simp [Value.oneCell']) ?_; intro ws2 H1; clear H; have H := H1; clear H1))
      exact bodyPost_ret (results_cell_row rfl _ _ g4 28 _ (0, 0) _ rfl (H.out.box 0 rfl) Try.underlying28 rfl (by kernel_rfl)) rfl (gives_as' HE.out ⟨M0, rfl, own_no _ _ _, H.out.bel⟩)
  · skip
    have HGB := Az.mk (show goodB D.st D.l1 D.l2 D.l3 D.l4 = false from by cases hh : goodB D.st D.l1 D.l2 D.l3 D.l4 with | false => rfl | true => exact absurd (hgb.1 hh) hg)
    have HE := Az.mk (show noD = putD D p from (if_neg fun hh => hg hh.1).symm)
    clear hg hgb
    go_enter Try.func39, Try.ntmps39
    go_wp2_with (first | ((with_reducible refine zqg (N := 2) rfl ?_); refine H.out.bx rfl (cD M D) 28 ?hr ?_; (case hr => first | (go_simp; done) | (go_simp; rfl)); intro g2 w2 H1; clear H; have H := H1; clear H1; (try simp only [Act.put, List.setIfInBounds_toArray, List.set_cons_zero, List.set_cons_succ])) | ((with_reducible refine zqg (N := 3) rfl ?_); refine H.out.bx rfl (cP p) 54 ?hr ?_; (case hr => first | (go_simp; done) | (go_simp; rfl)); intro g3 w3 H1; clear H; have H := H1; clear H1; (try simp only [Act.put, List.setIfInBounds_toArray, List.set_cons_zero, List.set_cons_succ])) | ((with_reducible refine zqg (N := 4) rfl ?_); refine H.out.bx rfl (#[.int .i64 0, .slice none 0 0, .slice none 0 0, .slice none 0 0, .slice none 0 0]) 28 ?hr ?_; (case hr => first | (go_simp; done) | (go_simp; rfl)); intro g4 w4 H1; clear H; have H := H1; clear H1; (try simp only [Act.put, List.setIfInBounds_toArray, List.set_cons_zero, List.set_cons_succ])) | ((with_reducible refine zqg (N := 5) rfl ?_); refine H.out.ld_row 2 rfl rfl rfl rfl Try.underlying28 rfl hs28 ?_; (try simp only [Act.put, List.setIfInBounds_toArray, List.set_cons_zero, List.set_cons_succ])) | (go_at_call 26; have _tk := tk0; refine (specOk_call HF.out HGB.out (HR.out.below H.out.bel)).mono ?_; rintro e w6 ⟨rfl, hb⟩; have H1 := Az.mk (H.out.step hb); clear hb; clear H; have H := H1; clear H1; clear tk0 _tk; have tk1 : True := trivial) | ((with_reducible refine gate_store (t := 28) (p := 4) rfl ?_); refine H.out.st_row 0 rfl rfl (x := .tmp 4) (y := .tmp 13) rfl rfl rfl (#[.int .i64 0, .slice none 0 0, .slice none 0 0, .slice none 0 0, .slice none 0 0]) rfl hs28 rfl (by simp [Value.oneCell']) ?_; intro ws2 H1; clear H; have H := H1; clear H1))
    exact bodyPost_ret (results_cell_row rfl _ _ g4 28 _ (0, 0) _ rfl (H.out.box 0 rfl) Try.underlying28 rfl (by kernel_rfl)) rfl (gives_as' HE.out ⟨M0, rfl, own_no _ _ _, H.out.bel⟩)
end Go.Proofs.Ytkgpnloghmbmlaa.Hq
namespace Go.Proofs.Ytkgpnloghmbmlaa.Hq
open Go.RowKit Go.Proofs.Ytkgpnloghmbmlaa.Print Go.Proofs.YtkgpnloghmbmlaaW.PrintWords Go.Proofs.YtkgpnloghmbmlaaW.PrintLast Go.Proofs.YtkgpnloghmbmlaaW.PrintMore Go.Proofs.Ytkgpnloghmbmlaa.Pure Go.Proofs.Ytkgpnloghmbmlaa.Hd
set_option linter.unusedVariables false
set_option linter.unusedSimpArgs false
def lit4 (r : Nat) : Int := ([0, 0, 2, 1] : List Int).getD r 0
theorem lit4_get {r : Nat} (h : (r : Int) < 4) : (#[.int .i64 0, .int .i64 0, .int .i64 2, .int .i64 1] : Array Value)[r]? = some (.int .i64 (lit4 r)) := by
 have : r = 0 ∨ r = 1 ∨ r = 2 ∨ r = 3 := by omega
 rcases this with rfl | rfl | rfl | rfl <;> rfl
theorem lit4_bd (r : Nat) : 0 ≤ lit4 r ∧ lit4 r ≤ 2 := by
 match r with
 | 0 => decide
 | 1 => decide
 | 2 => decide
 | 3 => decide
 | r + 4 => simp [lit4]
def lit3 (r : Nat) : Int := ([-1, 3, 1] : List Int).getD r 0
theorem lit3_get {r : Nat} (h : (r : Int) < 3) : (#[.int .i64 (-1), .int .i64 3, .int .i64 1] : Array Value)[r]? = some (.int .i64 (lit3 r)) := by
 have : r = 0 ∨ r = 1 ∨ r = 2 := by omega
 rcases this with rfl | rfl | rfl <;> rfl
theorem sizeQ3 : (Try.prog.info? 3).map (·.size) = some 1 := by kernel_rfl
theorem sizeQ24 : (Try.prog.info? 24).map (·.size) = some 1 := by kernel_rfl
theorem sizeQ26 : (Try.prog.info? 26).map (·.size) = some 1 := by kernel_rfl
theorem fits_set1 {D : Dd} {i : Nat} {x : ByteArray} (h : FitsD D) : FitsD { D with l1 := D.l1.set i x } := ⟨by rw [List.length_set]; exact h.h1, h.h2, h.h3, h.h4⟩
theorem fits_set3 {D : Dd} {i : Nat} {x : Bool} (h : FitsD D) : FitsD { D with l3 := D.l3.set i x } := ⟨h.h1, h.h2, by rw [List.length_set]; exact h.h3, h.h4⟩
theorem fits_l4 {D : Dd} {q : List S54} (h : FitsD D) (hl : q.length ≤ 1001) : FitsD { D with l4 := q } := ⟨h.h1, h.h2, h.h3, by
 show q.length ≤ _
 omega⟩
theorem fits_drop {D : Dd} (h : FitsD D) : FitsD { D with l2 := D.l2.drop 1 } := ⟨h.h1, by
 have := h.h2
 show (D.l2.drop 1).length ≤ _
 rw [List.length_drop]
 omega, h.h3, h.h4⟩
theorem ret_as {w0 w w' : World} {b : List Int} {g m : Nat} {x y : Array Value} (e : y = x) (h : DrawsDisk w0 b g m w (.returned (.agg y)) w') : DrawsDisk w0 b g m w (.returned (.agg x)) w' := e ▸ h
theorem spoil_in {D : Dd} (h : GoodD D) {a b c : Nat} (ha : (a : Int) < 12) (hb : (b : Int) < 3) (hc : (c : Int) < 255) : SpoilIn D a b (wrap64 (1 + (c : Int))) := by
 have hs := h.sh
 unfold Shaped at hs
 have hso := slot_good h (a := a) (by omega)
 have e : wrap64 (1 + (c : Int)) = 1 + (c : Int) := wrap_ok (by omega)
 rw [e]
 clear e
 exact ⟨by omega, by omega, by omega, by omega, by rcases hso with h | h <;> omega, by rcases hso with h | h <;> omega, by omega⟩
theorem l3Spoil_callq {w : World} {lo : Nat} {S : Nat → Prop} {M : Mm} {D : Dd} {a b : Nat} {c : Int} (hS : ∀ k, S k → lo ≤ k ∧ k < w.heap.size) (h : OwS w lo S M D) (hs : SpoilIn D a b c) : Calls Try.prog 87 #[.agg (cD M D), .int .i64 (a : Int), .int .i64 (b : Int), .int .i64 c] w (Touch lo S (spoilD D a b c) w) := by
 have up : ∀ {w' : World}, Below lo w w' → ∀ k, S k → (S k ∨ w.heap.size ≤ k) ∧ k < w'.heap.size := fun hb k hk => ⟨.inl hk, Nat.lt_of_lt_of_le (hS k hk).2 hb.size⟩
 by_cases hz : (D.l1.getD a ByteArray.empty).size = 0 ∨ D.l3.getD a false = true
 ·have e : spoilD D a b c = D := if_pos hz
  rw [e]
  refine (qspoil_same h hS hs.a1 hs.a3 hs.l1 hs.l3 ?_).mono fun e w' hh => ⟨M, hh.1, OwS.up (w' := w') hh.2.1 (up hh.2.2.1), hh.2.2⟩
  by_cases h6 : (D.l1.getD a ByteArray.empty).size = 0
  ·exact .inl (empty_of h6)
  ·exact .inr ⟨nonempty_of h6, hz.resolve_left h6⟩
 ·have e : spoilD D a b c = { D with l1 := D.l1.set a (turned (D.l1.getD a ByteArray.empty) b c), l3 := D.l3.set a true } := if_neg hz
  have h7 : D.l3.getD a false = false := by
   cases hh : D.l3.getD a false with
   | false => rfl
   | true => exact absurd (.inr hh) hz
  rw [e]
  refine (qspoil_main h hS hs.a1 hs.a3 hs.l1 hs.l3 (hs.b.resolve_left fun hh => hz (.inl hh)) hs.s hs.c h7).mono fun e w' hh => ?_
  exact ⟨M, by rw [cD_set]; exact hh.1, OwS.up (w' := w') hh.2.1 (up hh.2.2.1), hh.2.2⟩
theorem size9' : (Try.prog.info? 9).map (·.size) = some 1 := by kernel_rfl
theorem elem24 : Try.prog.underlying 24 = some (.slice (Try.prog.elem 24)) := by
 have h := Try.underlying24
 have : Try.prog.elem 24 = 9 := by simp [Program.elem, h]
 rw [this]
 exact h
theorem drop_ev {ops : Array Oper} {Q : Exit → Act → World → Prop} {rest : List Oper} {o : Oper} {a : Act} {w : World} {x : Operand} {g2 c : Nat} {l : List ByteArray} (hgd : o.guard = none) (ho : o.op = .slice 24 x (some (.const (.int .i64 1))) none none) (hx : a.eval x = .slice (some ⟨g2, 0, none⟩) l.length c) (h2 : l.length = 2) (hc : 2 ≤ c)
  (k : ∀ q : List ByteArray, Az (q = l.drop 1) → wpList Try.prog ops Q rest (a.put o.dst (.slice (some ⟨g2, 1, none⟩) q.length (c - 1))) w) : wpList Try.prog ops Q (o :: rest) a w := by
 refine Kd.event_run (v := .slice (some ⟨g2, 1, none⟩) (l.drop 1).length (c - 1)) hgd ?_ (k _ ⟨rfl⟩)
 cases hq : Try.prog.info? 9 with
 | none => have := size9'; rw [hq] at this; simp at this
 | some i =>
  have hs : i.size = 1 := by have := size9'; rw [hq] at this; simpa using this
  have h := cut_from (P := Try.prog) 24 9 .i64 (i := i) Try.underlying24 hq 1 hs (some ⟨g2, 0, none⟩) l.length c 1 (by omega) (by omega) w
  have hz : (⟨g2, 0, none⟩ : Addr).add (Int.toNat 1 * 1) = ⟨g2, 1, none⟩ := add0 g2 1
  have hne : ¬ c = Int.toNat 1 := by show ¬ c = 1; omega
  rw [if_neg hne, Option.map_some, hz] at h
  unfold execOp
  simp only [ho, hx, Option.map_some, Option.map_none]
  rw [show a.eval (Operand.const (.int .i64 1)) = .int .i64 1 from rfl, Sem.run_bind, run_sliceAt_slice (h := elem24), h, List.length_drop]
  rfl
theorem OwS.cap2 {w : World} {b : Nat} {S : Nat → Prop} {M : Mm} {D : Dd} (h : OwS w b S M D) (h2 : D.l2.length = 2) : 2 ≤ M.c2 := h2 ▸ h.rd.h2
set_option maxHeartbeats 8000000 in
set_option maxRecDepth 100000 in
theorem l71Disk_calls {w0 w : World} {b : List Int} {g m : Nat} {cs : Array Value} (hB : Below w0.heap.size w0 w) (hbox : w.heap[g]? = some (.cells cs 104 (0, 0))) (hge : w0.heap.size ≤ g) (hr : Rdr w0 b (m + 3000) cs) : Calls Try.prog 75 #[.pointer (some ⟨g, 0, none⟩)] w (DrawsDisk w0 b g m w) := by
 have hs28 := sizeE28
 have HB := Az.mk hB
 have HR := Az.mk hr
 have HWG := Az.mk (blk_lt hbox)
 have H := Az.mk (Hq.start_box w hge hbox)
 have tk0 : True := trivial
 clear hB hbox hge hr
 go_enter Try.func75, Try.ntmps75
 go_wp2_with (first | ((with_reducible refine zqg (N := 2) rfl ?_); refine H.out.bx rfl (#[.int .i64 0, .slice none 0 0, .slice none 0 0, .slice none 0 0, .slice none 0 0]) 28 ?hr ?_; (case hr => first | (go_simp; done) | (go_simp; rfl)); intro g2 w2 H1; clear H; have H := H1; clear H1; (try simp only [Act.put, List.setIfInBounds_toArray, List.set_cons_zero, List.set_cons_succ])) | ((with_reducible refine zqg (N := 5) rfl ?_); refine H.out.lit rfl (#[.int .i64 0, .int .i64 0, .int .i64 2, .int .i64 1]) 3 4 ?hr ?_; (case hr => first | (go_simp; done) | (go_simp; rfl)); intro g5 w5 H1; clear H; have H := H1; clear H1; (try simp only [Act.put, List.setIfInBounds_toArray, List.set_cons_zero, List.set_cons_succ])) | (go_at_call 48; have _tk := tk0; refine (pick_callq (m := m + 2999) HB.out H.out 2 rfl (HR.out.less (by omega)) 4 (by omega)).mono ?_; rintro e w7 ⟨r7, c7, rfl, hr7, hrd, h1⟩; have HR1 := Az.mk hrd; have H1 := Az.mk h1; have hz7 := eq_true (Int.natCast_nonneg r7); clear hrd h1; clear H HR; have H := H1; have HR := HR1; clear H1 HR1; clear tk0 _tk; have tk1 : True := trivial) | ((with_reducible refine zqg (N := 9) rfl ?_); refine H.out.ld_cell 0 rfl r7 (v := .int .i64 (lit4 r7)) (lit4_get hr7) rfl rfl rfl Try.underlying3 rfl ?_; (try simp only [Act.put, List.setIfInBounds_toArray, List.set_cons_zero, List.set_cons_succ])) | (go_at_call 19; have _tk := tk1; refine (specNew_call (lit4_bd r7)).mono ?_; rintro e w10 ⟨M10, rfl, ho, hb⟩; have H1 := Az.mk (H.out.made hb); have O := Az.mk (OwS.of_own ho H.out.ge); clear ho hb; clear H; have H := H1; clear H1; clear tk1 _tk; have tk2 : True := trivial) | ((with_reducible refine zqg (N := 3) rfl ?_); refine H.out.bx rfl (#[.int .i64 0, .slice none 0 0, .slice none 0 0, .slice none 0 0, .slice none 0 0]) 28 ?hr ?_; (case hr => first | (go_simp; done) | (go_simp; rfl)); intro g3 w3 H1; clear H; have H := H1; clear H1; (try simp only [Act.put, List.setIfInBounds_toArray, List.set_cons_zero, List.set_cons_succ])) | ((with_reducible refine gate_store (t := 28) (p := 3) rfl ?_); refine H.out.st_row 0 rfl rfl (x := .tmp 3) (y := .tmp 10) rfl rfl rfl (cD M10 (newD (lit4 r7))) rfl hs28 rfl (cD_one _ _) ?_; intro ws1 H1; clear H; have H := H1; clear H1) | (go_at_call 48; have _tk := tk2; refine (pick_callq (m := m + 2998) HB.out H.out 4 rfl (HR.out.less (by omega)) 12 (by omega)).mono ?_; rintro e w12 ⟨r12, c12, rfl, hr12, hrd, h1⟩; have HR1 := Az.mk hrd; have H1 := Az.mk h1; have hz12 := eq_true (Int.natCast_nonneg r12); clear hrd h1; clear H HR; have H := H1; have HR := HR1; clear H1 HR1; clear tk2 _tk; have tk3 : True := trivial))
 go_loopg [4] 13 (fun kq v4 w' => ∃ (n : Nat) (M : Mm) (D : Dd) (S : Nat → Prop) (wo : World) (c : Array Value), v4 = .int .i64 (n : Int) ∧ Az (n + 1 ≤ kq ∧ kq ≤ 13) ∧ Az (GoodD D) ∧ Az (Rdr w0 b (m + 1500 + 100 * n) c) ∧ Az (OwS wo w0.heap.size S M D) ∧ Az (Hq w0.heap.size w w' [.box g3 (cD M D) 28, .set S wo, .box g2 (#[.int .i64 0, .slice none 0 0, .slice none 0 0, .slice none 0 0, .slice none 0 0]) 28, .box g c 104, .set (fun k => k ≠ g ∧ w0.heap.size ≤ k ∧ k < w.heap.size) w]))
 case atStart => exact ⟨r12, M10, newD (lit4 r7), _, _, _, rfl, ⟨by omega⟩, ⟨good_new (lit4_bd r7)⟩, ⟨HR.out.less (by omega)⟩, O, ⟨H.out.sel [0, 1, 3, 4, 5] _ (by decide) rfl⟩⟩
 case round =>
  clear H HR O
  obtain ⟨n, M, D, S, wo, c, rfl, HN, HG, HR, O, H⟩ := hrel
  cases gk with
  | zero => exact absurd HN.out.1 (by omega)
  | succ k1 =>
   have tk0 : True := trivial
   by_cases hn : 0 < (n : Int)
   ·have c14 : decide (0 < (n : Int)) = true := decide_eq_true hn
    go_wp2
    refine start_ (n := 5) (S := fun w' => Hq w0.heap.size w w' [.box g3 (cD M D) 28]) (ds := [4]) #[false, false, false, false, false] (by kernel_rfl) rfl rfl (H.out.drew.sel [0] _ (by decide) rfl) (fun hHeld => ?_)
    have H1 := Az.mk H.out.drew
    clear H; have H := H1; clear H1
    generalize World.drew wr = wd5 at hHeld H ⊢
    refine zqt (i := 0) (N := some 17) (v := .agg (cD M D)) (a' := ?_) #[true, false, false, false, false] rfl rfl (by kernel_rfl) (fun _ _ _ h => h) (Or.inl ⟨by rfl, fun w' s0 => s0.run_row 0 rfl rfl rfl Try.underlying28 rfl hs28⟩) hHeld ?_ ?_
    rotate_left
    ·simp only [Act.put, List.setIfInBounds_toArray, List.set_cons_zero, List.set_cons_succ, i64_w, i32_w]
     rfl
    refine zqp (i := 1) (N := some 18) (v := ?_) (a' := ?_) #[true, true, false, false, false] rfl rfl (by kernel_rfl) (fun _ _ _ h => h) (Or.inl ⟨by rfl, ?_⟩) ?_ ?_
    rotate_left
    ·intro w'
     go_simp
     with_reducible rfl
    rotate_left
    ·simp only [Act.put, List.setIfInBounds_toArray, List.set_cons_zero, List.set_cons_succ, i64_w, i32_w]
     rfl
    refine one_ (i := 2) (N := some 19) #[true, true, true, false, false] rfl rfl (by kernel_rfl) (by decide) (fun K hK => ?_)
    refine goes_ Try.func81 (by kernel_rfl) rfl #[.pointer (some ⟨g, 0, none⟩)] (by rfl) rfl rfl (by (try simp only [List.map_toArray, List.map_cons, List.map_nil]); first | done | rfl) ?_
    refine (put_callq (m := m + 1500 + 100 * (n - 1) + 70) HB.out H.out 3 rfl (HR.out.less (by omega))).mono ?_
    rintro e w19 ⟨x19, c19, rfl, hx, hrd, h1⟩
    refine ⟨_, rfl, ?_⟩
    have HR1 := Az.mk hrd
    have H1 := Az.mk h1
    have HX19 := Az.mk hx
    clear hrd h1 hx
    clear H HR; have H := H1; have HR := HR1; clear H1 HR1
    refine hK.out _ _ (H.out.sel [0] _ (by decide) rfl) (fun hHeld => ?_)
    clear hK K
    refine norm_ (a' := ?_) ?_ ?_
    rotate_left
    ·show Act.put _ (some 19) _ = _
     simp only [Act.put, List.setIfInBounds_toArray, List.set_cons_zero, List.set_cons_succ, i64_w, i32_w]
     rfl
    refine one_ (i := 3) (N := some 20) #[true, true, true, true, false] rfl rfl (by kernel_rfl) (by decide) (fun K hK => ?_)
    refine goes_ Try.func85 (by kernel_rfl) rfl #[.agg (cD M D), .agg (cP x19)] (by rfl) rfl rfl (by (try simp only [List.map_toArray, List.map_cons, List.map_nil]); first | done | rfl) ?_
    refine (l3Write_callz (HB.out.trans H.out.bel) (H.out.set_in 1 rfl) (H.out.ows 1 rfl O.out) HG.out x19).mono ?_
    rintro e w20 ⟨M20, rfl, ho, hb, hk⟩
    refine ⟨_, rfl, ?_⟩
    have H1 := Az.mk (H.out.wrote 1 rfl hb hk)
    have O1 := Az.mk ho
    have HG1 := Az.mk (good_laid HG.out HX19.out)
    clear ho hb hk
    clear H O HG; have H := H1; have O := O1; have HG := HG1; clear H1 O1 HG1
    refine hK.out _ _ (H.out.sel [0] _ (by decide) rfl) (fun hHeld => ?_)
    clear hK K
    refine norm_ (a' := ?_) ?_ ?_
    rotate_left
    ·show Act.put _ (some 20) _ = _
     simp only [Act.put, List.setIfInBounds_toArray, List.set_cons_zero, List.set_cons_succ, i64_w, i32_w]
     rfl
    refine last_ (i := 4) (N := none) #[true, true, true, true, true] rfl rfl (by kernel_rfl) (by decide) (fun K hK => ?_)
    refine H.out.last_row 0 rfl (by rfl) (x := .tmp 3) (y := .tmp 20) rfl rfl rfl (cD M20 (laidD D x19)) rfl hs28 rfl (cD_one _ _) ?_
    intro ws5 H1
    clear H; have H := H1; clear H1
    refine hK.out _ _ ?_
    clear hK K
    refine norm_ (a' := ?_) ?_ ?_
    rotate_left
    ·rfl
    refine done_ (by kernel_rfl) ?_
    go_upto_if 23 with (first | (go_at_call 48; have _tk := tk0; refine (pick_callq (m := m + 1500 + 100 * (n - 1) + 69) HB.out H.out 3 rfl (HR.out.less (by omega)) 3 (by omega)).mono ?_; rintro e w22 ⟨r22, c22, rfl, hr22, hrd, h1⟩; have HR1 := Az.mk hrd; have H1 := Az.mk h1; have hz22 := eq_true (Int.natCast_nonneg r22); clear hrd h1; clear H HR; have H := H1; have HR := HR1; clear H1 HR1; clear tk0 _tk; have tk1 : True := trivial))
    (try simp only [Act.put, List.setIfInBounds_toArray, List.set_cons_zero, List.set_cons_succ])
    by_cases z22 : (r22 : Int) = 0
    ·skip
     have z22a : ((r22 : Int) == 0) = true := beq_iff_eq.mpr z22
     have z22b : decide ((r22 : Int) = 0) = true := decide_eq_true z22
     clear z22
     go_upto_if 28 with (first | ((with_reducible refine zqg (N := 24) rfl ?_); refine H.out.ld_row 0 rfl rfl rfl rfl Try.underlying28 rfl hs28 ?_; (try simp only [Act.put, List.setIfInBounds_toArray, List.set_cons_zero, List.set_cons_succ])) | (go_at_call 79; have _tk := tk1; refine (l3Flush_callq (HB.out.trans H.out.bel) (H.out.ows 1 rfl O.out) HG.out).mono ?_; rintro e w25 ⟨M25, rfl, ho, hb, hk⟩; have H1 := Az.mk (H.out.wrote 1 rfl hb hk); have O1 := Az.mk ho; have HG1 := Az.mk (good_come HG.out); clear ho hb hk; clear H O HG; have H := H1; have O := O1; have HG := HG1; clear H1 O1 HG1; clear tk1 _tk; have tk2 : True := trivial) | ((with_reducible refine gate_store (t := 28) (p := 3) rfl ?_); refine H.out.st_row 0 rfl rfl (x := .tmp 3) (y := .tmp 25) rfl rfl rfl (cD M25 (comeD (laidD D x19))) rfl hs28 rfl (cD_one _ _) ?_; intro ws7 H1; clear H; have H := H1; clear H1) | (go_at_call 48; have _tk := tk2; refine (pick_callq (m := m + 1500 + 100 * (n - 1) + 68) HB.out H.out 3 rfl (HR.out.less (by omega)) 5 (by omega)).mono ?_; rintro e w27 ⟨r27, c27, rfl, hr27, hrd, h1⟩; have HR1 := Az.mk hrd; have H1 := Az.mk h1; have hz27 := eq_true (Int.natCast_nonneg r27); clear hrd h1; clear H HR; have H := H1; have HR := HR1; clear H1 HR1; clear tk2 _tk; have tk3 : True := trivial))
     (try simp only [Act.put, List.setIfInBounds_toArray, List.set_cons_zero, List.set_cons_succ])
     by_cases z27 : (r27 : Int) = 0
     ·skip
      have z27a : ((r27 : Int) == 0) = true := beq_iff_eq.mpr z27
      have z27b : decide ((r27 : Int) = 0) = true := decide_eq_true z27
      clear z27
      go_wp2
      refine start_ (n := 10) (S := fun w' => Hq w0.heap.size w w' [.box g3 (cD M25 (comeD (laidD D x19))) 28]) (ds := [9]) #[false, false, false, false, false, false, false, false, false, false] (by kernel_rfl) rfl rfl (H.out.drew.sel [0] _ (by decide) rfl) (fun hHeld => ?_)
      have H1 := Az.mk H.out.drew
      clear H; have H := H1; clear H1
      generalize World.drew w27 = wd9 at hHeld H ⊢
      refine zqt (i := 0) (N := some 29) (v := .agg (cD M25 (comeD (laidD D x19)))) (a' := ?_) #[true, false, false, false, false, false, false, false, false, false] rfl rfl (by kernel_rfl) (fun _ _ _ h => h) (Or.inl ⟨by rfl, fun w' s0 => s0.run_row 0 rfl rfl rfl Try.underlying28 rfl hs28⟩) hHeld ?_ ?_
      rotate_left
      ·simp only [Act.put, List.setIfInBounds_toArray, List.set_cons_zero, List.set_cons_succ, i64_w, i32_w]
       rfl
      refine zqp (i := 1) (N := some 30) (v := ?_) (a' := ?_) #[true, true, false, false, false, false, false, false, false, false] rfl rfl (by kernel_rfl) (fun _ _ _ h => h) (Or.inl ⟨by rfl, ?_⟩) ?_ ?_
      rotate_left
      ·intro w'
       go_simp
       with_reducible rfl
      rotate_left
      ·simp only [Act.put, List.setIfInBounds_toArray, List.set_cons_zero, List.set_cons_succ, i64_w, i32_w]
       rfl
      refine zqp (i := 3) (N := some 32) (v := ?_) (a' := ?_) #[true, true, false, true, false, false, false, false, false, false] rfl rfl (by kernel_rfl) (fun _ _ _ h => h) (Or.inl ⟨by rfl, ?_⟩) ?_ ?_
      rotate_left
      ·intro w'
       go_simp
       with_reducible rfl
      rotate_left
      ·simp only [Act.put, List.setIfInBounds_toArray, List.set_cons_zero, List.set_cons_succ, i64_w, i32_w]
       rfl
      refine zqp (i := 5) (N := some 34) (v := ?_) (a' := ?_) #[true, true, false, true, false, true, false, false, false, false] rfl rfl (by kernel_rfl) (fun _ _ _ h => h) (Or.inl ⟨by rfl, ?_⟩) ?_ ?_
      rotate_left
      ·intro w'
       go_simp
       with_reducible rfl
      rotate_left
      ·simp only [Act.put, List.setIfInBounds_toArray, List.set_cons_zero, List.set_cons_succ, i64_w, i32_w]
       rfl
      refine one_ (i := 2) (N := some 31) #[true, true, true, true, false, true, false, false, false, false] rfl rfl (by kernel_rfl) (by decide) (fun K hK => ?_)
      refine goes_ Try.func48 (by kernel_rfl) rfl #[.pointer (some ⟨g, 0, none⟩), .int .i64 12] (by rfl) rfl rfl (by (try simp only [List.map_toArray, List.map_cons, List.map_nil]); first | done | rfl) ?_
      refine (pick_callq (m := m + 1500 + 100 * (n - 1) + 67) HB.out H.out 3 rfl (HR.out.less (by omega)) 12 (by omega)).mono ?_
      rintro e w31 ⟨r31, c31, rfl, hr31, hrd, h1⟩
      refine ⟨_, rfl, ?_⟩
      have HR1 := Az.mk hrd
      have H1 := Az.mk h1
      have hz31 := eq_true (Int.natCast_nonneg r31)
      clear hrd h1
      clear H HR; have H := H1; have HR := HR1; clear H1 HR1
      refine hK.out _ _ (H.out.sel [0] _ (by decide) rfl) (fun hHeld => ?_)
      clear hK K
      refine norm_ (a' := ?_) ?_ ?_
      rotate_left
      ·show Act.put _ (some 31) _ = _
       simp only [Act.put, List.setIfInBounds_toArray, List.set_cons_zero, List.set_cons_succ, i64_w, i32_w]
       rfl
      refine one_ (i := 4) (N := some 33) #[true, true, true, true, true, true, false, false, false, false] rfl rfl (by kernel_rfl) (by decide) (fun K hK => ?_)
      refine goes_ Try.func48 (by kernel_rfl) rfl #[.pointer (some ⟨g, 0, none⟩), .int .i64 3] (by rfl) rfl rfl (by (try simp only [List.map_toArray, List.map_cons, List.map_nil]); first | done | rfl) ?_
      refine (pick_callq (m := m + 1500 + 100 * (n - 1) + 66) HB.out H.out 3 rfl (HR.out.less (by omega)) 3 (by omega)).mono ?_
      rintro e w33 ⟨r33, c33, rfl, hr33, hrd, h1⟩
      refine ⟨_, rfl, ?_⟩
      have HR1 := Az.mk hrd
      have H1 := Az.mk h1
      have hz33 := eq_true (Int.natCast_nonneg r33)
      clear hrd h1
      clear H HR; have H := H1; have HR := HR1; clear H1 HR1
      refine hK.out _ _ (H.out.sel [0] _ (by decide) rfl) (fun hHeld => ?_)
      clear hK K
      refine norm_ (a' := ?_) ?_ ?_
      rotate_left
      ·show Act.put _ (some 33) _ = _
       simp only [Act.put, List.setIfInBounds_toArray, List.set_cons_zero, List.set_cons_succ, i64_w, i32_w]
       rfl
      refine one_ (i := 6) (N := some 35) #[true, true, true, true, true, true, true, false, false, false] rfl rfl (by kernel_rfl) (by decide) (fun K hK => ?_)
      refine goes_ Try.func48 (by kernel_rfl) rfl #[.pointer (some ⟨g, 0, none⟩), .int .i64 255] (by rfl) rfl rfl (by (try simp only [List.map_toArray, List.map_cons, List.map_nil]); first | done | rfl) ?_
      refine (pick_callq (m := m + 1500 + 100 * (n - 1) + 65) HB.out H.out 3 rfl (HR.out.less (by omega)) 255 (by omega)).mono ?_
      rintro e w35 ⟨r35, c35, rfl, hr35, hrd, h1⟩
      refine ⟨_, rfl, ?_⟩
      have HR1 := Az.mk hrd
      have H1 := Az.mk h1
      have hz35 := eq_true (Int.natCast_nonneg r35)
      clear hrd h1
      clear H HR; have H := H1; have HR := HR1; clear H1 HR1
      refine hK.out _ _ (H.out.sel [0] _ (by decide) rfl) (fun hHeld => ?_)
      clear hK K
      refine norm_ (a' := ?_) ?_ ?_
      rotate_left
      ·show Act.put _ (some 35) _ = _
       simp only [Act.put, List.setIfInBounds_toArray, List.set_cons_zero, List.set_cons_succ, i64_w, i32_w]
       rfl
      refine zqp (i := 7) (N := some 36) (v := ?_) (a' := ?_) #[true, true, true, true, true, true, true, true, false, false] rfl rfl (by kernel_rfl) (fun _ _ _ h => h) (Or.inl ⟨by rfl, ?_⟩) ?_ ?_
      rotate_left
      ·intro w'
       go_simp
       with_reducible rfl
      rotate_left
      ·simp only [Act.put, List.setIfInBounds_toArray, List.set_cons_zero, List.set_cons_succ, i64_w, i32_w]
       rfl
      refine one_ (i := 8) (N := some 37) #[true, true, true, true, true, true, true, true, true, false] rfl rfl (by kernel_rfl) (by decide) (fun K hK => ?_)
      refine goes_ Try.func87 (by kernel_rfl) rfl #[.agg (cD M25 (comeD (laidD D x19))), .int .i64 (r31 : Int), .int .i64 (r33 : Int), .int .i64 (wrap64 (1 + (r35 : Int)))] (by rfl) rfl rfl (by (try simp only [List.map_toArray, List.map_cons, List.map_nil]); first | done | rfl) ?_
      refine (l3Spoil_callq (H.out.set_in 1 rfl) (H.out.ows 1 rfl O.out) (spoil_in HG.out hr31 hr33 hr35)).mono ?_
      rintro e w37 ⟨M37, rfl, ho, hb, hk⟩
      refine ⟨_, rfl, ?_⟩
      have H1 := Az.mk (H.out.wrote 1 rfl hb hk)
      have O1 := Az.mk ho
      have HG1 := Az.mk (good_spoil (a := r31) (b := r33) (c := wrap64 (1 + (r35 : Int))) HG.out (by omega))
      clear ho hb hk
      clear H O HG; have H := H1; have O := O1; have HG := HG1; clear H1 O1 HG1
      refine hK.out _ _ (H.out.sel [0] _ (by decide) rfl) (fun hHeld => ?_)
      clear hK K
      refine norm_ (a' := ?_) ?_ ?_
      rotate_left
      ·show Act.put _ (some 37) _ = _
       simp only [Act.put, List.setIfInBounds_toArray, List.set_cons_zero, List.set_cons_succ, i64_w, i32_w]
       rfl
      refine last_ (i := 9) (N := none) #[true, true, true, true, true, true, true, true, true, true] rfl rfl (by kernel_rfl) (by decide) (fun K hK => ?_)
      refine H.out.last_row 0 rfl (by rfl) (x := .tmp 3) (y := .tmp 37) rfl rfl rfl (cD M37 (spoilD (comeD (laidD D x19)) r31 r33 (wrap64 (1 + (r35 : Int))))) rfl hs28 rfl (cD_one _ _) ?_
      intro ws9 H1
      clear H; have H := H1; clear H1
      refine hK.out _ _ ?_
      clear hK K
      refine norm_ (a' := ?_) ?_ ?_
      rotate_left
      ·rfl
      refine done_ (by kernel_rfl) ?_
      go_wp2
      go_roundg k1
      case measure => omega
      case rel => exact ⟨n - 1, M37, (spoilD (comeD (laidD D x19)) r31 r33 (wrap64 (1 + (r35 : Int)))), _, _, _, by have := HN.out; rw [wrap_ok (by omega)]; congr 1; omega, ⟨by have := HN.out; omega⟩, HG, ⟨HR.out.less (by omega)⟩, O, ⟨H.out.sel [0, 1, 2, 3, 4] _ (by decide) rfl⟩⟩
     ·skip
      have z27a : ((r27 : Int) == 0) = false := beq_eq_false_iff_ne.mpr z27
      have z27b : decide ((r27 : Int) = 0) = false := decide_eq_false z27
      clear z27
      go_wp2
      go_roundg k1
      case measure => omega
      case rel => exact ⟨n - 1, M25, (comeD (laidD D x19)), _, _, _, by have := HN.out; rw [wrap_ok (by omega)]; congr 1; omega, ⟨by have := HN.out; omega⟩, HG, ⟨HR.out.less (by omega)⟩, O, ⟨H.out.sel [0, 1, 2, 3, 4] _ (by decide) rfl⟩⟩
    ·skip
     have z22a : ((r22 : Int) == 0) = false := beq_eq_false_iff_ne.mpr z22
     have z22b : decide ((r22 : Int) = 0) = false := decide_eq_false z22
     clear z22
     go_upto_if 28 with (first | (go_at_call 48; have _tk := tk1; refine (pick_callq (m := m + 1500 + 100 * (n - 1) + 68) HB.out H.out 3 rfl (HR.out.less (by omega)) 5 (by omega)).mono ?_; rintro e w27 ⟨r27, c27, rfl, hr27, hrd, h1⟩; have HR1 := Az.mk hrd; have H1 := Az.mk h1; have hz27 := eq_true (Int.natCast_nonneg r27); clear hrd h1; clear H HR; have H := H1; have HR := HR1; clear H1 HR1; clear tk1 _tk; have tk2 : True := trivial))
     (try simp only [Act.put, List.setIfInBounds_toArray, List.set_cons_zero, List.set_cons_succ])
     by_cases z27 : (r27 : Int) = 0
     ·skip
      have z27a : ((r27 : Int) == 0) = true := beq_iff_eq.mpr z27
      have z27b : decide ((r27 : Int) = 0) = true := decide_eq_true z27
      clear z27
      go_wp2
      refine start_ (n := 10) (S := fun w' => Hq w0.heap.size w w' [.box g3 (cD M20 (laidD D x19)) 28]) (ds := [9]) #[false, false, false, false, false, false, false, false, false, false] (by kernel_rfl) rfl rfl (H.out.drew.sel [0] _ (by decide) rfl) (fun hHeld => ?_)
      have H1 := Az.mk H.out.drew
      clear H; have H := H1; clear H1
      generalize World.drew w27 = wd9 at hHeld H ⊢
      refine zqt (i := 0) (N := some 29) (v := .agg (cD M20 (laidD D x19))) (a' := ?_) #[true, false, false, false, false, false, false, false, false, false] rfl rfl (by kernel_rfl) (fun _ _ _ h => h) (Or.inl ⟨by rfl, fun w' s0 => s0.run_row 0 rfl rfl rfl Try.underlying28 rfl hs28⟩) hHeld ?_ ?_
      rotate_left
      ·simp only [Act.put, List.setIfInBounds_toArray, List.set_cons_zero, List.set_cons_succ, i64_w, i32_w]
       rfl
      refine zqp (i := 1) (N := some 30) (v := ?_) (a' := ?_) #[true, true, false, false, false, false, false, false, false, false] rfl rfl (by kernel_rfl) (fun _ _ _ h => h) (Or.inl ⟨by rfl, ?_⟩) ?_ ?_
      rotate_left
      ·intro w'
       go_simp
       with_reducible rfl
      rotate_left
      ·simp only [Act.put, List.setIfInBounds_toArray, List.set_cons_zero, List.set_cons_succ, i64_w, i32_w]
       rfl
      refine zqp (i := 3) (N := some 32) (v := ?_) (a' := ?_) #[true, true, false, true, false, false, false, false, false, false] rfl rfl (by kernel_rfl) (fun _ _ _ h => h) (Or.inl ⟨by rfl, ?_⟩) ?_ ?_
      rotate_left
      ·intro w'
       go_simp
       with_reducible rfl
      rotate_left
      ·simp only [Act.put, List.setIfInBounds_toArray, List.set_cons_zero, List.set_cons_succ, i64_w, i32_w]
       rfl
      refine zqp (i := 5) (N := some 34) (v := ?_) (a' := ?_) #[true, true, false, true, false, true, false, false, false, false] rfl rfl (by kernel_rfl) (fun _ _ _ h => h) (Or.inl ⟨by rfl, ?_⟩) ?_ ?_
      rotate_left
      ·intro w'
       go_simp
       with_reducible rfl
      rotate_left
      ·simp only [Act.put, List.setIfInBounds_toArray, List.set_cons_zero, List.set_cons_succ, i64_w, i32_w]
       rfl
      refine one_ (i := 2) (N := some 31) #[true, true, true, true, false, true, false, false, false, false] rfl rfl (by kernel_rfl) (by decide) (fun K hK => ?_)
      refine goes_ Try.func48 (by kernel_rfl) rfl #[.pointer (some ⟨g, 0, none⟩), .int .i64 12] (by rfl) rfl rfl (by (try simp only [List.map_toArray, List.map_cons, List.map_nil]); first | done | rfl) ?_
      refine (pick_callq (m := m + 1500 + 100 * (n - 1) + 67) HB.out H.out 3 rfl (HR.out.less (by omega)) 12 (by omega)).mono ?_
      rintro e w31 ⟨r31, c31, rfl, hr31, hrd, h1⟩
      refine ⟨_, rfl, ?_⟩
      have HR1 := Az.mk hrd
      have H1 := Az.mk h1
      have hz31 := eq_true (Int.natCast_nonneg r31)
      clear hrd h1
      clear H HR; have H := H1; have HR := HR1; clear H1 HR1
      refine hK.out _ _ (H.out.sel [0] _ (by decide) rfl) (fun hHeld => ?_)
      clear hK K
      refine norm_ (a' := ?_) ?_ ?_
      rotate_left
      ·show Act.put _ (some 31) _ = _
       simp only [Act.put, List.setIfInBounds_toArray, List.set_cons_zero, List.set_cons_succ, i64_w, i32_w]
       rfl
      refine one_ (i := 4) (N := some 33) #[true, true, true, true, true, true, false, false, false, false] rfl rfl (by kernel_rfl) (by decide) (fun K hK => ?_)
      refine goes_ Try.func48 (by kernel_rfl) rfl #[.pointer (some ⟨g, 0, none⟩), .int .i64 3] (by rfl) rfl rfl (by (try simp only [List.map_toArray, List.map_cons, List.map_nil]); first | done | rfl) ?_
      refine (pick_callq (m := m + 1500 + 100 * (n - 1) + 66) HB.out H.out 3 rfl (HR.out.less (by omega)) 3 (by omega)).mono ?_
      rintro e w33 ⟨r33, c33, rfl, hr33, hrd, h1⟩
      refine ⟨_, rfl, ?_⟩
      have HR1 := Az.mk hrd
      have H1 := Az.mk h1
      have hz33 := eq_true (Int.natCast_nonneg r33)
      clear hrd h1
      clear H HR; have H := H1; have HR := HR1; clear H1 HR1
      refine hK.out _ _ (H.out.sel [0] _ (by decide) rfl) (fun hHeld => ?_)
      clear hK K
      refine norm_ (a' := ?_) ?_ ?_
      rotate_left
      ·show Act.put _ (some 33) _ = _
       simp only [Act.put, List.setIfInBounds_toArray, List.set_cons_zero, List.set_cons_succ, i64_w, i32_w]
       rfl
      refine one_ (i := 6) (N := some 35) #[true, true, true, true, true, true, true, false, false, false] rfl rfl (by kernel_rfl) (by decide) (fun K hK => ?_)
      refine goes_ Try.func48 (by kernel_rfl) rfl #[.pointer (some ⟨g, 0, none⟩), .int .i64 255] (by rfl) rfl rfl (by (try simp only [List.map_toArray, List.map_cons, List.map_nil]); first | done | rfl) ?_
      refine (pick_callq (m := m + 1500 + 100 * (n - 1) + 65) HB.out H.out 3 rfl (HR.out.less (by omega)) 255 (by omega)).mono ?_
      rintro e w35 ⟨r35, c35, rfl, hr35, hrd, h1⟩
      refine ⟨_, rfl, ?_⟩
      have HR1 := Az.mk hrd
      have H1 := Az.mk h1
      have hz35 := eq_true (Int.natCast_nonneg r35)
      clear hrd h1
      clear H HR; have H := H1; have HR := HR1; clear H1 HR1
      refine hK.out _ _ (H.out.sel [0] _ (by decide) rfl) (fun hHeld => ?_)
      clear hK K
      refine norm_ (a' := ?_) ?_ ?_
      rotate_left
      ·show Act.put _ (some 35) _ = _
       simp only [Act.put, List.setIfInBounds_toArray, List.set_cons_zero, List.set_cons_succ, i64_w, i32_w]
       rfl
      refine zqp (i := 7) (N := some 36) (v := ?_) (a' := ?_) #[true, true, true, true, true, true, true, true, false, false] rfl rfl (by kernel_rfl) (fun _ _ _ h => h) (Or.inl ⟨by rfl, ?_⟩) ?_ ?_
      rotate_left
      ·intro w'
       go_simp
       with_reducible rfl
      rotate_left
      ·simp only [Act.put, List.setIfInBounds_toArray, List.set_cons_zero, List.set_cons_succ, i64_w, i32_w]
       rfl
      refine one_ (i := 8) (N := some 37) #[true, true, true, true, true, true, true, true, true, false] rfl rfl (by kernel_rfl) (by decide) (fun K hK => ?_)
      refine goes_ Try.func87 (by kernel_rfl) rfl #[.agg (cD M20 (laidD D x19)), .int .i64 (r31 : Int), .int .i64 (r33 : Int), .int .i64 (wrap64 (1 + (r35 : Int)))] (by rfl) rfl rfl (by (try simp only [List.map_toArray, List.map_cons, List.map_nil]); first | done | rfl) ?_
      refine (l3Spoil_callq (H.out.set_in 1 rfl) (H.out.ows 1 rfl O.out) (spoil_in HG.out hr31 hr33 hr35)).mono ?_
      rintro e w37 ⟨M37, rfl, ho, hb, hk⟩
      refine ⟨_, rfl, ?_⟩
      have H1 := Az.mk (H.out.wrote 1 rfl hb hk)
      have O1 := Az.mk ho
      have HG1 := Az.mk (good_spoil (a := r31) (b := r33) (c := wrap64 (1 + (r35 : Int))) HG.out (by omega))
      clear ho hb hk
      clear H O HG; have H := H1; have O := O1; have HG := HG1; clear H1 O1 HG1
      refine hK.out _ _ (H.out.sel [0] _ (by decide) rfl) (fun hHeld => ?_)
      clear hK K
      refine norm_ (a' := ?_) ?_ ?_
      rotate_left
      ·show Act.put _ (some 37) _ = _
       simp only [Act.put, List.setIfInBounds_toArray, List.set_cons_zero, List.set_cons_succ, i64_w, i32_w]
       rfl
      refine last_ (i := 9) (N := none) #[true, true, true, true, true, true, true, true, true, true] rfl rfl (by kernel_rfl) (by decide) (fun K hK => ?_)
      refine H.out.last_row 0 rfl (by rfl) (x := .tmp 3) (y := .tmp 37) rfl rfl rfl (cD M37 (spoilD (laidD D x19) r31 r33 (wrap64 (1 + (r35 : Int))))) rfl hs28 rfl (cD_one _ _) ?_
      intro ws9 H1
      clear H; have H := H1; clear H1
      refine hK.out _ _ ?_
      clear hK K
      refine norm_ (a' := ?_) ?_ ?_
      rotate_left
      ·rfl
      refine done_ (by kernel_rfl) ?_
      go_wp2
      go_roundg k1
      case measure => omega
      case rel => exact ⟨n - 1, M37, (spoilD (laidD D x19) r31 r33 (wrap64 (1 + (r35 : Int)))), _, _, _, by have := HN.out; rw [wrap_ok (by omega)]; congr 1; omega, ⟨by have := HN.out; omega⟩, HG, ⟨HR.out.less (by omega)⟩, O, ⟨H.out.sel [0, 1, 2, 3, 4] _ (by decide) rfl⟩⟩
     ·skip
      have z27a : ((r27 : Int) == 0) = false := beq_eq_false_iff_ne.mpr z27
      have z27b : decide ((r27 : Int) = 0) = false := decide_eq_false z27
      clear z27
      go_wp2
      go_roundg k1
      case measure => omega
      case rel => exact ⟨n - 1, M20, (laidD D x19), _, _, _, by have := HN.out; rw [wrap_ok (by omega)]; congr 1; omega, ⟨by have := HN.out; omega⟩, HG, ⟨HR.out.less (by omega)⟩, O, ⟨H.out.sel [0, 1, 2, 3, 4] _ (by decide) rfl⟩⟩
   ·have c14 : decide (0 < (n : Int)) = false := decide_eq_false hn
    obtain ⟨A1, c1, A2, c2, A3, c3, A4, c4⟩ := M
    have hsh := HG.out.sh
    unfold Shaped at hsh
    obtain ⟨g1, e1, _, q1, _⟩ := own_addr O.out.o1 (by omega)
    obtain ⟨p2, e2, _, q2, _⟩ := own_addr O.out.o2 (by omega)
    obtain ⟨p3, e3, _, q3, _⟩ := own_addr O.out.o3 (by omega)
    have S1 := Az.mk q1.1
    have S3 := Az.mk q3
    simp only at e1 e2 e3
    subst e1 e2 e3
    clear q1 q2 q3 hsh
    go_upto_if 40 with (first | (go_at_call 48; have _tk := tk0; refine (pick_callq (m := m + 1399) HB.out H.out 3 rfl (HR.out.less (by omega)) 30 (by omega)).mono ?_; rintro e w39 ⟨r39, c39, rfl, hr39, hrd, h1⟩; have HR1 := Az.mk hrd; have H1 := Az.mk h1; have hz39 := eq_true (Int.natCast_nonneg r39); clear hrd h1; clear H HR; have H := H1; have HR := HR1; clear H1 HR1; clear tk0 _tk; have tk1 : True := trivial))
    (try simp only [Act.put, List.setIfInBounds_toArray, List.set_cons_zero, List.set_cons_succ])
    by_cases y0 : (r39 : Int) = 0
    ·skip
     have y0a : ((r39 : Int) == 0) = true := beq_iff_eq.mpr y0
     have y0b : decide ((r39 : Int) = 0) = true := decide_eq_true y0
     clear y0
     go_wp2_with (first | ((with_reducible refine zqg (N := 42) rfl ?_); refine H.out.lit rfl (#[.int .i64 (-1), .int .i64 3, .int .i64 1]) 3 3 ?hr ?_; (case hr => first | (go_simp; done) | (go_simp; rfl)); intro g42 w42 H1; clear H; have H := H1; clear H1; (try simp only [Act.put, List.setIfInBounds_toArray, List.set_cons_zero, List.set_cons_succ])) | (go_at_call 48; have _tk := tk1; refine (pick_callq (m := m + 1398) HB.out H.out 4 rfl (HR.out.less (by omega)) 3 (by omega)).mono ?_; rintro e w44 ⟨r44, c44, rfl, hr44, hrd, h1⟩; have HR1 := Az.mk hrd; have H1 := Az.mk h1; have hz44 := eq_true (Int.natCast_nonneg r44); clear hrd h1; clear H HR; have H := H1; have HR := HR1; clear H1 HR1; clear tk1 _tk; have tk2 : True := trivial) | ((with_reducible refine zqg (N := 46) rfl ?_); refine H.out.ld_cell 0 rfl r44 (v := .int .i64 (lit3 r44)) (lit3_get hr44) rfl rfl rfl Try.underlying3 rfl ?_; (try simp only [Act.put, List.setIfInBounds_toArray, List.set_cons_zero, List.set_cons_succ])) | ((with_reducible refine gate_store (t := 3) (p := 47) rfl ?_); refine H.out.stb 1 rfl 0 (.int .i64 (lit3 r44)) rfl rfl sizeQ3 rfl rfl rfl rfl rfl ?_; intro ws12 H1; clear H; have H := H1; clear H1) | ((with_reducible refine zqg (N := 92) rfl ?_); refine H.out.ld_row 1 rfl rfl rfl rfl Try.underlying28 rfl hs28 ?_; (try simp only [Act.put, List.setIfInBounds_toArray, List.set_cons_zero, List.set_cons_succ])) | ((with_reducible refine gate_store (t := 28) (p := 2) rfl ?_); refine H.out.st_row 3 rfl rfl (x := .tmp 2) (y := .tmp 92) rfl rfl rfl (cD ⟨some ⟨g1, 0, none⟩, c1, some ⟨p2, 0, none⟩, c2, some ⟨p3, 0, none⟩, c3, A4, c4⟩ { D with st := lit3 r44 }) rfl hs28 rfl (cD_one _ _) ?_; intro ws24 H1; clear H; have H := H1; clear H1))
     exact bodyPost_ret (results_cell_row rfl _ _ g2 28 _ (0, 0) _ rfl (H.out.box 3 rfl) Try.underlying28 rfl (by kernel_rfl)) rfl ((draws_of HWG.out H.out 4 5 2 rfl rfl rfl (by decide) (by decide) (HR.out.less (m' := m) (by omega)) (OwS.lies (show OwS _ _ _ ⟨some ⟨g1, 0, none⟩, c1, some ⟨p2, 0, none⟩, c2, some ⟨p3, 0, none⟩, c3, A4, c4⟩ { D with st := lit3 r44 } from ⟨O.out.o1, O.out.o2, O.out.o3, O.out.o4⟩)) ((fits_good HG.out : FitsD D))))
    ·skip
     have y0a : ((r39 : Int) == 0) = false := beq_eq_false_iff_ne.mpr y0
     have y0b : decide ((r39 : Int) = 0) = false := decide_eq_false y0
     clear y0
     by_cases y1 : (r39 : Int) = 1
     ·skip
      have y1a : ((r39 : Int) == 1) = true := beq_iff_eq.mpr y1
      have y1b : decide ((r39 : Int) = 1) = true := decide_eq_true y1
      clear y1
      go_wp2
      refine start_ (n := 6) (S := fun w' => Hq w0.heap.size w w' [.box g3 (cD ⟨some ⟨g1, 0, none⟩, c1, some ⟨p2, 0, none⟩, c2, some ⟨p3, 0, none⟩, c3, A4, c4⟩ D) 28]) (ds := [5]) #[false, false, false, false, false, false] (by kernel_rfl) rfl rfl (H.out.drew.sel [0] _ (by decide) rfl) (fun hHeld => ?_)
      have H1 := Az.mk H.out.drew
      clear H; have H := H1; clear H1
      generalize World.drew w39 = wd14 at hHeld H ⊢
      refine zqp (i := 0) (N := some 50) (v := ?_) (a' := ?_) #[true, false, false, false, false, false] rfl rfl (by kernel_rfl) (fun _ _ _ h => h) (Or.inl ⟨by rfl, ?_⟩) ?_ ?_
      rotate_left
      ·intro w'
       go_simp
       with_reducible rfl
      rotate_left
      ·simp only [Act.put, List.setIfInBounds_toArray, List.set_cons_zero, List.set_cons_succ, i64_w, i32_w]
       rfl
      refine zqt (i := 1) (N := some 51) (v := .slice (some ⟨g1, 0, none⟩) D.l1.length c1) (a' := ?_) #[true, true, false, false, false, false] rfl rfl (by kernel_rfl) (fun _ _ _ h => h) (Or.inl ⟨by rfl, fun w' s0 => s0.run_cell 0 rfl 1 rfl rfl rfl Try.underlying24 rfl⟩) hHeld ?_ ?_
      rotate_left
      ·simp only [Act.put, List.setIfInBounds_toArray, List.set_cons_zero, List.set_cons_succ, i64_w, i32_w]
       rfl
      refine zqp (i := 2) (N := some 52) (v := ?_) (a' := ?_) #[true, true, true, false, false, false] rfl rfl (by kernel_rfl) (fun _ _ _ h => h) (Or.inl ⟨by rfl, ?_⟩) ?_ ?_
      rotate_left
      ·intro w'
       go_simp
       with_reducible rfl
      rotate_left
      ·simp only [Act.put, List.setIfInBounds_toArray, List.set_cons_zero, List.set_cons_succ, i64_w, i32_w]
       rfl
      refine one_ (i := 3) (N := some 53) #[true, true, true, true, false, false] rfl rfl (by kernel_rfl) (by decide) (fun K hK => ?_)
      refine goes_ Try.func48 (by kernel_rfl) rfl #[.pointer (some ⟨g, 0, none⟩), .int .i64 12] (by rfl) rfl rfl (by (try simp only [List.map_toArray, List.map_cons, List.map_nil]); first | done | rfl) ?_
      refine (pick_callq (m := m + 1398) HB.out H.out 3 rfl (HR.out.less (by omega)) 12 (by omega)).mono ?_
      rintro e w53 ⟨r53, c53, rfl, hr53, hrd, h1⟩
      refine ⟨_, rfl, ?_⟩
      have HR1 := Az.mk hrd
      have H1 := Az.mk h1
      have hz53 := eq_true (Int.natCast_nonneg r53)
      clear hrd h1
      clear H HR; have H := H1; have HR := HR1; clear H1 HR1
      refine hK.out _ _ (H.out.sel [0] _ (by decide) rfl) (fun hHeld => ?_)
      clear hK K
      refine norm_ (a' := ?_) ?_ ?_
      rotate_left
      ·show Act.put _ (some 53) _ = _
       simp only [Act.put, List.setIfInBounds_toArray, List.set_cons_zero, List.set_cons_succ, i64_w, i32_w]
       rfl
      have hl53 : (r53 : Int) < (D.l1.length : Int) := by have := HG.out.sh; unfold Shaped at this; omega
      refine zqp (i := 4) (N := some 54) (v := ?_) (a' := ?_) #[true, true, true, true, true, false] rfl rfl (by kernel_rfl) (fun _ _ _ h => h) (Or.inl ⟨by rfl, ?_⟩) ?_ ?_
      rotate_left
      ·intro w'
       go_simp
       with_reducible rfl
      rotate_left
      ·simp only [Act.put, List.setIfInBounds_toArray, List.set_cons_zero, List.set_cons_succ, i64_w, i32_w]
       rfl
      have HC := Az.mk (ows_cell1 (H.out.ows 1 rfl O.out) (i := r53) (by omega))
      refine last_ (i := 5) (N := none) #[true, true, true, true, true, true] rfl rfl (by kernel_rfl) (by decide) (fun K hK => ?_)
      refine last_st (by rfl) rfl (run_sc (v := .string ⟨#[97, 98]⟩) sizeS9 HC.out.1 HC.out.2 rfl rfl rfl rfl) ?_
      have H1 := Az.mk (H.out.set_cell (j := r53) 1 rfl S1.out (.string ⟨#[97, 98]⟩))
      have O1 := Az.mk ((H.out.ows 1 rfl O.out).put1 r53 ⟨#[97, 98]⟩)
      clear H O; have H := H1; have O := O1; clear H1 O1
      refine hK.out _ _ ?_
      clear hK K
      refine norm_ (a' := ?_) ?_ ?_
      rotate_left
      ·rfl
      refine done_ (by kernel_rfl) ?_
      go_wp2_with (first | ((with_reducible refine zqg (N := 92) rfl ?_); refine H.out.ld_row 0 rfl rfl rfl rfl Try.underlying28 rfl hs28 ?_; (try simp only [Act.put, List.setIfInBounds_toArray, List.set_cons_zero, List.set_cons_succ])) | ((with_reducible refine gate_store (t := 28) (p := 2) rfl ?_); refine H.out.st_row 2 rfl rfl (x := .tmp 2) (y := .tmp 92) rfl rfl rfl (cD ⟨some ⟨g1, 0, none⟩, c1, some ⟨p2, 0, none⟩, c2, some ⟨p3, 0, none⟩, c3, A4, c4⟩ D) rfl hs28 rfl (cD_one _ _) ?_; intro ws24 H1; clear H; have H := H1; clear H1))
      exact bodyPost_ret (results_cell_row rfl _ _ g2 28 _ (0, 0) _ rfl (H.out.box 2 rfl) Try.underlying28 rfl (by kernel_rfl)) rfl (ret_as (by simp only [cD, List.length_set]) (draws_of HWG.out H.out 3 4 1 rfl rfl rfl (by decide) (by decide) (HR.out.less (m' := m) (by omega)) (OwS.lies O.out) (fits_set1 (fits_good HG.out))))
     ·skip
      have y1a : ((r39 : Int) == 1) = false := beq_eq_false_iff_ne.mpr y1
      have y1b : decide ((r39 : Int) = 1) = false := decide_eq_false y1
      clear y1
      by_cases y2 : (r39 : Int) = 2
      ·skip
       have y2a : ((r39 : Int) == 2) = true := beq_iff_eq.mpr y2
       have y2b : decide ((r39 : Int) = 2) = true := decide_eq_true y2
       clear y2
       go_wp2
       refine start_ (n := 6) (S := fun w' => Hq w0.heap.size w w' [.box g3 (cD ⟨some ⟨g1, 0, none⟩, c1, some ⟨p2, 0, none⟩, c2, some ⟨p3, 0, none⟩, c3, A4, c4⟩ D) 28]) (ds := [5]) #[false, false, false, false, false, false] (by kernel_rfl) rfl rfl (H.out.drew.sel [0] _ (by decide) rfl) (fun hHeld => ?_)
       have H1 := Az.mk H.out.drew
       clear H; have H := H1; clear H1
       generalize World.drew w39 = wd16 at hHeld H ⊢
       refine zqp (i := 0) (N := some 57) (v := ?_) (a' := ?_) #[true, false, false, false, false, false] rfl rfl (by kernel_rfl) (fun _ _ _ h => h) (Or.inl ⟨by rfl, ?_⟩) ?_ ?_
       rotate_left
       ·intro w'
        go_simp
        with_reducible rfl
       rotate_left
       ·simp only [Act.put, List.setIfInBounds_toArray, List.set_cons_zero, List.set_cons_succ, i64_w, i32_w]
        rfl
       refine zqt (i := 1) (N := some 58) (v := .slice (some ⟨p3, 0, none⟩) D.l3.length c3) (a' := ?_) #[true, true, false, false, false, false] rfl rfl (by kernel_rfl) (fun _ _ _ h => h) (Or.inl ⟨by rfl, fun w' s0 => s0.run_cell 0 rfl 3 rfl rfl rfl Try.underlying25 rfl⟩) hHeld ?_ ?_
       rotate_left
       ·simp only [Act.put, List.setIfInBounds_toArray, List.set_cons_zero, List.set_cons_succ, i64_w, i32_w]
        rfl
       refine zqp (i := 2) (N := some 59) (v := ?_) (a' := ?_) #[true, true, true, false, false, false] rfl rfl (by kernel_rfl) (fun _ _ _ h => h) (Or.inl ⟨by rfl, ?_⟩) ?_ ?_
       rotate_left
       ·intro w'
        go_simp
        with_reducible rfl
       rotate_left
       ·simp only [Act.put, List.setIfInBounds_toArray, List.set_cons_zero, List.set_cons_succ, i64_w, i32_w]
        rfl
       refine one_ (i := 3) (N := some 60) #[true, true, true, true, false, false] rfl rfl (by kernel_rfl) (by decide) (fun K hK => ?_)
       refine goes_ Try.func48 (by kernel_rfl) rfl #[.pointer (some ⟨g, 0, none⟩), .int .i64 12] (by rfl) rfl rfl (by (try simp only [List.map_toArray, List.map_cons, List.map_nil]); first | done | rfl) ?_
       refine (pick_callq (m := m + 1398) HB.out H.out 3 rfl (HR.out.less (by omega)) 12 (by omega)).mono ?_
       rintro e w60 ⟨r60, c60, rfl, hr60, hrd, h1⟩
       refine ⟨_, rfl, ?_⟩
       have HR1 := Az.mk hrd
       have H1 := Az.mk h1
       have hz60 := eq_true (Int.natCast_nonneg r60)
       clear hrd h1
       clear H HR; have H := H1; have HR := HR1; clear H1 HR1
       refine hK.out _ _ (H.out.sel [0] _ (by decide) rfl) (fun hHeld => ?_)
       clear hK K
       refine norm_ (a' := ?_) ?_ ?_
       rotate_left
       ·show Act.put _ (some 60) _ = _
        simp only [Act.put, List.setIfInBounds_toArray, List.set_cons_zero, List.set_cons_succ, i64_w, i32_w]
        rfl
       have hl60 : (r60 : Int) < (D.l3.length : Int) := by have := HG.out.sh; unfold Shaped at this; omega
       refine zqp (i := 4) (N := some 61) (v := ?_) (a' := ?_) #[true, true, true, true, true, false] rfl rfl (by kernel_rfl) (fun _ _ _ h => h) (Or.inl ⟨by rfl, ?_⟩) ?_ ?_
       rotate_left
       ·intro w'
        go_simp
        with_reducible rfl
       rotate_left
       ·simp only [Act.put, List.setIfInBounds_toArray, List.set_cons_zero, List.set_cons_succ, i64_w, i32_w]
        rfl
       have HC := Az.mk (ows_cell3 (H.out.ows 1 rfl O.out) (i := r60) (by omega))
       refine last_ (i := 5) (N := none) #[true, true, true, true, true, true] rfl rfl (by kernel_rfl) (by decide) (fun K hK => ?_)
       refine last_st (by rfl) rfl (run_sc (v := .bool true) sizeS4 HC.out.1 HC.out.2 rfl rfl rfl rfl) ?_
       have H1 := Az.mk (H.out.set_cell (j := r60) 1 rfl S3.out (.bool true))
       have O1 := Az.mk ((H.out.ows 1 rfl O.out).put3 r60 true)
       clear H O; have H := H1; have O := O1; clear H1 O1
       refine hK.out _ _ ?_
       clear hK K
       refine norm_ (a' := ?_) ?_ ?_
       rotate_left
       ·rfl
       refine done_ (by kernel_rfl) ?_
       go_wp2_with (first | ((with_reducible refine zqg (N := 92) rfl ?_); refine H.out.ld_row 0 rfl rfl rfl rfl Try.underlying28 rfl hs28 ?_; (try simp only [Act.put, List.setIfInBounds_toArray, List.set_cons_zero, List.set_cons_succ])) | ((with_reducible refine gate_store (t := 28) (p := 2) rfl ?_); refine H.out.st_row 2 rfl rfl (x := .tmp 2) (y := .tmp 92) rfl rfl rfl (cD ⟨some ⟨g1, 0, none⟩, c1, some ⟨p2, 0, none⟩, c2, some ⟨p3, 0, none⟩, c3, A4, c4⟩ D) rfl hs28 rfl (cD_one _ _) ?_; intro ws24 H1; clear H; have H := H1; clear H1))
       exact bodyPost_ret (results_cell_row rfl _ _ g2 28 _ (0, 0) _ rfl (H.out.box 2 rfl) Try.underlying28 rfl (by kernel_rfl)) rfl (ret_as (by simp only [cD, List.length_set]) (draws_of HWG.out H.out 3 4 1 rfl rfl rfl (by decide) (by decide) (HR.out.less (m' := m) (by omega)) (OwS.lies O.out) (fits_set3 (fits_good HG.out))))
      ·skip
       have y2a : ((r39 : Int) == 2) = false := beq_eq_false_iff_ne.mpr y2
       have y2b : decide ((r39 : Int) = 2) = false := decide_eq_false y2
       clear y2
       by_cases y3 : (r39 : Int) = 3
       ·skip
        have y3a : ((r39 : Int) == 3) = true := beq_iff_eq.mpr y3
        have y3b : decide ((r39 : Int) = 3) = true := decide_eq_true y3
        clear y3
        go_wp2_with (first | ((with_reducible refine zqg (N := 65) rfl ?_); refine H.out.ld_cell 0 rfl 4 (v := .slice A4 D.l4.length c4) rfl rfl rfl rfl Try.underlying26 rfl ?_; (try simp only [Act.put, List.setIfInBounds_toArray, List.set_cons_zero, List.set_cons_succ])) | ((with_reducible refine gate_builtin (b := .append) (xs := #[.tmp 65, .tmp 67]) rfl ?_); at_builtin; refine H.out.app 1 rfl O.out (by have := HG.out.sh; unfold Shaped at this; omega) ⟨false, 12, ⟨#[97, 98, 99]⟩⟩ rfl (.tmp 65) (.tmp 67) rfl rfl (by first | (go_simp; done) | (go_simp; rfl)) ?_; intro A68 c68 w68 q68 HQ68 H1 O1; clear H O; have H := H1; have O := O1; clear H1 O1; (try simp only [Act.put, List.setIfInBounds_toArray, List.set_cons_zero, List.set_cons_succ])) | ((with_reducible refine gate_store (t := 26) (p := 69) rfl ?_); refine H.out.stb 0 rfl 4 (.slice A68 q68.length c68) rfl rfl sizeQ26 rfl rfl rfl rfl rfl ?_; intro ws18 H1; clear H; have H := H1; clear H1) | ((with_reducible refine zqg (N := 92) rfl ?_); refine H.out.ld_row 0 rfl rfl rfl rfl Try.underlying28 rfl hs28 ?_; (try simp only [Act.put, List.setIfInBounds_toArray, List.set_cons_zero, List.set_cons_succ])) | ((with_reducible refine gate_store (t := 28) (p := 2) rfl ?_); refine H.out.st_row 2 rfl rfl (x := .tmp 2) (y := .tmp 92) rfl rfl rfl (cD ⟨some ⟨g1, 0, none⟩, c1, some ⟨p2, 0, none⟩, c2, some ⟨p3, 0, none⟩, c3, A68, c68⟩ { D with l4 := q68 }) rfl hs28 rfl (cD_one _ _) ?_; intro ws24 H1; clear H; have H := H1; clear H1))
        exact bodyPost_ret (results_cell_row rfl _ _ g2 28 _ (0, 0) _ rfl (H.out.box 2 rfl) Try.underlying28 rfl (by kernel_rfl)) rfl ((draws_of HWG.out H.out 3 4 1 rfl rfl rfl (by decide) (by decide) (HR.out.less (m' := m) (by omega)) (OwS.lies O.out) (fits_l4 (fits_good HG.out) (by have := HG.out.sh; unfold Shaped at this; rw [HQ68.out, List.length_append, List.length_singleton]; omega))))
       ·skip
        have y3a : ((r39 : Int) == 3) = false := beq_eq_false_iff_ne.mpr y3
        have y3b : decide ((r39 : Int) = 3) = false := decide_eq_false y3
        clear y3
        by_cases y4 : (r39 : Int) = 4
        ·skip
         have y4a : ((r39 : Int) == 4) = true := beq_iff_eq.mpr y4
         have y4b : decide ((r39 : Int) = 4) = true := decide_eq_true y4
         clear y4
         have h4 := Az.mk (show D.l4.length ≤ 40 from HG.out.sh.2.2.2.2)
         go_wp2
         simp only [y0a]
         go_loopg [] (42 - D.l4.length) (fun kq w' => ∃ (A4' : Option Addr) (c4' : Nat) (q : List S54) (S : Nat → Prop) (wo : World) (c : Array Value), Az (q.length + kq = 42 ∧ q.length ≤ 41) ∧ Az (Rdr w0 b (m + 31 * kq) c) ∧ Az (OwS wo w0.heap.size S ⟨some ⟨g1, 0, none⟩, c1, some ⟨p2, 0, none⟩, c2, some ⟨p3, 0, none⟩, c3, A4', c4'⟩ { D with l4 := q }) ∧ Az (Hq w0.heap.size w w' [.box g3 (cD ⟨some ⟨g1, 0, none⟩, c1, some ⟨p2, 0, none⟩, c2, some ⟨p3, 0, none⟩, c3, A4', c4'⟩ { D with l4 := q }) 28, .set S wo, .box g2 (#[.int .i64 0, .slice none 0 0, .slice none 0 0, .slice none 0 0, .slice none 0 0]) 28, .box g c 104, .set (fun k => k ≠ g ∧ w0.heap.size ≤ k ∧ k < w.heap.size) w]))
         case atStart => exact ⟨A4, c4, D.l4, _, _, _, ⟨by have := h4.out; omega⟩, ⟨HR.out.less (by omega)⟩, O, ⟨H.out.sel [0, 1, 2, 3, 4] _ (by decide) rfl⟩⟩
         case round =>
          clear H HR O
          obtain ⟨A4', c4', q, S, wo, c, HN, HR, O, H⟩ := hrel
          cases gk with
          | zero => exact absurd HN.out.1 (by have := HN.out.2; omega)
          | succ k2 =>
           have tk0 : True := trivial
           go_wp2
           refine start_ (n := 7) (S := fun w' => Hq w0.heap.size w w' [.box g3 (cD ⟨some ⟨g1, 0, none⟩, c1, some ⟨p2, 0, none⟩, c2, some ⟨p3, 0, none⟩, c3, A4', c4'⟩ { D with l4 := q }) 28]) (ds := []) #[false, false, false, false, false, false, false] (by kernel_rfl) rfl rfl (H.out.drew.sel [0] _ (by decide) rfl) (fun hHeld => ?_)
           have H1 := Az.mk H.out.drew
           clear H; have H := H1; clear H1
           generalize World.drew wr = wd20 at hHeld H ⊢
           refine zqp (i := 0) (N := some 72) (v := ?_) (a' := ?_) #[true, false, false, false, false, false, false] rfl rfl (by kernel_rfl) (fun _ _ _ h => h) (Or.inl ⟨by rfl, ?_⟩) ?_ ?_
           rotate_left
           ·intro w'
            go_simp
            with_reducible rfl
           rotate_left
           ·simp only [Act.put, List.setIfInBounds_toArray, List.set_cons_zero, List.set_cons_succ, i64_w, i32_w]
            rfl
           refine zqt (i := 1) (N := some 73) (v := .slice A4' q.length c4') (a' := ?_) #[true, true, false, false, false, false, false] rfl rfl (by kernel_rfl) (fun _ _ _ h => h) (Or.inl ⟨by rfl, fun w' s0 => s0.run_cell 0 rfl 4 rfl rfl rfl Try.underlying26 rfl⟩) hHeld ?_ ?_
           rotate_left
           ·simp only [Act.put, List.setIfInBounds_toArray, List.set_cons_zero, List.set_cons_succ, i64_w, i32_w]
            rfl
           refine zqp (i := 2) (N := some 74) (v := ?_) (a' := ?_) #[true, true, true, false, false, false, false] rfl rfl (by kernel_rfl) (fun _ _ _ h => h) (Or.inl ⟨by rfl, ?_⟩) ?_ ?_
           rotate_left
           ·intro w'
            go_simp
            with_reducible rfl
           rotate_left
           ·simp only [Act.put, List.setIfInBounds_toArray, List.set_cons_zero, List.set_cons_succ, i64_w, i32_w]
            rfl
           refine zqp (i := 3) (N := some 75) (v := ?_) (a' := ?_) #[true, true, true, true, false, false, false] rfl rfl (by kernel_rfl) (fun _ _ _ h => h) (Or.inl ⟨by rfl, ?_⟩) ?_ ?_
           rotate_left
           ·intro w'
            go_simp
            with_reducible rfl
           rotate_left
           ·simp only [Act.put, List.setIfInBounds_toArray, List.set_cons_zero, List.set_cons_succ, i64_w, i32_w]
            rfl
           refine one_ (i := 4) (N := some 76) #[true, true, true, true, true, false, false] rfl rfl (by kernel_rfl) (by decide) (fun K hK => ?_)
           refine goes_ Try.func48 (by kernel_rfl) rfl #[.pointer (some ⟨g, 0, none⟩), .int .i64 2] (by rfl) rfl rfl (by (try simp only [List.map_toArray, List.map_cons, List.map_nil]); first | done | rfl) ?_
           refine (pick_callq (m := m + 31 * k2 + 30) HB.out H.out 3 rfl (HR.out.less (by omega)) 2 (by omega)).mono ?_
           rintro e w76 ⟨r76, c76, rfl, hr76, hrd, h1⟩
           refine ⟨_, rfl, ?_⟩
           have HR1 := Az.mk hrd
           have H1 := Az.mk h1
           have hz76 := eq_true (Int.natCast_nonneg r76)
           clear hrd h1
           clear H HR; have H := H1; have HR := HR1; clear H1 HR1
           refine hK.out _ _ (H.out.sel [0] _ (by decide) rfl) (fun hHeld => ?_)
           clear hK K
           refine norm_ (a' := ?_) ?_ ?_
           rotate_left
           ·show Act.put _ (some 76) _ = _
            simp only [Act.put, List.setIfInBounds_toArray, List.set_cons_zero, List.set_cons_succ, i64_w, i32_w]
            rfl
           refine zqp (i := 5) (N := some 77) (v := ?_) (a' := ?_) #[true, true, true, true, true, true, false] rfl rfl (by kernel_rfl) (fun _ _ _ h => h) (Or.inl ⟨by rfl, ?_⟩) ?_ ?_
           rotate_left
           ·intro w'
            go_simp
            with_reducible rfl
           rotate_left
           ·simp only [Act.put, List.setIfInBounds_toArray, List.set_cons_zero, List.set_cons_succ, i64_w, i32_w]
            rfl
           refine zqp (i := 6) (N := some 78) (v := ?_) (a' := ?_) #[true, true, true, true, true, true, true] rfl rfl (by kernel_rfl) (fun _ _ _ h => h) (Or.inl ⟨by rfl, ?_⟩) ?_ ?_
           rotate_left
           ·intro w'
            go_simp
            with_reducible rfl
           rotate_left
           ·simp only [Act.put, List.setIfInBounds_toArray, List.set_cons_zero, List.set_cons_succ, i64_w, i32_w]
            rfl
           refine done_ (by kernel_rfl) ?_
           have ew : wrap64 (40 + (r76 : Int)) = 40 + (r76 : Int) := wrap_ok (by omega)
           rw [ew]
           clear ew
           by_cases hl : (q.length : Int) < 40 + (r76 : Int)
           ·have hq : q.length ≤ 40 := by omega
            have HQ := Az.mk hq
            have hla : decide ((q.length : Int) < 40 + (r76 : Int)) = true := decide_eq_true hl
            clear hl hq
            simp only [hla]
            go_wp2
            refine start_ (n := 8) (S := fun w' => Hq w0.heap.size w w' [.box g3 (cD ⟨some ⟨g1, 0, none⟩, c1, some ⟨p2, 0, none⟩, c2, some ⟨p3, 0, none⟩, c3, A4', c4'⟩ { D with l4 := q }) 28]) (ds := [7]) #[false, false, false, false, false, false, false, false] (by kernel_rfl) rfl rfl (H.out.drew.sel [0] _ (by decide) rfl) (fun hHeld => ?_)
            have H1 := Az.mk H.out.drew
            clear H; have H := H1; clear H1
            generalize World.drew w76 = wd21 at hHeld H ⊢
            refine zqp (i := 0) (N := some 79) (v := ?_) (a' := ?_) #[true, false, false, false, false, false, false, false] rfl rfl (by kernel_rfl) (fun _ _ _ h => h) (Or.inl ⟨by rfl, ?_⟩) ?_ ?_
            rotate_left
            ·intro w'
             go_simp
             with_reducible rfl
            rotate_left
            ·simp only [Act.put, List.setIfInBounds_toArray, List.set_cons_zero, List.set_cons_succ, i64_w, i32_w]
             rfl
            refine zqt (i := 1) (N := some 80) (v := .slice A4' q.length c4') (a' := ?_) #[true, true, false, false, false, false, false, false] rfl rfl (by kernel_rfl) (fun _ _ _ h => h) (Or.inl ⟨by rfl, fun w' s0 => s0.run_cell 0 rfl 4 rfl rfl rfl Try.underlying26 rfl⟩) hHeld ?_ ?_
            rotate_left
            ·simp only [Act.put, List.setIfInBounds_toArray, List.set_cons_zero, List.set_cons_succ, i64_w, i32_w]
             rfl
            refine zqp (i := 2) (N := some 81) (v := ?_) (a' := ?_) #[true, true, true, false, false, false, false, false] rfl rfl (by kernel_rfl) (fun _ _ _ h => h) (Or.inl ⟨by rfl, ?_⟩) ?_ ?_
            rotate_left
            ·intro w'
             go_simp
             with_reducible rfl
            rotate_left
            ·simp only [Act.put, List.setIfInBounds_toArray, List.set_cons_zero, List.set_cons_succ, i64_w, i32_w]
             rfl
            refine one_ (i := 3) (N := some 82) #[true, true, true, true, false, false, false, false] rfl rfl (by kernel_rfl) (by decide) (fun K hK => ?_)
            refine goes_ Try.func81 (by kernel_rfl) rfl #[.pointer (some ⟨g, 0, none⟩)] (by rfl) rfl rfl (by (try simp only [List.map_toArray, List.map_cons, List.map_nil]); first | done | rfl) ?_
            refine (put_callq (m := m + 31 * k2 + 0) HB.out H.out 3 rfl (HR.out.less (by omega))).mono ?_
            rintro e w82 ⟨x82, c82, rfl, hx, hrd, h1⟩
            refine ⟨_, rfl, ?_⟩
            have HR1 := Az.mk hrd
            have H1 := Az.mk h1
            have HX82 := Az.mk hx
            clear hrd h1 hx
            clear H HR; have H := H1; have HR := HR1; clear H1 HR1
            refine hK.out _ _ (H.out.sel [0] _ (by decide) rfl) (fun hHeld => ?_)
            clear hK K
            refine norm_ (a' := ?_) ?_ ?_
            rotate_left
            ·show Act.put _ (some 82) _ = _
             simp only [Act.put, List.setIfInBounds_toArray, List.set_cons_zero, List.set_cons_succ, i64_w, i32_w]
             rfl
            refine one_ (i := 4) (N := some 83) #[true, true, true, true, true, false, false, false] rfl rfl (by kernel_rfl) (by decide) (fun K hK => ?_)
            refine event_step (v := .slice (some ⟨w82.heap.size, 0, none⟩) 1 1) (w1 := w82.alloc (.cells #[.bool x82.f0, .int .i64 x82.f1, .string x82.f2] 54)) (by rfl) (by first | (go_simp; done) | (go_simp; rfl)) ?_
            refine hK.out _ _ ((H.out.step (zq2 (Below.refl _ _) _)).sel [0] _ (by decide) rfl) (fun hHeld => ?_)
            clear hK K
            refine norm_ (a' := ?_) ?_ ?_
            rotate_left
            ·show Act.put _ (some 83) _ = _
             simp only [Act.put, List.setIfInBounds_toArray, List.set_cons_zero, List.set_cons_succ, i64_w, i32_w]
             rfl
            refine one_ (i := 5) (N := some 84) #[true, true, true, true, true, true, false, false] rfl rfl (by kernel_rfl) (by decide) (fun K hK => ?_)
            refine H.out.app_ 1 rfl O.out (by have := HQ.out; show q.length ≤ _; omega) x82 (by rfl) (.tmp 80) (.tmp 83) rfl rfl rfl ?_
            intro A84 c84 w84 q84 HQ84 H1 O1
            clear H O; have H := H1; have O := O1; clear H1 O1
            refine hK.out _ _ (H.out.sel [0] _ (by decide) rfl) (fun hHeld => ?_)
            clear hK K
            refine norm_ (a' := ?_) ?_ ?_
            rotate_left
            ·show Act.put _ (some 84) _ = _
             simp only [Act.put, List.setIfInBounds_toArray, List.set_cons_zero, List.set_cons_succ, i64_w, i32_w]
             rfl
            refine zqp (i := 6) (N := some 85) (v := ?_) (a' := ?_) #[true, true, true, true, true, true, true, false] rfl rfl (by kernel_rfl) (fun _ _ _ h => h) (Or.inl ⟨by rfl, ?_⟩) ?_ ?_
            rotate_left
            ·intro w'
             go_simp
             with_reducible rfl
            rotate_left
            ·simp only [Act.put, List.setIfInBounds_toArray, List.set_cons_zero, List.set_cons_succ, i64_w, i32_w]
             rfl
            refine last_ (i := 7) (N := none) #[true, true, true, true, true, true, true, true] rfl rfl (by kernel_rfl) (by decide) (fun K hK => ?_)
            refine H.out.last_cell 0 rfl 4 (.slice A84 q84.length c84) rfl (by rfl) sizeQ26 rfl rfl rfl rfl rfl ?_
            intro ws21 H1
            clear H; have H := H1; clear H1
            refine hK.out _ _ ?_
            clear hK K
            refine norm_ (a' := ?_) ?_ ?_
            rotate_left
            ·rfl
            refine done_ (by kernel_rfl) ?_
            go_wp2
            go_roundg k2
            case measure => omega
            case rel => exact ⟨A84, c84, q84, _, _, _, ⟨by have h1 := HN.out; have h2 := HQ.out; rw [HQ84.out, List.length_append, List.length_singleton]; show q.length + 1 + k2 = 42 ∧ q.length + 1 ≤ 41; omega⟩, ⟨HR.out.less (by omega)⟩, O, ⟨H.out.sel [0, 1, 2, 3, 4] _ (by decide) rfl⟩⟩
           ·have hla : decide ((q.length : Int) < 40 + (r76 : Int)) = false := decide_eq_false hl
            clear hl
            simp only [hla]
            go_upto_region 24 with fail
            go_wp2_with (first | ((with_reducible refine zqg (N := 92) rfl ?_); refine H.out.ld_row 0 rfl rfl rfl rfl Try.underlying28 rfl hs28 ?_; (try simp only [Act.put, List.setIfInBounds_toArray, List.set_cons_zero, List.set_cons_succ])) | ((with_reducible refine gate_store (t := 28) (p := 2) rfl ?_); refine H.out.st_row 2 rfl rfl (x := .tmp 2) (y := .tmp 92) rfl rfl rfl (cD ⟨some ⟨g1, 0, none⟩, c1, some ⟨p2, 0, none⟩, c2, some ⟨p3, 0, none⟩, c3, A4', c4'⟩ { D with l4 := q }) rfl hs28 rfl (cD_one _ _) ?_; intro ws24 H1; clear H; have H := H1; clear H1))
            exact bodyPost_ret (results_cell_row rfl _ _ g2 28 _ (0, 0) _ rfl (H.out.box 2 rfl) Try.underlying28 rfl (by kernel_rfl)) rfl ((draws_of HWG.out H.out 3 4 1 rfl rfl rfl (by decide) (by decide) (HR.out.less (m' := m) (by omega)) (OwS.lies O.out) (fits_l4 (fits_good HG.out) (by have := HN.out; omega))))
        ·skip
         have y4a : ((r39 : Int) == 4) = false := beq_eq_false_iff_ne.mpr y4
         have y4b : decide ((r39 : Int) = 4) = false := decide_eq_false y4
         clear y4
         by_cases y5 : (r39 : Int) = 5
         ·skip
          have y5a : ((r39 : Int) == 5) = true := beq_iff_eq.mpr y5
          have y5b : decide ((r39 : Int) = 5) = true := decide_eq_true y5
          clear y5
          have h2 := Az.mk HG.out.sh.2.2.1
          have hc2 := Az.mk (OwS.cap2 O.out h2.out)
          go_wp2_with (first | ((with_reducible refine zqg (N := 89) rfl ?_); refine H.out.ld_cell 0 rfl 2 (v := .slice (some ⟨p2, 0, none⟩) D.l2.length c2) rfl rfl rfl rfl Try.underlying24 rfl ?_; (try simp only [Act.put, List.setIfInBounds_toArray, List.set_cons_zero, List.set_cons_succ])) | ((with_reducible refine zqg (N := 90) rfl ?_); refine drop_ev (c := c2) (l := D.l2) rfl rfl rfl h2.out hc2.out ?_; intro q90 HQ90; (try simp only [Act.put, List.setIfInBounds_toArray, List.set_cons_zero, List.set_cons_succ])) | ((with_reducible refine gate_store (t := 24) (p := 91) rfl ?_); refine H.out.stb 0 rfl 2 (.slice (some ⟨p2, 1, none⟩) q90.length (c2 - 1)) rfl rfl sizeQ24 rfl rfl rfl rfl rfl ?_; intro ws23 H1; clear H; have H := H1; clear H1) | ((with_reducible refine zqg (N := 92) rfl ?_); refine H.out.ld_row 0 rfl rfl rfl rfl Try.underlying28 rfl hs28 ?_; (try simp only [Act.put, List.setIfInBounds_toArray, List.set_cons_zero, List.set_cons_succ])) | ((with_reducible refine gate_store (t := 28) (p := 2) rfl ?_); refine H.out.st_row 2 rfl rfl (x := .tmp 2) (y := .tmp 92) rfl rfl rfl (cD ⟨some ⟨g1, 0, none⟩, c1, some ⟨p2, 1, none⟩, c2 - 1, some ⟨p3, 0, none⟩, c3, A4, c4⟩ { D with l2 := q90 }) rfl hs28 rfl (cD_one _ _) ?_; intro ws24 H1; clear H; have H := H1; clear H1))
          exact bodyPost_ret (results_cell_row rfl _ _ g2 28 _ (0, 0) _ rfl (H.out.box 2 rfl) Try.underlying28 rfl (by kernel_rfl)) rfl ((draws_of HWG.out H.out 3 4 1 rfl rfl rfl (by decide) (by decide) (HR.out.less (m' := m) (by omega)) ((by rw [HQ90.out]; exact OwS.lies_drop O.out h2.out)) ((by rw [HQ90.out]; exact fits_drop (fits_good HG.out)))))
         ·skip
          have y5a : ((r39 : Int) == 5) = false := beq_eq_false_iff_ne.mpr y5
          have y5b : decide ((r39 : Int) = 5) = false := decide_eq_false y5
          clear y5
          go_wp2_with (first | ((with_reducible refine zqg (N := 92) rfl ?_); refine H.out.ld_row 0 rfl rfl rfl rfl Try.underlying28 rfl hs28 ?_; (try simp only [Act.put, List.setIfInBounds_toArray, List.set_cons_zero, List.set_cons_succ])) | ((with_reducible refine gate_store (t := 28) (p := 2) rfl ?_); refine H.out.st_row 2 rfl rfl (x := .tmp 2) (y := .tmp 92) rfl rfl rfl (cD ⟨some ⟨g1, 0, none⟩, c1, some ⟨p2, 0, none⟩, c2, some ⟨p3, 0, none⟩, c3, A4, c4⟩ D) rfl hs28 rfl (cD_one _ _) ?_; intro ws24 H1; clear H; have H := H1; clear H1))
          exact bodyPost_ret (results_cell_row rfl _ _ g2 28 _ (0, 0) _ rfl (H.out.box 2 rfl) Try.underlying28 rfl (by kernel_rfl)) rfl ((draws_of HWG.out H.out 3 4 1 rfl rfl rfl (by decide) (by decide) (HR.out.less (m' := m) (by omega)) (OwS.lies O.out) (fits_good HG.out)))
end Go.Proofs.Ytkgpnloghmbmlaa.Hq
namespace Go.Proofs.Ytkgpnloghmbmlaa.Hq
open Go.RowKit Go.Proofs.Ytkgpnloghmbmlaa.Print Go.Proofs.YtkgpnloghmbmlaaW.PrintWords Go.Proofs.YtkgpnloghmbmlaaW.PrintLast Go.Proofs.YtkgpnloghmbmlaaW.PrintMore Go.Proofs.Ytkgpnloghmbmlaa.Pure Go.Proofs.Ytkgpnloghmbmlaa.Hd
set_option linter.unusedVariables false
set_option linter.unusedSimpArgs false
def Boxes : List Part → Prop
 | [] => True
 | .box _ _ t :: L => t ≠ 104 ∧ Boxes L
 | .set _ _ :: _ => False
theorem Boxes.all : ∀ {L : List Part}, Boxes L → ∀ p ∈ L, ∃ g' cs' t', p = .box g' cs' t' ∧ t' ≠ 104
 | .box g cs t :: L, h, p, hp => by
  rcases List.mem_cons.1 hp with rfl | hp
  ·exact ⟨g, cs, t, rfl, h.1⟩
  ·exact Boxes.all h.2 p hp
theorem Hq.opened {base : Nat} {ws w w' : World} {L : List Part} (H : Hq base ws w L) (hb : Below w.heap.size w w') {g : Nat} {cs : Array Value} (hg : base ≤ g) (hbox : w'.heap[g]? = some (.cells cs 104 (0, 0))) (ht : ∀ p ∈ L, ∃ g' cs' t', p = .box g' cs' t' ∧ t' ≠ 104) : Hq base ws w' (.box g cs 104 :: L) := by
 have H' := H.step hb
 refine ⟨H'.bel, H'.ge, fun q hq => ?_, List.pairwise_cons.2 ⟨fun q hq k h1 h2 => ?_, H'.dis⟩⟩
 ·rcases List.mem_cons.1 hq with rfl | hq
  ·exact ⟨fun k hk => by
    obtain rfl : k = g := hk
    exact ⟨hg, blk_lt hbox⟩, hbox⟩
  ·exact H'.all q hq
 ·obtain ⟨g', cs', t', rfl, hne⟩ := ht q hq
  have h3 := (H'.all _ hq).2
  obtain rfl : k = g := h1
  obtain rfl : k = g' := h2
  have h4 : w'.heap[k]? = some (.cells cs' t' (0, 0)) := h3
  rw [hbox] at h4
  injection h4 with h4
  injection h4 with _ h4
  exact hne h4.symm
theorem Hq.drawn {base : Nat} {ws w w' : World} {L : List Part} (H : Hq base ws w L) (i : Nat) {g : Nat} {cs cs' : Array Value} (e : L[i]? = some (.box g cs 104)) (hbox : w'.heap[g]? = some (.cells cs' 104 (0, 0))) (hb : Below base w w') (hk : ∀ k, k < w.heap.size → k ≠ g → w'.heap[k]? = w.heap[k]?) : Hq base ws w' (.set (fun k => w.heap.size ≤ k ∧ k < w'.heap.size) w' :: L.set i (.box g cs' 104)) := by
 have H1 := H.put_box i e hbox hb hk
 refine ⟨H1.bel, H1.ge, fun q hq => ?_, List.pairwise_cons.2 ⟨fun q hq k h1 h2 => ?_, H1.dis⟩⟩
 ·rcases List.mem_cons.1 hq with rfl | hq
  ·exact ⟨fun k hk => ⟨Nat.le_trans H.ge hk.1, hk.2⟩, fun _ _ => rfl⟩
  ·exact H1.all q hq
 ·have h3 : k < w.heap.size := by
   rcases List.mem_or_eq_of_mem_set hq with hq | rfl
   ·exact ((H.all q hq).1 k h2).2
   ·obtain rfl : k = g := h2
    exact blk_lt (H.box i e)
  have := h1.1
  omega
section
variable {w0 w : World} {L : List Part}
theorem open_callq (H : Hq w0.heap.size w0 w L) {A : Option Addr} {c : Nat} {l : List Int} (hC : Kd.C (Kd.int .u8) w0 A l.length l) (hc : l.length ≤ c) (hw : ∀ x ∈ l, (Lit.int .u8 x).wf = true) (ht : Boxes L) :
  Calls Try.prog 47 #[.slice A l.length c] w fun e w' => ∃ (g : Nat) (cs : Array Value) (b : List Int), e = .returned (.pointer (some ⟨g, 0, none⟩)) ∧ Rdr w0 b 400000 cs ∧ Hq w0.heap.size w0 w' (.box g cs 104 :: L) := by
 obtain ⟨b, hb, hcode⟩ := open_ev l hw
 refine (spec_l6Open.calls A c l b 0 w0 w H.bel hC hc hb).mono fun e w' hh => ?_
 obtain ⟨g, he, ⟨A', c', h1, h2, h3⟩, _, hb2⟩ := hh
 exact ⟨g, _, b, he, ⟨⟨A', c', 0, rfl, h3, by omega, by omega⟩, hcode⟩, H.opened hb2 h2 h1 ht.all⟩
theorem disk_callq {b : List Int} {g m : Nat} {cs : Array Value} (H : Hq w0.heap.size w0 w L) (i : Nat) (e : L[i]? = some (.box g cs 104)) (hr : Rdr w0 b (m + 3000) cs) :
  Calls Try.prog 75 #[.pointer (some ⟨g, 0, none⟩)] w fun e w' => ∃ (M : Mm) (D : Dd) (cs' : Array Value), e = .returned (.agg (cD M D)) ∧ FitsD D ∧ LiesS w' (fun k => w.heap.size ≤ k ∧ k < w'.heap.size) M D ∧ Rdr w0 b m cs' ∧ Hq w0.heap.size w0 w' (.set (fun k => w.heap.size ≤ k ∧ k < w'.heap.size) w' :: L.set i (.box g cs' 104)) := by
 refine (l71Disk_calls H.bel (H.box i e) (H.box_ge i e) hr).mono fun e' w' hh => ?_
 obtain ⟨M, D, cs', he, hf, hl, hr', hbox, hb, hk⟩ := hh
 exact ⟨M, D, cs', he, hf, fun w'' h => hl w'' fun k h1 h2 => h k ⟨h1, h2⟩, hr', H.drawn i e hbox hb hk⟩
end
def lit2 (r : Nat) : Int := ([-1, 12] : List Int).getD r 0
theorem lit2_get {r : Nat} (h : (r : Int) < 2) : (#[.int .i64 (-1), .int .i64 12] : Array Value)[r]? = some (.int .i64 (lit2 r)) := by
 have : r = 0 ∨ r = 1 := by omega
 rcases this with rfl | rfl <;> rfl
theorem cP_one (p : S54) : (cP p).all (·.oneCell') = true := by simp [cP, Value.oneCell']
theorem sizeQ9 : (Try.prog.info? 9).map (·.size) = some 1 := by kernel_rfl
def GivesP (w : World) (e : Ending) (w' : World) : Prop := ∃ (M : Mm) (D : Dd) (p : S54), e = .returned (.tuple #[.agg (cD M D), .agg (cP p)]) ∧ FitsD D ∧ p.f2.size ≤ 1000 ∧ Rd w' M D ∧ Below w.heap.size w w'
theorem put_size {p : S54} (h : putB p = true) : p.f2.size ≤ 700 := by
 unfold putB at h
 split at h
 ·exact (of_decide_eq_true h).2.2
 ·have := (of_decide_eq_true h).2.2
  omega
set_option maxHeartbeats 8000000 in
set_option maxRecDepth 100000 in
theorem drawPut_call (w : World) {A : Option Addr} {c : Nat} {l : List Int} (hC : Kd.C (Kd.int .u8) w A l.length l) (hc : l.length ≤ c) (hw : ∀ x ∈ l, (Lit.int .u8 x).wf = true) : Calls Try.prog 37 #[.slice A l.length c] w (GivesP w) := by
 have hs28 := sizeE28
 have hs54 := sizeE54
 have HC := Az.mk hC
 have HB := Az.mk (Below.refl w.heap.size w)
 have H := Az.mk (Hq.start w)
 have tk0 : True := trivial
 clear hC
 go_enter Try.func37, Try.ntmps37
 go_upto_if 15 with (first | ((with_reducible refine zqg (N := 2) rfl ?_); refine H.out.bx rfl (#[.int .i64 0, .slice none 0 0, .slice none 0 0, .slice none 0 0, .slice none 0 0]) 28 ?hr ?_; (case hr => first | (go_simp; done) | (go_simp; rfl)); intro g2 w2 H1; clear H; have H := H1; clear H1; (try simp only [Act.put, List.setIfInBounds_toArray, List.set_cons_zero, List.set_cons_succ])) | ((with_reducible refine zqg (N := 3) rfl ?_); refine H.out.bx rfl (#[.bool false, .int .i64 0, .string ⟨#[]⟩]) 54 ?hr ?_; (case hr => first | (go_simp; done) | (go_simp; rfl)); intro g3 w3 H1; clear H; have H := H1; clear H1; (try simp only [Act.put, List.setIfInBounds_toArray, List.set_cons_zero, List.set_cons_succ])) | (go_at_call 47; refine (open_callq H.out HC.out hc hw (by simp [Boxes])).mono ?_; rintro e w8 ⟨g, cg, b, rfl, hrd, h1⟩; have HR := Az.mk hrd; have H1 := Az.mk h1; clear hrd h1; clear H; have H := H1; clear H1) | (go_at_call 75; refine (disk_callq (m := 0 + 397000) H.out 0 rfl (HR.out.less (by omega))).mono ?_; rintro e w10 ⟨M10, D10, c10, rfl, hf, hl, hrd, h1⟩; have HF := Az.mk hf; have HL := Az.mk hl; have HR1 := Az.mk hrd; have H1 := Az.mk h1; clear hf hl hrd h1; clear H HR; have H := H1; have HR := HR1; clear H1 HR1) | ((with_reducible refine zqg (N := 5) rfl ?_); refine H.out.bx rfl (#[.int .i64 0, .slice none 0 0, .slice none 0 0, .slice none 0 0, .slice none 0 0]) 28 ?hr ?_; (case hr => first | (go_simp; done) | (go_simp; rfl)); intro g5 w5 H1; clear H; have H := H1; clear H1; (try simp only [Act.put, List.setIfInBounds_toArray, List.set_cons_zero, List.set_cons_succ])) | ((with_reducible refine gate_store (t := 28) (p := 5) rfl ?_); refine H.out.st_row 0 rfl rfl (x := .tmp 5) (y := .tmp 10) rfl rfl rfl (cD M10 D10) rfl hs28 rfl (cD_one _ _) ?_; intro ws1 H1; clear H; have H := H1; clear H1) | (go_at_call 81; have _tk := tk0; refine (put_callq (m := 0 + 396970) HB.out H.out 2 rfl (HR.out.less (by omega))).mono ?_; rintro e w12 ⟨x12, c12, rfl, hx, hrd, h1⟩; have HR1 := Az.mk hrd; have H1 := Az.mk h1; have HX12 := Az.mk hx; clear hrd h1 hx; clear H HR; have H := H1; have HR := HR1; clear H1 HR1; clear tk0 _tk; have tk1 : True := trivial) | ((with_reducible refine zqg (N := 6) rfl ?_); refine H.out.bx rfl (#[.bool false, .int .i64 0, .string ⟨#[]⟩]) 54 ?hr ?_; (case hr => first | (go_simp; done) | (go_simp; rfl)); intro g6 w6 H1; clear H; have H := H1; clear H1; (try simp only [Act.put, List.setIfInBounds_toArray, List.set_cons_zero, List.set_cons_succ])) | ((with_reducible refine gate_store (t := 54) (p := 6) rfl ?_); refine H.out.st_row 0 rfl rfl (x := .tmp 6) (y := .tmp 12) rfl rfl rfl (cP x12) rfl hs54 rfl (cP_one _) ?_; intro ws2 H1; clear H; have H := H1; clear H1) | (go_at_call 48; have _tk := tk1; refine (pick_callq (m := 0 + 396969) HB.out H.out 3 rfl (HR.out.less (by omega)) 20 (by omega)).mono ?_; rintro e w14 ⟨r14, c14, rfl, hr14, hrd, h1⟩; have HR1 := Az.mk hrd; have H1 := Az.mk h1; have hz14 := eq_true (Int.natCast_nonneg r14); clear hrd h1; clear H HR; have H := H1; have HR := HR1; clear H1 HR1; clear tk1 _tk; have tk2 : True := trivial))
 (try simp only [Act.put, List.setIfInBounds_toArray, List.set_cons_zero, List.set_cons_succ])
 by_cases y0 : (r14 : Int) = 0
 ·skip
  have y0a : ((r14 : Int) == 0) = true := beq_iff_eq.mpr y0
  have y0b : decide ((r14 : Int) = 0) = true := decide_eq_true y0
  clear y0
  have hz := put_size HX12.out
  have z1 := eq_true (show x12.f2.size + 1 ≤ 9223372036854775807 by omega)
  have z2 : decide (x12.f2.size + 1 ≤ 9223372036854775807) = true := decide_eq_true (by omega)
  have z3 : (9223372036854775807 < x12.f2.size + 1) = False := eq_false (by omega)
  have HZ := Az.mk hz
  clear hz
  go_upto_region 9 with (first | ((with_reducible refine zqg (N := 18) rfl ?_); refine H.out.ld_cell 0 rfl 2 (v := .string x12.f2) rfl rfl rfl rfl Try.underlying9 rfl ?_; (try simp only [Act.put, List.setIfInBounds_toArray, List.set_cons_zero, List.set_cons_succ])) | ((with_reducible refine gate_store (t := 9) (p := 20) rfl ?_); refine H.out.stb 0 rfl 2 (.string (x12.f2 ++ ⟨#[97]⟩)) rfl rfl sizeQ9 rfl rfl rfl rfl rfl ?_; intro ws5 H1; clear H; have H := H1; clear H1))
  go_wp2
  refine start_ (n := 4) (S := fun w' => Hq w.heap.size w w' [.box g5 (cD M10 D10) 28, .box g6 (cP ⟨x12.f0, x12.f1, x12.f2 ++ ⟨#[97]⟩⟩) 54]) (ds := []) #[false, false, false, false] (by kernel_rfl) rfl rfl (H.out.drew.sel [1, 0] _ (by decide) rfl) (fun hHeld => ?_)
  have H1 := Az.mk H.out.drew
  clear H; have H := H1; clear H1
  generalize World.drew _ = wd9 at hHeld H ⊢
  refine zqt (i := 0) (N := some 29) (v := .agg (cD M10 D10)) (a' := ?_) #[true, false, false, false] rfl rfl (by kernel_rfl) (fun _ _ _ h => h) (Or.inl ⟨by rfl, fun w' s0 => s0.run_row 0 rfl rfl rfl Try.underlying28 rfl hs28⟩) hHeld ?_ ?_
  rotate_left
  ·simp only [Act.put, List.setIfInBounds_toArray, List.set_cons_zero, List.set_cons_succ, i64_w, i32_w]
   rfl
  refine zqt (i := 1) (N := some 30) (v := .agg (cP ⟨x12.f0, x12.f1, x12.f2 ++ ⟨#[97]⟩⟩)) (a' := ?_) #[true, true, false, false] rfl rfl (by kernel_rfl) (fun _ _ _ h => h) (Or.inl ⟨by rfl, fun w' s0 => s0.run_row 1 rfl rfl rfl Try.underlying54 rfl hs54⟩) hHeld ?_ ?_
  rotate_left
  ·simp only [Act.put, List.setIfInBounds_toArray, List.set_cons_zero, List.set_cons_succ, i64_w, i32_w]
   rfl
  refine one_ (i := 2) (N := none) #[true, true, true, false] rfl rfl (by kernel_rfl) (by decide) (fun K hK => ?_)
  refine H.out.last_row 5 rfl (by rfl) (x := .tmp 2) (y := .tmp 29) rfl rfl rfl (cD M10 D10) rfl hs28 rfl (cD_one _ _) ?_
  intro ws3 H1
  clear H; have H := H1; clear H1
  refine hK.out _ _ (H.out.sel [1, 0] _ (by decide) rfl) (fun hHeld => ?_)
  clear hK K
  refine norm_ (a' := ?_) ?_ ?_
  rotate_left
  ·rfl
  refine one_ (i := 3) (N := none) #[true, true, true, true] rfl rfl (by kernel_rfl) (by decide) (fun K hK => ?_)
  refine H.out.last_row 4 rfl (by rfl) (x := .tmp 3) (y := .tmp 30) rfl rfl rfl (cP ⟨x12.f0, x12.f1, x12.f2 ++ ⟨#[97]⟩⟩) rfl hs54 rfl (cP_one _) ?_
  intro ws4 H1
  clear H; have H := H1; clear H1
  refine hK.out _ _ (H.out.sel [1, 0] _ (by decide) rfl) (fun hHeld => ?_)
  clear hK K
  refine norm_ (a' := ?_) ?_ ?_
  rotate_left
  ·rfl
  refine done_ (by kernel_rfl) ?_
  go_wp2
  exact bodyPost_ret (results_cc rfl _ _ g2 g3 28 54 _ _ (0, 0) (0, 0) _ _ rfl (H.out.box 5 rfl) Try.underlying28 rfl (by kernel_rfl) rfl (H.out.box 4 rfl) Try.underlying54 rfl (by kernel_rfl)) rfl ⟨M10, D10, ⟨x12.f0, x12.f1, x12.f2 ++ ⟨#[97]⟩⟩, rfl, HF.out, by have := HZ.out; show (x12.f2 ++ ⟨#[97]⟩).size ≤ 1000; rw [ByteArray.size_append]; show x12.f2.size + 1 ≤ 1000; omega, HL.out _ (fun k hk => H.out.same 2 rfl k hk), H.out.bel⟩
 ·skip
  have y0a : ((r14 : Int) == 0) = false := beq_eq_false_iff_ne.mpr y0
  have y0b : decide ((r14 : Int) = 0) = false := decide_eq_false y0
  clear y0
  by_cases y1 : (r14 : Int) = 1
  ·skip
   have y1a : ((r14 : Int) == 1) = true := beq_iff_eq.mpr y1
   have y1b : decide ((r14 : Int) = 1) = true := decide_eq_true y1
   clear y1
   go_upto_region 9 with (first | ((with_reducible refine zqg (N := 23) rfl ?_); refine H.out.lit rfl (#[.int .i64 (-1), .int .i64 12]) 3 2 ?hr ?_; (case hr => first | (go_simp; done) | (go_simp; rfl)); intro g23 w23 H1; clear H; have H := H1; clear H1; (try simp only [Act.put, List.setIfInBounds_toArray, List.set_cons_zero, List.set_cons_succ])) | (go_at_call 48; have _tk := tk2; refine (pick_callq (m := 0 + 396968) HB.out H.out 4 rfl (HR.out.less (by omega)) 2 (by omega)).mono ?_; rintro e w25 ⟨r25, c25, rfl, hr25, hrd, h1⟩; have HR1 := Az.mk hrd; have H1 := Az.mk h1; have hz25 := eq_true (Int.natCast_nonneg r25); clear hrd h1; clear H HR; have H := H1; have HR := HR1; clear H1 HR1; clear tk2 _tk; have tk3 : True := trivial) | ((with_reducible refine zqg (N := 27) rfl ?_); refine H.out.ld_cell 0 rfl r25 (v := .int .i64 (lit2 r25)) (lit2_get hr25) rfl rfl rfl Try.underlying3 rfl ?_; (try simp only [Act.put, List.setIfInBounds_toArray, List.set_cons_zero, List.set_cons_succ])) | ((with_reducible refine gate_store (t := 3) (p := 28) rfl ?_); refine H.out.stb 1 rfl 1 (.int .i64 (lit2 r25)) rfl rfl sizeQ3 rfl rfl rfl rfl rfl ?_; intro ws6 H1; clear H; have H := H1; clear H1))
   go_wp2
   refine start_ (n := 4) (S := fun w' => Hq w.heap.size w w' [.box g5 (cD M10 D10) 28, .box g6 (cP ⟨x12.f0, lit2 r25, x12.f2⟩) 54]) (ds := []) #[false, false, false, false] (by kernel_rfl) rfl rfl (H.out.drew.sel [2, 1] _ (by decide) rfl) (fun hHeld => ?_)
   have H1 := Az.mk H.out.drew
   clear H; have H := H1; clear H1
   generalize World.drew _ = wd9 at hHeld H ⊢
   refine zqt (i := 0) (N := some 29) (v := .agg (cD M10 D10)) (a' := ?_) #[true, false, false, false] rfl rfl (by kernel_rfl) (fun _ _ _ h => h) (Or.inl ⟨by rfl, fun w' s0 => s0.run_row 0 rfl rfl rfl Try.underlying28 rfl hs28⟩) hHeld ?_ ?_
   rotate_left
   ·simp only [Act.put, List.setIfInBounds_toArray, List.set_cons_zero, List.set_cons_succ, i64_w, i32_w]
    rfl
   refine zqt (i := 1) (N := some 30) (v := .agg (cP ⟨x12.f0, lit2 r25, x12.f2⟩)) (a' := ?_) #[true, true, false, false] rfl rfl (by kernel_rfl) (fun _ _ _ h => h) (Or.inl ⟨by rfl, fun w' s0 => s0.run_row 1 rfl rfl rfl Try.underlying54 rfl hs54⟩) hHeld ?_ ?_
   rotate_left
   ·simp only [Act.put, List.setIfInBounds_toArray, List.set_cons_zero, List.set_cons_succ, i64_w, i32_w]
    rfl
   refine one_ (i := 2) (N := none) #[true, true, true, false] rfl rfl (by kernel_rfl) (by decide) (fun K hK => ?_)
   refine H.out.last_row 6 rfl (by rfl) (x := .tmp 2) (y := .tmp 29) rfl rfl rfl (cD M10 D10) rfl hs28 rfl (cD_one _ _) ?_
   intro ws3 H1
   clear H; have H := H1; clear H1
   refine hK.out _ _ (H.out.sel [2, 1] _ (by decide) rfl) (fun hHeld => ?_)
   clear hK K
   refine norm_ (a' := ?_) ?_ ?_
   rotate_left
   ·rfl
   refine one_ (i := 3) (N := none) #[true, true, true, true] rfl rfl (by kernel_rfl) (by decide) (fun K hK => ?_)
   refine H.out.last_row 5 rfl (by rfl) (x := .tmp 3) (y := .tmp 30) rfl rfl rfl (cP ⟨x12.f0, lit2 r25, x12.f2⟩) rfl hs54 rfl (cP_one _) ?_
   intro ws4 H1
   clear H; have H := H1; clear H1
   refine hK.out _ _ (H.out.sel [2, 1] _ (by decide) rfl) (fun hHeld => ?_)
   clear hK K
   refine norm_ (a' := ?_) ?_ ?_
   rotate_left
   ·rfl
   refine done_ (by kernel_rfl) ?_
   go_wp2
   exact bodyPost_ret (results_cc rfl _ _ g2 g3 28 54 _ _ (0, 0) (0, 0) _ _ rfl (H.out.box 6 rfl) Try.underlying28 rfl (by kernel_rfl) rfl (H.out.box 5 rfl) Try.underlying54 rfl (by kernel_rfl)) rfl ⟨M10, D10, ⟨x12.f0, lit2 r25, x12.f2⟩, rfl, HF.out, by have := put_size HX12.out; show x12.f2.size ≤ 1000; omega, HL.out _ (fun k hk => H.out.same 3 rfl k hk), H.out.bel⟩
  ·skip
   have y1a : ((r14 : Int) == 1) = false := beq_eq_false_iff_ne.mpr y1
   have y1b : decide ((r14 : Int) = 1) = false := decide_eq_false y1
   clear y1
   go_wp2
   refine start_ (n := 4) (S := fun w' => Hq w.heap.size w w' [.box g5 (cD M10 D10) 28, .box g6 (cP x12) 54]) (ds := []) #[false, false, false, false] (by kernel_rfl) rfl rfl (H.out.drew.sel [1, 0] _ (by decide) rfl) (fun hHeld => ?_)
   have H1 := Az.mk H.out.drew
   clear H; have H := H1; clear H1
   generalize World.drew _ = wd9 at hHeld H ⊢
   refine zqt (i := 0) (N := some 29) (v := .agg (cD M10 D10)) (a' := ?_) #[true, false, false, false] rfl rfl (by kernel_rfl) (fun _ _ _ h => h) (Or.inl ⟨by rfl, fun w' s0 => s0.run_row 0 rfl rfl rfl Try.underlying28 rfl hs28⟩) hHeld ?_ ?_
   rotate_left
   ·simp only [Act.put, List.setIfInBounds_toArray, List.set_cons_zero, List.set_cons_succ, i64_w, i32_w]
    rfl
   refine zqt (i := 1) (N := some 30) (v := .agg (cP x12)) (a' := ?_) #[true, true, false, false] rfl rfl (by kernel_rfl) (fun _ _ _ h => h) (Or.inl ⟨by rfl, fun w' s0 => s0.run_row 1 rfl rfl rfl Try.underlying54 rfl hs54⟩) hHeld ?_ ?_
   rotate_left
   ·simp only [Act.put, List.setIfInBounds_toArray, List.set_cons_zero, List.set_cons_succ, i64_w, i32_w]
    rfl
   refine one_ (i := 2) (N := none) #[true, true, true, false] rfl rfl (by kernel_rfl) (by decide) (fun K hK => ?_)
   refine H.out.last_row 5 rfl (by rfl) (x := .tmp 2) (y := .tmp 29) rfl rfl rfl (cD M10 D10) rfl hs28 rfl (cD_one _ _) ?_
   intro ws3 H1
   clear H; have H := H1; clear H1
   refine hK.out _ _ (H.out.sel [1, 0] _ (by decide) rfl) (fun hHeld => ?_)
   clear hK K
   refine norm_ (a' := ?_) ?_ ?_
   rotate_left
   ·rfl
   refine one_ (i := 3) (N := none) #[true, true, true, true] rfl rfl (by kernel_rfl) (by decide) (fun K hK => ?_)
   refine H.out.last_row 4 rfl (by rfl) (x := .tmp 3) (y := .tmp 30) rfl rfl rfl (cP x12) rfl hs54 rfl (cP_one _) ?_
   intro ws4 H1
   clear H; have H := H1; clear H1
   refine hK.out _ _ (H.out.sel [1, 0] _ (by decide) rfl) (fun hHeld => ?_)
   clear hK K
   refine norm_ (a' := ?_) ?_ ?_
   rotate_left
   ·rfl
   refine done_ (by kernel_rfl) ?_
   go_wp2
   exact bodyPost_ret (results_cc rfl _ _ g2 g3 28 54 _ _ (0, 0) (0, 0) _ _ rfl (H.out.box 5 rfl) Try.underlying28 rfl (by kernel_rfl) rfl (H.out.box 4 rfl) Try.underlying54 rfl (by kernel_rfl)) rfl ⟨M10, D10, x12, rfl, HF.out, by have := put_size HX12.out; omega, HL.out _ (fun k hk => H.out.same 2 rfl k hk), H.out.bel⟩
end Go.Proofs.Ytkgpnloghmbmlaa.Hq
namespace Go.Proofs.Ytkgpnloghmbmlaa.Hq
open Go.RowKit Go.Proofs.Ytkgpnloghmbmlaa.Print Go.Proofs.YtkgpnloghmbmlaaW.PrintWords Go.Proofs.YtkgpnloghmbmlaaW.PrintLast Go.Proofs.YtkgpnloghmbmlaaW.PrintMore Go.Proofs.Ytkgpnloghmbmlaa.Pure Go.Proofs.Ytkgpnloghmbmlaa.Hd
set_option linter.unusedVariables false
theorem lies_of {w : World} {lo hi : Nat} {M : Mm} {D : Dd} (h : Own w lo hi M D) : LiesS w (fun k => lo ≤ k ∧ k < hi) M D := fun w' hk => (h.move fun k h1 h2 => hk k ⟨h1, h2⟩).rd
theorem gives_as {P : Program} {f : FuncId} {a : Array Value} {w : World} {D D' : Dd} (e : D = D') (h : Calls P f a w (Gives D w)) : Calls P f a w (Gives D' w) := e ▸ h
theorem lpaDisk_call {w : World} {M M' : Mm} {D : Dd} (hf : FitsD D) (h : Rd w M D) (h' : Rd w M' D) : Calls Try.prog 18 #[.agg (cD M D), .agg (cD M' D)] w fun e w' => e = .returned (.bool true) ∧ Below w.heap.size w w' := by
  obtain ⟨K, hK⟩ := lpaDisk_ev D.st D.l1 D.l2 D.l3 D.l4 hf
  exact laws_lpaDisk.calls (hr0_1 := h.r1) (hc0_1 := h.h1) (hr0_2 := h.r2) (hc0_2 := h.h2) (hr0_3 := h.r3) (hc0_3 := h.h3) (hr0_4 := h.r4) (hc0_4 := h.h4) (hr1_1 := h'.r1) (hc1_1 := h'.h1) (hr1_2 := h'.r2) (hc1_2 := h'.h2) (hr1_3 := h'.r3) (hc1_3 := h'.h3) (hr1_4 := h'.r4) (hc1_4 := h'.h4) (h := hK K (Nat.le_refl _))
def seenD (D : Dd) (i : Nat) : ByteArray := seenF D.l1 D.l4 i
def isD (D : Dd) (i : Nat) : Bool := (seenD D i).toList != []
theorem read_call {w : World} {M : Mm} {D : Dd} (h : Rd w M D) (hg : GoodD D) (i : Nat) (hi : i < 12) : Calls Try.prog 20 #[.agg (cD M D), .int .i64 (i : Int)] w fun e w' => e = .returned (.tuple #[.string (seenD D i), .bool (isD D i)]) ∧ Below w.heap.size w w' :=
  impl_DiskRead.calls (hr0_1 := h.r1) (hc0_1 := h.h1) (hr0_2 := h.r2) (hc0_2 := h.h2) (hr0_3 := h.r3) (hc0_3 := h.h3) (hr0_4 := h.r4) (hc0_4 := h.h4) (h := by
    have hg' : Print.Good D.st D.l1 D.l2 D.l3 D.l4 := hg
    unfold impl_DiskRead.f
    rw [if_pos ⟨hg', by omega, by omega⟩, Int.toNat_natCast]
    rfl)
theorem ok_call {w : World} {M : Mm} {D : Dd} (h : Rd w M D) (hg : GoodD D) : Calls Try.prog 21 #[.agg (cD M D)] w fun e w' => e = .returned (.bool true) ∧ Below w.heap.size w w' :=
  impl_DiskOk.calls (hr0_1 := h.r1) (hc0_1 := h.h1) (hr0_2 := h.r2) (hc0_2 := h.h2) (hr0_3 := h.r3) (hc0_3 := h.h3) (hr0_4 := h.r4) (hc0_4 := h.h4) (h := by
    have hg' : Print.Good D.st D.l1 D.l2 D.l3 D.l4 := hg
    unfold impl_DiskOk.f goodB
    rw [decide_eq_true hg'])
theorem put_good {D : Dd} {p : S54} (h : GoodD D) (hp : putB p = true) : putD D p = laidD D p := if_pos ⟨h, hp⟩
theorem put_bad {D : Dd} {p : S54} (h : ¬ (GoodD D ∧ putB p = true)) : putD D p = noD := if_neg h
theorem cell1 {M : Mm} {D : Dd} (h : GoodD D) : (cD M D)[1]? = some (.slice M.A1 12 M.c1) := by rw [← h.sh.2.1]; rfl
theorem seen_come {i : Nat} (hi : i < 12) : ∀ (ps : List S54) (sp : List Bool) (sl rg : List ByteArray), sl.length = 12 → (∀ p ∈ ps, putB p = true) → (comeAll ps (sp, sl, rg)).2.1.getD i ByteArray.empty = ps.foldl (seenStep i) (sl.getD i ByteArray.empty)
  | [], _, _, _, _, _ => rfl
  | p :: ps, sp, sl, rg, hl, hp => by
    have hpp := hp p List.mem_cons_self
    have ih := seen_come hi ps (comeSp p sp) (comeSl p sl) (comeRg p rg) ((come_len (l2 := rg) (l3 := sp)).1.trans hl) fun q hq => hp q (List.mem_cons_of_mem _ hq)
    show (comeAll ps (comeSp p sp, comeSl p sl, comeRg p rg)).2.1.getD i ByteArray.empty = ps.foldl (seenStep i) (seenStep i (sl.getD i ByteArray.empty) p)
    rw [ih]
    congr 1
    unfold putB at hpp
    by_cases h0 : p.f0 = true
    · simp [comeSl, seenStep, h0]
    · rw [if_neg h0] at hpp
      have hpp := of_decide_eq_true hpp
      simp only [comeSl, if_neg h0]
      rw [getD_set _ _ _ _ _ (by omega)]
      have h0' : p.f0 = false := by simpa using h0
      by_cases h1 : p.f1 = (i : Int)
      · have : p.f1.toNat = i := by omega
        simp [seenStep, h0', h1]
      · have : ¬ p.f1.toNat = i := by omega
        simp [seenStep, h0', h1, this]
theorem seen_flush {D : Dd} (h : GoodD D) {i : Nat} (hi : i < 12) : seenD (comeD D) i = seenD D i := seen_come hi D.l4 D.l3 D.l1 D.l2 h.sh.2.1 (good_put h)
theorem seen_laid {D : Dd} {p : S54} (h : GoodD D) (h1 : ¬ D.st = 1) {i : Nat} (hi : i < 12) : seenD (laidD D p) i = if p.f0 = false ∧ p.f1 = (i : Int) then p.f2 else seenD D i := by
  unfold laidD
  rw [if_neg h1]
  by_cases h2 : D.l4.length = 40
  · rw [if_pos h2]
    show seenStep (i : Int) ((comeD D).l1.getD i ByteArray.empty) p = _
    have e : (comeD D).l1.getD i ByteArray.empty = seenD D i := seen_flush h hi
    rw [e]
    rfl
  · rw [if_neg h2]
    show (D.l4 ++ [p]).foldl (seenStep (i : Int)) (D.l1.getD i ByteArray.empty) = _
    rw [List.foldl_append]
    rfl
theorem seen_hit {D : Dd} {p : S54} (h : GoodD D) (hp : putB p = true) (h1 : ¬ D.st = 1) {i : Nat} (hi : i < 12) (h0 : p.f0 = false) (h2 : p.f1 = (i : Int)) : seenD (laidD D p) i = p.f2 ∧ isD (laidD D p) i = true := by
  have e := seen_laid (p := p) h h1 hi
  rw [if_pos ⟨h0, h2⟩] at e
  refine ⟨e, ?_⟩
  unfold isD
  rw [e]
  unfold putB at hp
  rw [if_neg (by rw [h0]; decide)] at hp
  have := (of_decide_eq_true hp).2.2
  have hl : p.f2.toList.length = p.f2.size := by simp [ByteArray.toList_eq]
  cases hq : p.f2.toList with
  | nil => rw [hq] at hl; simp at hl; omega
  | cons _ _ => rfl
theorem seen_miss {D : Dd} {p : S54} (h : GoodD D) (h1 : ¬ D.st = 1) {i : Nat} (hi : i < 12) (h0 : ¬ (p.f0 = false ∧ p.f1 = (i : Int))) : seenD (laidD D p) i = seenD D i ∧ isD (laidD D p) i = isD D i := by
  have e := seen_laid (p := p) h h1 hi
  rw [if_neg h0] at e
  exact ⟨e, by unfold isD; rw [e]⟩
theorem laid_gone {D : Dd} {p : S54} (h1 : D.st = 1) : laidD D p = D := if_pos h1
theorem read_as {w : World} {M : Mm} {D : Dd} {i : Nat} {t : ByteArray} {b : Bool} (e : seenD D i = t ∧ isD D i = b) (h : Rd w M D) (hg : GoodD D) (hi : i < 12) : Calls Try.prog 20 #[.agg (cD M D), .int .i64 (i : Int)] w fun e w' => e = .returned (.tuple #[.string t, .bool b]) ∧ Below w.heap.size w w' := by
  rw [← e.1, ← e.2]
  exact read_call h hg i hi
end Go.Proofs.Ytkgpnloghmbmlaa.Hq
namespace Go.Proofs.Ytkgpnloghmbmlaa.Hq
open Go.RowKit Go.Proofs.Ytkgpnloghmbmlaa.Print Go.Proofs.YtkgpnloghmbmlaaW.PrintWords Go.Proofs.YtkgpnloghmbmlaaW.PrintLast Go.Proofs.YtkgpnloghmbmlaaW.PrintMore Go.Proofs.Ytkgpnloghmbmlaa.Pure Go.Proofs.Ytkgpnloghmbmlaa.Hd
set_option linter.unusedVariables false
set_option linter.unusedSimpArgs false
set_option maxHeartbeats 8000000 in
set_option maxRecDepth 100000 in
theorem law_FnDiskPut (w : World) {A : Option Addr} {c : Nat} {l : List Int} (hC : Kd.C (Kd.int .u8) w A l.length l) (hc : l.length ≤ c) (hw : ∀ x ∈ l, (Lit.int .u8 x).wf = true) : Calls Try.prog 11 #[.slice A l.length c] w fun e w' => e = .returned (.bool true) ∧ Below w.heap.size w w' := by
 have hs28 := sizeE28
 have hs54 := sizeE54
 have HC := Az.mk hC
 have tk0 : True := trivial
 clear hC
 by_cases hlen : (l.length : Int) > 1048576
 ·skip
  have hl1 : decide (1048576 < (l.length : Int)) = true := decide_eq_true hlen
  clear hlen
  go_enter Try.func11, Try.ntmps11
  go_wp2
  go_ret
  exact ⟨rfl, Below.refl _ _⟩
 ·skip
  have hl1 : decide (1048576 < (l.length : Int)) = false := decide_eq_false hlen
  clear hlen
  go_enter Try.func11, Try.ntmps11
  go_upto_region 4 with (first | (go_at_call 37; have _tk := tk0; refine (drawPut_call _ HC.out hc hw).mono ?_; rintro e w16 ⟨M, D, p, rfl, hf, hp, hrd, hb⟩; have HF := Az.mk hf; have HP := Az.mk hp; have HR := Az.mk hrd; have HB0 := Az.mk hb; have H := Az.mk (Hq.start w16); clear hf hp hrd hb; clear tk0 _tk; have tk1 : True := trivial) | ((with_reducible refine zqg (N := 3) rfl ?_); refine H.out.bx rfl (#[.int .i64 0, .slice none 0 0, .slice none 0 0, .slice none 0 0, .slice none 0 0]) 28 ?hr ?_; (case hr => first | (go_simp; done) | (go_simp; rfl)); intro g3 w3 H1; clear H; have H := H1; clear H1; (try simp only [Act.put, List.setIfInBounds_toArray, List.set_cons_zero, List.set_cons_succ])) | ((with_reducible refine zqg (N := 4) rfl ?_); refine H.out.bx rfl (#[.bool false, .int .i64 0, .string ⟨#[]⟩]) 54 ?hr ?_; (case hr => first | (go_simp; done) | (go_simp; rfl)); intro g4 w4 H1; clear H; have H := H1; clear H1; (try simp only [Act.put, List.setIfInBounds_toArray, List.set_cons_zero, List.set_cons_succ])) | ((with_reducible refine gate_store (t := 28) (p := 3) rfl ?_); refine H.out.st_row 1 rfl rfl (x := .tmp 3) (y := .tmp 17) rfl rfl rfl (cD M D) rfl hs28 rfl (cD_one _ _) ?_; intro ws3_7 H1; clear H; have H := H1; clear H1) | ((with_reducible refine gate_store (t := 54) (p := 4) rfl ?_); refine H.out.st_row 0 rfl rfl (x := .tmp 4) (y := .tmp 18) rfl rfl rfl (cP p) rfl hs54 rfl (cP_one _) ?_; intro ws3_8 H1; clear H; have H := H1; clear H1))
  (try simp only [Act.put, List.setIfInBounds_toArray, List.set_cons_zero, List.set_cons_succ])
  by_cases hg : GoodD D ∧ putB p = true
  ·skip
   have HG := Az.mk hg.1
   have HPB := Az.mk hg.2
   clear hg
   by_cases h1 : D.st = 1
   ·skip
    have HE := Az.mk ((put_good HG.out HPB.out).trans (laid_gone h1))
    have hs1 : (D.st != 1) = false := by simp [h1]
    have hs2 : decide (D.st = 1) = true := decide_eq_true h1
    clear h1
    go_wp2_with (first | ((with_reducible refine zqg (N := 19) rfl ?_); refine H.out.ld_row 1 rfl rfl rfl rfl Try.underlying28 rfl hs28 ?_; (try simp only [Act.put, List.setIfInBounds_toArray, List.set_cons_zero, List.set_cons_succ])) | ((with_reducible refine zqg (N := 20) rfl ?_); refine H.out.ld_row 0 rfl rfl rfl rfl Try.underlying54 rfl hs54 ?_; (try simp only [Act.put, List.setIfInBounds_toArray, List.set_cons_zero, List.set_cons_succ])) | (go_at_call 38; have _tk := tk1; refine (gives_as HE.out (implPut_call (p := p) (HR.out.below H.out.bel))).mono ?_; rintro e w21 ⟨M21, rfl, ho, hb⟩; have L21 := Az.mk (lies_of ho); have H1 := Az.mk (H.out.made hb); clear ho hb; clear H; have H := H1; clear H1; clear tk1 _tk; have tk2 : True := trivial) | ((with_reducible refine zqg (N := 5) rfl ?_); refine H.out.bx rfl (#[.int .i64 0, .slice none 0 0, .slice none 0 0, .slice none 0 0, .slice none 0 0]) 28 ?hr ?_; (case hr => first | (go_simp; done) | (go_simp; rfl)); intro g5 w5 H1; clear H; have H := H1; clear H1; (try simp only [Act.put, List.setIfInBounds_toArray, List.set_cons_zero, List.set_cons_succ])) | ((with_reducible refine gate_store (t := 28) (p := 5) rfl ?_); refine H.out.st_row 0 rfl rfl (x := .tmp 5) (y := .tmp 21) rfl rfl rfl (cD M21 D) rfl hs28 rfl (cD_one _ _) ?_; intro ws4_4 H1; clear H; have H := H1; clear H1))
    (try simp only [Act.put, List.setIfInBounds_toArray, List.set_cons_zero, List.set_cons_succ])
    refine start_ (n := 12) (S := fun w' => Hq w16.heap.size w16 w' [.box g3 (cD M D) 28, .box g4 (cP p) 54, .box g5 (cD M21 D) 28]) (ds := []) #[false, false, false, false, false, false, false, false, false, false, false, false] (by kernel_rfl) rfl rfl (H.out.drew.sel [3, 2, 0] _ (by decide) rfl) (fun hHeld => ?_)
    have H1 := Az.mk H.out.drew
    clear H; have H := H1; clear H1
    generalize World.drew _ = wd5 at hHeld H ⊢
    refine zqt (i := 0) (N := some 22) (v := .agg (cD M21 D)) (a' := ?_) #[true, false, false, false, false, false, false, false, false, false, false, false] rfl rfl (by kernel_rfl) (fun _ _ _ h => h) (Or.inl ⟨by rfl, fun w' s0 => s0.run_row 2 rfl rfl rfl Try.underlying28 rfl hs28⟩) hHeld ?_ ?_
    rotate_left
    ·simp only [Act.put, List.setIfInBounds_toArray, List.set_cons_zero, List.set_cons_succ, i64_w, i32_w]
     rfl
    refine zqt (i := 1) (N := some 23) (v := .agg (cD M D)) (a' := ?_) #[true, true, false, false, false, false, false, false, false, false, false, false] rfl rfl (by kernel_rfl) (fun _ _ _ h => h) (Or.inl ⟨by rfl, fun w' s0 => s0.run_row 0 rfl rfl rfl Try.underlying28 rfl hs28⟩) hHeld ?_ ?_
    rotate_left
    ·simp only [Act.put, List.setIfInBounds_toArray, List.set_cons_zero, List.set_cons_succ, i64_w, i32_w]
     rfl
    refine zqt (i := 2) (N := some 24) (v := .agg (cP p)) (a' := ?_) #[true, true, true, false, false, false, false, false, false, false, false, false] rfl rfl (by kernel_rfl) (fun _ _ _ h => h) (Or.inl ⟨by rfl, fun w' s0 => s0.run_row 1 rfl rfl rfl Try.underlying54 rfl hs54⟩) hHeld ?_ ?_
    rotate_left
    ·simp only [Act.put, List.setIfInBounds_toArray, List.set_cons_zero, List.set_cons_succ, i64_w, i32_w]
     rfl
    refine one_ (i := 3) (N := some 25) #[true, true, true, true, false, false, false, false, false, false, false, false] rfl rfl (by kernel_rfl) (by decide) (fun K hK => ?_)
    refine goes_ Try.func39 (by kernel_rfl) rfl #[.agg (cD M D), .agg (cP p)] (by rfl) rfl rfl (by (try simp only [List.map_toArray, List.map_cons, List.map_nil]); first | done | rfl) ?_
    refine (gives_as HE.out (specPut_callz (p := p) HF.out (HR.out.below H.out.bel))).mono ?_
    rintro e w25 ⟨M25, rfl, ho, hb⟩
    refine ⟨_, rfl, ?_⟩
    have L25 := Az.mk (lies_of ho)
    have H1 := Az.mk (H.out.made hb)
    clear ho hb
    clear H; have H := H1; clear H1
    refine hK.out _ _ (H.out.sel [4, 3, 1] _ (by decide) rfl) (fun hHeld => ?_)
    clear hK K
    refine norm_ (a' := ?_) ?_ ?_
    rotate_left
    ·show Act.put _ (some 25) _ = _
     simp only [Act.put, List.setIfInBounds_toArray, List.set_cons_zero, List.set_cons_succ, i64_w, i32_w]
     rfl
    refine one_ (i := 4) (N := some 26) #[true, true, true, true, true, false, false, false, false, false, false, false] rfl rfl (by kernel_rfl) (by decide) (fun K hK => ?_)
    refine goes_ Try.func18 (by kernel_rfl) rfl #[.agg (cD M21 D), .agg (cD M25 D)] (by rfl) rfl rfl (by (try simp only [List.map_toArray, List.map_cons, List.map_nil]); first | done | rfl) ?_
    refine (lpaDisk_call HF.out (L21.out _ (fun k hk => H.out.same 2 rfl k hk)) (L25.out _ (fun k hk => H.out.same 0 rfl k hk))).mono ?_
    rintro e w26 ⟨rfl, hb⟩
    refine ⟨_, rfl, ?_⟩
    have H1 := Az.mk (H.out.step hb)
    clear hb
    clear H; have H := H1; clear H1
    refine hK.out _ _ (H.out.sel [4, 3, 1] _ (by decide) rfl) (fun hHeld => ?_)
    clear hK K
    refine norm_ (a' := ?_) ?_ ?_
    rotate_left
    ·show Act.put _ (some 26) _ = _
     simp only [Act.put, List.setIfInBounds_toArray, List.set_cons_zero, List.set_cons_succ, i64_w, i32_w]
     rfl
    refine zqp (i := 5) (N := some 27) (v := ?_) (a' := ?_) #[true, true, true, true, true, true, false, false, false, false, false, false] rfl rfl (by kernel_rfl) (fun _ _ _ h => h) (Or.inl ⟨by rfl, ?_⟩) ?_ ?_
    rotate_left
    ·intro w'
     go_simp
     with_reducible rfl
    rotate_left
    ·simp only [Act.put, List.setIfInBounds_toArray, List.set_cons_zero, List.set_cons_succ, i64_w, i32_w]
     rfl
    refine zqp (i := 6) (N := some 28) (v := ?_) (a' := ?_) #[true, true, true, true, true, true, true, false, false, false, false, false] rfl rfl (by kernel_rfl) (fun _ _ _ h => h) (Or.inl ⟨by rfl, ?_⟩) ?_ ?_
    rotate_left
    ·intro w'
     go_simp
     with_reducible rfl
    rotate_left
    ·simp only [Act.put, List.setIfInBounds_toArray, List.set_cons_zero, List.set_cons_succ, i64_w, i32_w]
     rfl
    refine zqp (i := 7) (N := some 29) (v := ?_) (a' := ?_) #[true, true, true, true, true, true, true, true, false, false, false, false] rfl rfl (by kernel_rfl) (fun _ _ _ h => h) (Or.inl ⟨by rfl, ?_⟩) ?_ ?_
    rotate_left
    ·intro w'
     go_simp
     with_reducible rfl
    rotate_left
    ·simp only [Act.put, List.setIfInBounds_toArray, List.set_cons_zero, List.set_cons_succ, i64_w, i32_w]
     rfl
    refine zqt (i := 8) (N := some 30) (v := .slice M21.A1 12 M21.c1) (a' := ?_) #[true, true, true, true, true, true, true, true, true, false, false, false] rfl rfl (by kernel_rfl) (fun _ _ _ h => h) (Or.inl ⟨by rfl, fun w' s0 => s0.run_cell 2 rfl 1 (cell1 HG.out) rfl rfl Try.underlying24 rfl⟩) hHeld ?_ ?_
    rotate_left
    ·simp only [Act.put, List.setIfInBounds_toArray, List.set_cons_zero, List.set_cons_succ, i64_w, i32_w]
     rfl
    refine zqp (i := 9) (N := some 31) (v := ?_) (a' := ?_) #[true, true, true, true, true, true, true, true, true, true, false, false] rfl rfl (by kernel_rfl) (fun _ _ _ h => h) (Or.inl ⟨by rfl, ?_⟩) ?_ ?_
    rotate_left
    ·intro w'
     go_simp
     with_reducible rfl
    rotate_left
    ·simp only [Act.put, List.setIfInBounds_toArray, List.set_cons_zero, List.set_cons_succ, i64_w, i32_w]
     rfl
    refine zqp (i := 10) (N := some 32) (v := ?_) (a' := ?_) #[true, true, true, true, true, true, true, true, true, true, true, false] rfl rfl (by kernel_rfl) (fun _ _ _ h => h) (Or.inl ⟨by rfl, ?_⟩) ?_ ?_
    rotate_left
    ·intro w'
     go_simp
     with_reducible rfl
    rotate_left
    ·simp only [Act.put, List.setIfInBounds_toArray, List.set_cons_zero, List.set_cons_succ, i64_w, i32_w]
     rfl
    refine zqp (i := 11) (N := some 33) (v := ?_) (a' := ?_) #[true, true, true, true, true, true, true, true, true, true, true, true] rfl rfl (by kernel_rfl) (fun _ _ _ h => h) (Or.inl ⟨by rfl, ?_⟩) ?_ ?_
    rotate_left
    ·intro w'
     go_simp
     with_reducible rfl
    rotate_left
    ·simp only [Act.put, List.setIfInBounds_toArray, List.set_cons_zero, List.set_cons_succ, i64_w, i32_w]
     rfl
    refine done_ (by kernel_rfl) ?_
    go_wp2
    obtain ⟨lo, hlo⟩ : ∃ lo hi wx, Az (LiesS wx (fun k => lo ≤ k ∧ k < hi) M21 D) ∧ Az (Hq w16.heap.size w16 _ [.box g5 (cD M21 D) 28, .set (fun k => lo ≤ k ∧ k < hi) wx, .box g4 (cP p) 54, .box g3 (cD M D) 28]) := ⟨_, _, _, L21, ⟨H.out.sel [1, 2, 3, 4] _ (by decide) rfl⟩⟩
    obtain ⟨hi, wx, LX, HX⟩ := hlo
    clear L21 H
    have H := HX
    have L21 := LX
    clear HX LX
    go_loopg [6] 12 (fun kq v6 w' => ∃ (i : Nat), v6 = .int .i64 (i : Int) ∧ Az (i + kq = 12) ∧ Az (Hq w16.heap.size w16 w' [.box g5 (cD M21 D) 28, .set (fun k => lo ≤ k ∧ k < hi) wx, .box g4 (cP p) 54, .box g3 (cD M D) 28]))
    case atStart => exact ⟨0, rfl, ⟨rfl⟩, H⟩
    case round =>
     clear H
     obtain ⟨i, rfl, HN, H⟩ := hrel
     have tk0 : True := trivial
     by_cases hi12 : (i : Int) < 12
     ·skip
      have c33 : decide ((i : Int) < 12) = true := decide_eq_true hi12
      have HI := Az.mk (show i < 12 by omega)
      clear hi12
      cases gk with
      | zero => exact absurd HN.out (by have := HI.out; omega)
      | succ k1 =>
       by_cases h0 : p.f0 = true
       ·skip
        have HM := Az.mk (show ¬ (p.f0 = false ∧ p.f1 = (i : Int)) from fun hh => by rw [h0] at hh; cases hh.1)
        go_wp2_with (first | ((with_reducible refine zqg (N := 44) rfl ?_); refine H.out.ld_row 3 rfl rfl rfl rfl Try.underlying28 rfl hs28 ?_; (try simp only [Act.put, List.setIfInBounds_toArray, List.set_cons_zero, List.set_cons_succ])) | (go_at_call 20; have _tk := tk0; refine (read_as ⟨rfl, rfl⟩ (HR.out.below H.out.bel) HG.out HI.out).mono ?_; rintro e w46 ⟨rfl, hb⟩; have H1 := Az.mk (H.out.step hb); clear hb; clear H; have H := H1; clear H1; clear tk0 _tk; have tk1 : True := trivial) | ((with_reducible refine zqg (N := 50) rfl ?_); refine H.out.ld_row 0 rfl rfl rfl rfl Try.underlying28 rfl hs28 ?_; (try simp only [Act.put, List.setIfInBounds_toArray, List.set_cons_zero, List.set_cons_succ])) | (go_at_call 20; have _tk := tk1; refine (read_as ⟨rfl, rfl⟩ (L21.out _ (fun k hk => H.out.same 1 rfl k hk)) HG.out HI.out).mono ?_; rintro e w52 ⟨rfl, hb⟩; have H1 := Az.mk (H.out.step hb); clear hb; clear H; have H := H1; clear H1; clear tk1 _tk; have tk2 : True := trivial) | ((with_reducible refine zqg (N := 56) rfl ?_); refine H.out.ld_cell 2 rfl 0 (v := .bool p.f0) rfl rfl rfl rfl Try.underlying4 rfl ?_; (try simp only [Act.put, List.setIfInBounds_toArray, List.set_cons_zero, List.set_cons_succ])) | ((with_reducible refine zqg (N := 60) rfl ?_); refine gate_guard (by rfl) ?_; dsimp only; refine H.out.ld_cell 2 rfl 1 (v := .int .i64 p.f1) rfl rfl rfl rfl Try.underlying3 rfl ?_; (try simp only [Act.put, List.setIfInBounds_toArray, List.set_cons_zero, List.set_cons_succ])) | ((with_reducible refine zqg (N := 66) rfl ?_); refine gate_guard (by rfl) ?_; dsimp only; refine H.out.ld_cell 3 rfl 0 (v := .int .i64 D.st) rfl rfl rfl rfl Try.underlying3 rfl ?_; (try simp only [Act.put, List.setIfInBounds_toArray, List.set_cons_zero, List.set_cons_succ])) | ((with_reducible refine zqg (N := 70) rfl ?_); refine H.out.ld_cell 2 rfl 2 (v := .string p.f2) rfl rfl rfl rfl Try.underlying9 rfl ?_; (try simp only [Act.put, List.setIfInBounds_toArray, List.set_cons_zero, List.set_cons_succ])))
        (try simp only [Act.put, List.setIfInBounds_toArray, List.set_cons_zero, List.set_cons_succ])
        go_roundg k1
        case measure => omega
        case rel => exact ⟨i + 1, by have := HI.out; rw [wrap_ok (by omega)]; rfl, ⟨by have := HN.out; omega⟩, H⟩
       ·skip
        have h0 : p.f0 = false := by simpa using h0
        by_cases h2 : p.f1 = (i : Int)
        ·skip
         have e2 : (p.f1 == (i : Int)) = true := by simp [h2]
         clear h2
         go_wp2_with (first | ((with_reducible refine zqg (N := 44) rfl ?_); refine H.out.ld_row 3 rfl rfl rfl rfl Try.underlying28 rfl hs28 ?_; (try simp only [Act.put, List.setIfInBounds_toArray, List.set_cons_zero, List.set_cons_succ])) | (go_at_call 20; have _tk := tk0; refine (read_as ⟨rfl, rfl⟩ (HR.out.below H.out.bel) HG.out HI.out).mono ?_; rintro e w46 ⟨rfl, hb⟩; have H1 := Az.mk (H.out.step hb); clear hb; clear H; have H := H1; clear H1; clear tk0 _tk; have tk1 : True := trivial) | ((with_reducible refine zqg (N := 50) rfl ?_); refine H.out.ld_row 0 rfl rfl rfl rfl Try.underlying28 rfl hs28 ?_; (try simp only [Act.put, List.setIfInBounds_toArray, List.set_cons_zero, List.set_cons_succ])) | (go_at_call 20; have _tk := tk1; refine (read_as ⟨rfl, rfl⟩ (L21.out _ (fun k hk => H.out.same 1 rfl k hk)) HG.out HI.out).mono ?_; rintro e w52 ⟨rfl, hb⟩; have H1 := Az.mk (H.out.step hb); clear hb; clear H; have H := H1; clear H1; clear tk1 _tk; have tk2 : True := trivial) | ((with_reducible refine zqg (N := 56) rfl ?_); refine H.out.ld_cell 2 rfl 0 (v := .bool p.f0) rfl rfl rfl rfl Try.underlying4 rfl ?_; (try simp only [Act.put, List.setIfInBounds_toArray, List.set_cons_zero, List.set_cons_succ])) | ((with_reducible refine zqg (N := 60) rfl ?_); refine gate_guard (by rfl) ?_; dsimp only; refine H.out.ld_cell 2 rfl 1 (v := .int .i64 p.f1) rfl rfl rfl rfl Try.underlying3 rfl ?_; (try simp only [Act.put, List.setIfInBounds_toArray, List.set_cons_zero, List.set_cons_succ])) | ((with_reducible refine zqg (N := 66) rfl ?_); refine gate_guard (by rfl) ?_; dsimp only; refine H.out.ld_cell 3 rfl 0 (v := .int .i64 D.st) rfl rfl rfl rfl Try.underlying3 rfl ?_; (try simp only [Act.put, List.setIfInBounds_toArray, List.set_cons_zero, List.set_cons_succ])) | ((with_reducible refine zqg (N := 70) rfl ?_); refine H.out.ld_cell 2 rfl 2 (v := .string p.f2) rfl rfl rfl rfl Try.underlying9 rfl ?_; (try simp only [Act.put, List.setIfInBounds_toArray, List.set_cons_zero, List.set_cons_succ])))
         (try simp only [Act.put, List.setIfInBounds_toArray, List.set_cons_zero, List.set_cons_succ])
         go_roundg k1
         case measure => omega
         case rel => exact ⟨i + 1, by have := HI.out; rw [wrap_ok (by omega)]; rfl, ⟨by have := HN.out; omega⟩, H⟩
        ·skip
         have HM := Az.mk (show ¬ (p.f0 = false ∧ p.f1 = (i : Int)) from fun hh => h2 hh.2)
         have e2 : (p.f1 == (i : Int)) = false := by simp [h2]
         clear h2
         go_wp2_with (first | ((with_reducible refine zqg (N := 44) rfl ?_); refine H.out.ld_row 3 rfl rfl rfl rfl Try.underlying28 rfl hs28 ?_; (try simp only [Act.put, List.setIfInBounds_toArray, List.set_cons_zero, List.set_cons_succ])) | (go_at_call 20; have _tk := tk0; refine (read_as ⟨rfl, rfl⟩ (HR.out.below H.out.bel) HG.out HI.out).mono ?_; rintro e w46 ⟨rfl, hb⟩; have H1 := Az.mk (H.out.step hb); clear hb; clear H; have H := H1; clear H1; clear tk0 _tk; have tk1 : True := trivial) | ((with_reducible refine zqg (N := 50) rfl ?_); refine H.out.ld_row 0 rfl rfl rfl rfl Try.underlying28 rfl hs28 ?_; (try simp only [Act.put, List.setIfInBounds_toArray, List.set_cons_zero, List.set_cons_succ])) | (go_at_call 20; have _tk := tk1; refine (read_as ⟨rfl, rfl⟩ (L21.out _ (fun k hk => H.out.same 1 rfl k hk)) HG.out HI.out).mono ?_; rintro e w52 ⟨rfl, hb⟩; have H1 := Az.mk (H.out.step hb); clear hb; clear H; have H := H1; clear H1; clear tk1 _tk; have tk2 : True := trivial) | ((with_reducible refine zqg (N := 56) rfl ?_); refine H.out.ld_cell 2 rfl 0 (v := .bool p.f0) rfl rfl rfl rfl Try.underlying4 rfl ?_; (try simp only [Act.put, List.setIfInBounds_toArray, List.set_cons_zero, List.set_cons_succ])) | ((with_reducible refine zqg (N := 60) rfl ?_); refine gate_guard (by rfl) ?_; dsimp only; refine H.out.ld_cell 2 rfl 1 (v := .int .i64 p.f1) rfl rfl rfl rfl Try.underlying3 rfl ?_; (try simp only [Act.put, List.setIfInBounds_toArray, List.set_cons_zero, List.set_cons_succ])) | ((with_reducible refine zqg (N := 66) rfl ?_); refine gate_guard (by rfl) ?_; dsimp only; refine H.out.ld_cell 3 rfl 0 (v := .int .i64 D.st) rfl rfl rfl rfl Try.underlying3 rfl ?_; (try simp only [Act.put, List.setIfInBounds_toArray, List.set_cons_zero, List.set_cons_succ])) | ((with_reducible refine zqg (N := 70) rfl ?_); refine H.out.ld_cell 2 rfl 2 (v := .string p.f2) rfl rfl rfl rfl Try.underlying9 rfl ?_; (try simp only [Act.put, List.setIfInBounds_toArray, List.set_cons_zero, List.set_cons_succ])))
         (try simp only [Act.put, List.setIfInBounds_toArray, List.set_cons_zero, List.set_cons_succ])
         go_roundg k1
         case measure => omega
         case rel => exact ⟨i + 1, by have := HI.out; rw [wrap_ok (by omega)]; rfl, ⟨by have := HN.out; omega⟩, H⟩
     ·skip
      have c33 : decide ((i : Int) < 12) = false := decide_eq_false hi12
      clear hi12
      go_upto_region 17 with fail
      go_wp2_with (first | ((with_reducible refine zqg (N := 79) rfl ?_); refine H.out.ld_row 0 rfl rfl rfl rfl Try.underlying28 rfl hs28 ?_; (try simp only [Act.put, List.setIfInBounds_toArray, List.set_cons_zero, List.set_cons_succ])) | (go_at_call 21; have _tk := tk0; refine (ok_call (L21.out _ (fun k hk => H.out.same 1 rfl k hk)) HG.out).mono ?_; rintro e w80 ⟨rfl, hb⟩; have H1 := Az.mk (H.out.step hb); clear hb; clear H; have H := H1; clear H1; clear tk0 _tk; have tk1 : True := trivial) | ((with_reducible refine zqg (N := 83) rfl ?_); refine gate_guard (by rfl) ?_; dsimp only; refine H.out.ld_cell 3 rfl 0 (v := .int .i64 D.st) rfl rfl rfl rfl Try.underlying3 rfl ?_; (try simp only [Act.put, List.setIfInBounds_toArray, List.set_cons_zero, List.set_cons_succ])) | ((with_reducible refine zqg (N := 86) rfl ?_); refine gate_guard (by rfl) ?_; dsimp only; refine H.out.ld_row 0 rfl rfl rfl rfl Try.underlying28 rfl hs28 ?_; (try simp only [Act.put, List.setIfInBounds_toArray, List.set_cons_zero, List.set_cons_succ])) | ((with_reducible refine zqg (N := 87) rfl ?_); refine gate_guard (by rfl) ?_; dsimp only; refine H.out.ld_row 3 rfl rfl rfl rfl Try.underlying28 rfl hs28 ?_; (try simp only [Act.put, List.setIfInBounds_toArray, List.set_cons_zero, List.set_cons_succ])) | (go_at_call 18; have _tk := tk1; refine (lpaDisk_call HF.out (L21.out _ (fun k hk => H.out.same 1 rfl k hk)) (HR.out.below H.out.bel)).mono ?_; rintro e w88 ⟨rfl, hb⟩; have H1 := Az.mk (H.out.step hb); clear hb; clear H; have H := H1; clear H1; clear tk1 _tk; have tk2 : True := trivial))
      (try simp only [Act.put, List.setIfInBounds_toArray, List.set_cons_zero, List.set_cons_succ])
      go_ret
      exact ⟨rfl, HB0.out.trans (H.out.bel.mono HB0.out.size)⟩
   ·skip
    have HE := Az.mk (put_good HG.out HPB.out)
    have HGX := Az.mk (good_laid HG.out HPB.out)
    have H1N := Az.mk h1
    have hs1 : (D.st != 1) = true := by simp [h1]
    have hs2 : decide (D.st = 1) = false := decide_eq_false h1
    clear h1
    go_wp2_with (first | ((with_reducible refine zqg (N := 19) rfl ?_); refine H.out.ld_row 1 rfl rfl rfl rfl Try.underlying28 rfl hs28 ?_; (try simp only [Act.put, List.setIfInBounds_toArray, List.set_cons_zero, List.set_cons_succ])) | ((with_reducible refine zqg (N := 20) rfl ?_); refine H.out.ld_row 0 rfl rfl rfl rfl Try.underlying54 rfl hs54 ?_; (try simp only [Act.put, List.setIfInBounds_toArray, List.set_cons_zero, List.set_cons_succ])) | (go_at_call 38; have _tk := tk1; refine (gives_as HE.out (implPut_call (p := p) (HR.out.below H.out.bel))).mono ?_; rintro e w21 ⟨M21, rfl, ho, hb⟩; have L21 := Az.mk (lies_of ho); have H1 := Az.mk (H.out.made hb); clear ho hb; clear H; have H := H1; clear H1; clear tk1 _tk; have tk2 : True := trivial) | ((with_reducible refine zqg (N := 5) rfl ?_); refine H.out.bx rfl (#[.int .i64 0, .slice none 0 0, .slice none 0 0, .slice none 0 0, .slice none 0 0]) 28 ?hr ?_; (case hr => first | (go_simp; done) | (go_simp; rfl)); intro g5 w5 H1; clear H; have H := H1; clear H1; (try simp only [Act.put, List.setIfInBounds_toArray, List.set_cons_zero, List.set_cons_succ])) | ((with_reducible refine gate_store (t := 28) (p := 5) rfl ?_); refine H.out.st_row 0 rfl rfl (x := .tmp 5) (y := .tmp 21) rfl rfl rfl (cD M21 (laidD D p)) rfl hs28 rfl (cD_one _ _) ?_; intro ws4_4 H1; clear H; have H := H1; clear H1))
    (try simp only [Act.put, List.setIfInBounds_toArray, List.set_cons_zero, List.set_cons_succ])
    refine start_ (n := 12) (S := fun w' => Hq w16.heap.size w16 w' [.box g3 (cD M D) 28, .box g4 (cP p) 54, .box g5 (cD M21 (laidD D p)) 28]) (ds := []) #[false, false, false, false, false, false, false, false, false, false, false, false] (by kernel_rfl) rfl rfl (H.out.drew.sel [3, 2, 0] _ (by decide) rfl) (fun hHeld => ?_)
    have H1 := Az.mk H.out.drew
    clear H; have H := H1; clear H1
    generalize World.drew _ = wd5 at hHeld H ⊢
    refine zqt (i := 0) (N := some 22) (v := .agg (cD M21 (laidD D p))) (a' := ?_) #[true, false, false, false, false, false, false, false, false, false, false, false] rfl rfl (by kernel_rfl) (fun _ _ _ h => h) (Or.inl ⟨by rfl, fun w' s0 => s0.run_row 2 rfl rfl rfl Try.underlying28 rfl hs28⟩) hHeld ?_ ?_
    rotate_left
    ·simp only [Act.put, List.setIfInBounds_toArray, List.set_cons_zero, List.set_cons_succ, i64_w, i32_w]
     rfl
    refine zqt (i := 1) (N := some 23) (v := .agg (cD M D)) (a' := ?_) #[true, true, false, false, false, false, false, false, false, false, false, false] rfl rfl (by kernel_rfl) (fun _ _ _ h => h) (Or.inl ⟨by rfl, fun w' s0 => s0.run_row 0 rfl rfl rfl Try.underlying28 rfl hs28⟩) hHeld ?_ ?_
    rotate_left
    ·simp only [Act.put, List.setIfInBounds_toArray, List.set_cons_zero, List.set_cons_succ, i64_w, i32_w]
     rfl
    refine zqt (i := 2) (N := some 24) (v := .agg (cP p)) (a' := ?_) #[true, true, true, false, false, false, false, false, false, false, false, false] rfl rfl (by kernel_rfl) (fun _ _ _ h => h) (Or.inl ⟨by rfl, fun w' s0 => s0.run_row 1 rfl rfl rfl Try.underlying54 rfl hs54⟩) hHeld ?_ ?_
    rotate_left
    ·simp only [Act.put, List.setIfInBounds_toArray, List.set_cons_zero, List.set_cons_succ, i64_w, i32_w]
     rfl
    refine one_ (i := 3) (N := some 25) #[true, true, true, true, false, false, false, false, false, false, false, false] rfl rfl (by kernel_rfl) (by decide) (fun K hK => ?_)
    refine goes_ Try.func39 (by kernel_rfl) rfl #[.agg (cD M D), .agg (cP p)] (by rfl) rfl rfl (by (try simp only [List.map_toArray, List.map_cons, List.map_nil]); first | done | rfl) ?_
    refine (gives_as HE.out (specPut_callz (p := p) HF.out (HR.out.below H.out.bel))).mono ?_
    rintro e w25 ⟨M25, rfl, ho, hb⟩
    refine ⟨_, rfl, ?_⟩
    have L25 := Az.mk (lies_of ho)
    have H1 := Az.mk (H.out.made hb)
    clear ho hb
    clear H; have H := H1; clear H1
    refine hK.out _ _ (H.out.sel [4, 3, 1] _ (by decide) rfl) (fun hHeld => ?_)
    clear hK K
    refine norm_ (a' := ?_) ?_ ?_
    rotate_left
    ·show Act.put _ (some 25) _ = _
     simp only [Act.put, List.setIfInBounds_toArray, List.set_cons_zero, List.set_cons_succ, i64_w, i32_w]
     rfl
    refine one_ (i := 4) (N := some 26) #[true, true, true, true, true, false, false, false, false, false, false, false] rfl rfl (by kernel_rfl) (by decide) (fun K hK => ?_)
    refine goes_ Try.func18 (by kernel_rfl) rfl #[.agg (cD M21 (laidD D p)), .agg (cD M25 (laidD D p))] (by rfl) rfl rfl (by (try simp only [List.map_toArray, List.map_cons, List.map_nil]); first | done | rfl) ?_
    refine (lpaDisk_call (fits_good HGX.out) (L21.out _ (fun k hk => H.out.same 2 rfl k hk)) (L25.out _ (fun k hk => H.out.same 0 rfl k hk))).mono ?_
    rintro e w26 ⟨rfl, hb⟩
    refine ⟨_, rfl, ?_⟩
    have H1 := Az.mk (H.out.step hb)
    clear hb
    clear H; have H := H1; clear H1
    refine hK.out _ _ (H.out.sel [4, 3, 1] _ (by decide) rfl) (fun hHeld => ?_)
    clear hK K
    refine norm_ (a' := ?_) ?_ ?_
    rotate_left
    ·show Act.put _ (some 26) _ = _
     simp only [Act.put, List.setIfInBounds_toArray, List.set_cons_zero, List.set_cons_succ, i64_w, i32_w]
     rfl
    refine zqp (i := 5) (N := some 27) (v := ?_) (a' := ?_) #[true, true, true, true, true, true, false, false, false, false, false, false] rfl rfl (by kernel_rfl) (fun _ _ _ h => h) (Or.inl ⟨by rfl, ?_⟩) ?_ ?_
    rotate_left
    ·intro w'
     go_simp
     with_reducible rfl
    rotate_left
    ·simp only [Act.put, List.setIfInBounds_toArray, List.set_cons_zero, List.set_cons_succ, i64_w, i32_w]
     rfl
    refine zqp (i := 6) (N := some 28) (v := ?_) (a' := ?_) #[true, true, true, true, true, true, true, false, false, false, false, false] rfl rfl (by kernel_rfl) (fun _ _ _ h => h) (Or.inl ⟨by rfl, ?_⟩) ?_ ?_
    rotate_left
    ·intro w'
     go_simp
     with_reducible rfl
    rotate_left
    ·simp only [Act.put, List.setIfInBounds_toArray, List.set_cons_zero, List.set_cons_succ, i64_w, i32_w]
     rfl
    refine zqp (i := 7) (N := some 29) (v := ?_) (a' := ?_) #[true, true, true, true, true, true, true, true, false, false, false, false] rfl rfl (by kernel_rfl) (fun _ _ _ h => h) (Or.inl ⟨by rfl, ?_⟩) ?_ ?_
    rotate_left
    ·intro w'
     go_simp
     with_reducible rfl
    rotate_left
    ·simp only [Act.put, List.setIfInBounds_toArray, List.set_cons_zero, List.set_cons_succ, i64_w, i32_w]
     rfl
    refine zqt (i := 8) (N := some 30) (v := .slice M21.A1 12 M21.c1) (a' := ?_) #[true, true, true, true, true, true, true, true, true, false, false, false] rfl rfl (by kernel_rfl) (fun _ _ _ h => h) (Or.inl ⟨by rfl, fun w' s0 => s0.run_cell 2 rfl 1 (cell1 HGX.out) rfl rfl Try.underlying24 rfl⟩) hHeld ?_ ?_
    rotate_left
    ·simp only [Act.put, List.setIfInBounds_toArray, List.set_cons_zero, List.set_cons_succ, i64_w, i32_w]
     rfl
    refine zqp (i := 9) (N := some 31) (v := ?_) (a' := ?_) #[true, true, true, true, true, true, true, true, true, true, false, false] rfl rfl (by kernel_rfl) (fun _ _ _ h => h) (Or.inl ⟨by rfl, ?_⟩) ?_ ?_
    rotate_left
    ·intro w'
     go_simp
     with_reducible rfl
    rotate_left
    ·simp only [Act.put, List.setIfInBounds_toArray, List.set_cons_zero, List.set_cons_succ, i64_w, i32_w]
     rfl
    refine zqp (i := 10) (N := some 32) (v := ?_) (a' := ?_) #[true, true, true, true, true, true, true, true, true, true, true, false] rfl rfl (by kernel_rfl) (fun _ _ _ h => h) (Or.inl ⟨by rfl, ?_⟩) ?_ ?_
    rotate_left
    ·intro w'
     go_simp
     with_reducible rfl
    rotate_left
    ·simp only [Act.put, List.setIfInBounds_toArray, List.set_cons_zero, List.set_cons_succ, i64_w, i32_w]
     rfl
    refine zqp (i := 11) (N := some 33) (v := ?_) (a' := ?_) #[true, true, true, true, true, true, true, true, true, true, true, true] rfl rfl (by kernel_rfl) (fun _ _ _ h => h) (Or.inl ⟨by rfl, ?_⟩) ?_ ?_
    rotate_left
    ·intro w'
     go_simp
     with_reducible rfl
    rotate_left
    ·simp only [Act.put, List.setIfInBounds_toArray, List.set_cons_zero, List.set_cons_succ, i64_w, i32_w]
     rfl
    refine done_ (by kernel_rfl) ?_
    go_wp2
    obtain ⟨lo, hlo⟩ : ∃ lo hi wx, Az (LiesS wx (fun k => lo ≤ k ∧ k < hi) M21 (laidD D p)) ∧ Az (Hq w16.heap.size w16 _ [.box g5 (cD M21 (laidD D p)) 28, .set (fun k => lo ≤ k ∧ k < hi) wx, .box g4 (cP p) 54, .box g3 (cD M D) 28]) := ⟨_, _, _, L21, ⟨H.out.sel [1, 2, 3, 4] _ (by decide) rfl⟩⟩
    obtain ⟨hi, wx, LX, HX⟩ := hlo
    clear L21 H
    have H := HX
    have L21 := LX
    clear HX LX
    go_loopg [6] 12 (fun kq v6 w' => ∃ (i : Nat), v6 = .int .i64 (i : Int) ∧ Az (i + kq = 12) ∧ Az (Hq w16.heap.size w16 w' [.box g5 (cD M21 (laidD D p)) 28, .set (fun k => lo ≤ k ∧ k < hi) wx, .box g4 (cP p) 54, .box g3 (cD M D) 28]))
    case atStart => exact ⟨0, rfl, ⟨rfl⟩, H⟩
    case round =>
     clear H
     obtain ⟨i, rfl, HN, H⟩ := hrel
     have tk0 : True := trivial
     by_cases hi12 : (i : Int) < 12
     ·skip
      have c33 : decide ((i : Int) < 12) = true := decide_eq_true hi12
      have HI := Az.mk (show i < 12 by omega)
      clear hi12
      cases gk with
      | zero => exact absurd HN.out (by have := HI.out; omega)
      | succ k1 =>
       by_cases h0 : p.f0 = true
       ·skip
        have HM := Az.mk (show ¬ (p.f0 = false ∧ p.f1 = (i : Int)) from fun hh => by rw [h0] at hh; cases hh.1)
        go_wp2_with (first | ((with_reducible refine zqg (N := 44) rfl ?_); refine H.out.ld_row 3 rfl rfl rfl rfl Try.underlying28 rfl hs28 ?_; (try simp only [Act.put, List.setIfInBounds_toArray, List.set_cons_zero, List.set_cons_succ])) | (go_at_call 20; have _tk := tk0; refine (read_as ⟨rfl, rfl⟩ (HR.out.below H.out.bel) HG.out HI.out).mono ?_; rintro e w46 ⟨rfl, hb⟩; have H1 := Az.mk (H.out.step hb); clear hb; clear H; have H := H1; clear H1; clear tk0 _tk; have tk1 : True := trivial) | ((with_reducible refine zqg (N := 50) rfl ?_); refine H.out.ld_row 0 rfl rfl rfl rfl Try.underlying28 rfl hs28 ?_; (try simp only [Act.put, List.setIfInBounds_toArray, List.set_cons_zero, List.set_cons_succ])) | (go_at_call 20; have _tk := tk1; refine (read_as (seen_miss HG.out H1N.out HI.out HM.out) (L21.out _ (fun k hk => H.out.same 1 rfl k hk)) HGX.out HI.out).mono ?_; rintro e w52 ⟨rfl, hb⟩; have H1 := Az.mk (H.out.step hb); clear hb; clear H; have H := H1; clear H1; clear tk1 _tk; have tk2 : True := trivial) | ((with_reducible refine zqg (N := 56) rfl ?_); refine H.out.ld_cell 2 rfl 0 (v := .bool p.f0) rfl rfl rfl rfl Try.underlying4 rfl ?_; (try simp only [Act.put, List.setIfInBounds_toArray, List.set_cons_zero, List.set_cons_succ])) | ((with_reducible refine zqg (N := 60) rfl ?_); refine gate_guard (by rfl) ?_; dsimp only; refine H.out.ld_cell 2 rfl 1 (v := .int .i64 p.f1) rfl rfl rfl rfl Try.underlying3 rfl ?_; (try simp only [Act.put, List.setIfInBounds_toArray, List.set_cons_zero, List.set_cons_succ])) | ((with_reducible refine zqg (N := 66) rfl ?_); refine gate_guard (by rfl) ?_; dsimp only; refine H.out.ld_cell 3 rfl 0 (v := .int .i64 D.st) rfl rfl rfl rfl Try.underlying3 rfl ?_; (try simp only [Act.put, List.setIfInBounds_toArray, List.set_cons_zero, List.set_cons_succ])) | ((with_reducible refine zqg (N := 70) rfl ?_); refine H.out.ld_cell 2 rfl 2 (v := .string p.f2) rfl rfl rfl rfl Try.underlying9 rfl ?_; (try simp only [Act.put, List.setIfInBounds_toArray, List.set_cons_zero, List.set_cons_succ])))
        (try simp only [Act.put, List.setIfInBounds_toArray, List.set_cons_zero, List.set_cons_succ])
        go_roundg k1
        case measure => omega
        case rel => exact ⟨i + 1, by have := HI.out; rw [wrap_ok (by omega)]; rfl, ⟨by have := HN.out; omega⟩, H⟩
       ·skip
        have h0 : p.f0 = false := by simpa using h0
        by_cases h2 : p.f1 = (i : Int)
        ·skip
         have HM := Az.mk (seen_hit HG.out HPB.out H1N.out HI.out h0 h2)
         have e2 : (p.f1 == (i : Int)) = true := by simp [h2]
         clear h2
         go_wp2_with (first | ((with_reducible refine zqg (N := 44) rfl ?_); refine H.out.ld_row 3 rfl rfl rfl rfl Try.underlying28 rfl hs28 ?_; (try simp only [Act.put, List.setIfInBounds_toArray, List.set_cons_zero, List.set_cons_succ])) | (go_at_call 20; have _tk := tk0; refine (read_as ⟨rfl, rfl⟩ (HR.out.below H.out.bel) HG.out HI.out).mono ?_; rintro e w46 ⟨rfl, hb⟩; have H1 := Az.mk (H.out.step hb); clear hb; clear H; have H := H1; clear H1; clear tk0 _tk; have tk1 : True := trivial) | ((with_reducible refine zqg (N := 50) rfl ?_); refine H.out.ld_row 0 rfl rfl rfl rfl Try.underlying28 rfl hs28 ?_; (try simp only [Act.put, List.setIfInBounds_toArray, List.set_cons_zero, List.set_cons_succ])) | (go_at_call 20; have _tk := tk1; refine (read_as HM.out (L21.out _ (fun k hk => H.out.same 1 rfl k hk)) HGX.out HI.out).mono ?_; rintro e w52 ⟨rfl, hb⟩; have H1 := Az.mk (H.out.step hb); clear hb; clear H; have H := H1; clear H1; clear tk1 _tk; have tk2 : True := trivial) | ((with_reducible refine zqg (N := 56) rfl ?_); refine H.out.ld_cell 2 rfl 0 (v := .bool p.f0) rfl rfl rfl rfl Try.underlying4 rfl ?_; (try simp only [Act.put, List.setIfInBounds_toArray, List.set_cons_zero, List.set_cons_succ])) | ((with_reducible refine zqg (N := 60) rfl ?_); refine gate_guard (by rfl) ?_; dsimp only; refine H.out.ld_cell 2 rfl 1 (v := .int .i64 p.f1) rfl rfl rfl rfl Try.underlying3 rfl ?_; (try simp only [Act.put, List.setIfInBounds_toArray, List.set_cons_zero, List.set_cons_succ])) | ((with_reducible refine zqg (N := 66) rfl ?_); refine gate_guard (by rfl) ?_; dsimp only; refine H.out.ld_cell 3 rfl 0 (v := .int .i64 D.st) rfl rfl rfl rfl Try.underlying3 rfl ?_; (try simp only [Act.put, List.setIfInBounds_toArray, List.set_cons_zero, List.set_cons_succ])) | ((with_reducible refine zqg (N := 70) rfl ?_); refine H.out.ld_cell 2 rfl 2 (v := .string p.f2) rfl rfl rfl rfl Try.underlying9 rfl ?_; (try simp only [Act.put, List.setIfInBounds_toArray, List.set_cons_zero, List.set_cons_succ])))
         (try simp only [Act.put, List.setIfInBounds_toArray, List.set_cons_zero, List.set_cons_succ])
         go_roundg k1
         case measure => omega
         case rel => exact ⟨i + 1, by have := HI.out; rw [wrap_ok (by omega)]; rfl, ⟨by have := HN.out; omega⟩, H⟩
        ·skip
         have HM := Az.mk (show ¬ (p.f0 = false ∧ p.f1 = (i : Int)) from fun hh => h2 hh.2)
         have e2 : (p.f1 == (i : Int)) = false := by simp [h2]
         clear h2
         go_wp2_with (first | ((with_reducible refine zqg (N := 44) rfl ?_); refine H.out.ld_row 3 rfl rfl rfl rfl Try.underlying28 rfl hs28 ?_; (try simp only [Act.put, List.setIfInBounds_toArray, List.set_cons_zero, List.set_cons_succ])) | (go_at_call 20; have _tk := tk0; refine (read_as ⟨rfl, rfl⟩ (HR.out.below H.out.bel) HG.out HI.out).mono ?_; rintro e w46 ⟨rfl, hb⟩; have H1 := Az.mk (H.out.step hb); clear hb; clear H; have H := H1; clear H1; clear tk0 _tk; have tk1 : True := trivial) | ((with_reducible refine zqg (N := 50) rfl ?_); refine H.out.ld_row 0 rfl rfl rfl rfl Try.underlying28 rfl hs28 ?_; (try simp only [Act.put, List.setIfInBounds_toArray, List.set_cons_zero, List.set_cons_succ])) | (go_at_call 20; have _tk := tk1; refine (read_as (seen_miss HG.out H1N.out HI.out HM.out) (L21.out _ (fun k hk => H.out.same 1 rfl k hk)) HGX.out HI.out).mono ?_; rintro e w52 ⟨rfl, hb⟩; have H1 := Az.mk (H.out.step hb); clear hb; clear H; have H := H1; clear H1; clear tk1 _tk; have tk2 : True := trivial) | ((with_reducible refine zqg (N := 56) rfl ?_); refine H.out.ld_cell 2 rfl 0 (v := .bool p.f0) rfl rfl rfl rfl Try.underlying4 rfl ?_; (try simp only [Act.put, List.setIfInBounds_toArray, List.set_cons_zero, List.set_cons_succ])) | ((with_reducible refine zqg (N := 60) rfl ?_); refine gate_guard (by rfl) ?_; dsimp only; refine H.out.ld_cell 2 rfl 1 (v := .int .i64 p.f1) rfl rfl rfl rfl Try.underlying3 rfl ?_; (try simp only [Act.put, List.setIfInBounds_toArray, List.set_cons_zero, List.set_cons_succ])) | ((with_reducible refine zqg (N := 66) rfl ?_); refine gate_guard (by rfl) ?_; dsimp only; refine H.out.ld_cell 3 rfl 0 (v := .int .i64 D.st) rfl rfl rfl rfl Try.underlying3 rfl ?_; (try simp only [Act.put, List.setIfInBounds_toArray, List.set_cons_zero, List.set_cons_succ])) | ((with_reducible refine zqg (N := 70) rfl ?_); refine H.out.ld_cell 2 rfl 2 (v := .string p.f2) rfl rfl rfl rfl Try.underlying9 rfl ?_; (try simp only [Act.put, List.setIfInBounds_toArray, List.set_cons_zero, List.set_cons_succ])))
         (try simp only [Act.put, List.setIfInBounds_toArray, List.set_cons_zero, List.set_cons_succ])
         go_roundg k1
         case measure => omega
         case rel => exact ⟨i + 1, by have := HI.out; rw [wrap_ok (by omega)]; rfl, ⟨by have := HN.out; omega⟩, H⟩
     ·skip
      have c33 : decide ((i : Int) < 12) = false := decide_eq_false hi12
      clear hi12
      go_upto_region 17 with fail
      go_wp2_with (first | ((with_reducible refine zqg (N := 79) rfl ?_); refine H.out.ld_row 0 rfl rfl rfl rfl Try.underlying28 rfl hs28 ?_; (try simp only [Act.put, List.setIfInBounds_toArray, List.set_cons_zero, List.set_cons_succ])) | (go_at_call 21; have _tk := tk0; refine (ok_call (L21.out _ (fun k hk => H.out.same 1 rfl k hk)) HGX.out).mono ?_; rintro e w80 ⟨rfl, hb⟩; have H1 := Az.mk (H.out.step hb); clear hb; clear H; have H := H1; clear H1; clear tk0 _tk; have tk1 : True := trivial) | ((with_reducible refine zqg (N := 83) rfl ?_); refine gate_guard (by rfl) ?_; dsimp only; refine H.out.ld_cell 3 rfl 0 (v := .int .i64 D.st) rfl rfl rfl rfl Try.underlying3 rfl ?_; (try simp only [Act.put, List.setIfInBounds_toArray, List.set_cons_zero, List.set_cons_succ])))
      (try simp only [Act.put, List.setIfInBounds_toArray, List.set_cons_zero, List.set_cons_succ])
      go_ret
      exact ⟨rfl, HB0.out.trans (H.out.bel.mono HB0.out.size)⟩
  ·skip
   have HE := Az.mk (put_bad hg)
   clear hg
   go_wp2_with (first | ((with_reducible refine zqg (N := 19) rfl ?_); refine H.out.ld_row 1 rfl rfl rfl rfl Try.underlying28 rfl hs28 ?_; (try simp only [Act.put, List.setIfInBounds_toArray, List.set_cons_zero, List.set_cons_succ])) | ((with_reducible refine zqg (N := 20) rfl ?_); refine H.out.ld_row 0 rfl rfl rfl rfl Try.underlying54 rfl hs54 ?_; (try simp only [Act.put, List.setIfInBounds_toArray, List.set_cons_zero, List.set_cons_succ])) | (go_at_call 38; have _tk := tk1; refine (gives_as HE.out (implPut_call (p := p) (HR.out.below H.out.bel))).mono ?_; rintro e w21 ⟨M21, rfl, ho, hb⟩; have L21 := Az.mk (lies_of ho); have H1 := Az.mk (H.out.made hb); clear ho hb; clear H; have H := H1; clear H1; clear tk1 _tk; have tk2 : True := trivial) | ((with_reducible refine zqg (N := 5) rfl ?_); refine H.out.bx rfl (#[.int .i64 0, .slice none 0 0, .slice none 0 0, .slice none 0 0, .slice none 0 0]) 28 ?hr ?_; (case hr => first | (go_simp; done) | (go_simp; rfl)); intro g5 w5 H1; clear H; have H := H1; clear H1; (try simp only [Act.put, List.setIfInBounds_toArray, List.set_cons_zero, List.set_cons_succ])) | ((with_reducible refine gate_store (t := 28) (p := 5) rfl ?_); refine H.out.st_row 0 rfl rfl (x := .tmp 5) (y := .tmp 21) rfl rfl rfl (cD M21 noD) rfl hs28 rfl (cD_one _ _) ?_; intro ws4_4 H1; clear H; have H := H1; clear H1))
   (try simp only [Act.put, List.setIfInBounds_toArray, List.set_cons_zero, List.set_cons_succ])
   refine start_ (n := 12) (S := fun w' => Hq w16.heap.size w16 w' [.box g3 (cD M D) 28, .box g4 (cP p) 54, .box g5 (cD M21 noD) 28]) (ds := []) #[false, false, false, false, false, false, false, false, false, false, false, false] (by kernel_rfl) rfl rfl (H.out.drew.sel [3, 2, 0] _ (by decide) rfl) (fun hHeld => ?_)
   have H1 := Az.mk H.out.drew
   clear H; have H := H1; clear H1
   generalize World.drew _ = wd5 at hHeld H ⊢
   refine zqt (i := 0) (N := some 22) (v := .agg (cD M21 noD)) (a' := ?_) #[true, false, false, false, false, false, false, false, false, false, false, false] rfl rfl (by kernel_rfl) (fun _ _ _ h => h) (Or.inl ⟨by rfl, fun w' s0 => s0.run_row 2 rfl rfl rfl Try.underlying28 rfl hs28⟩) hHeld ?_ ?_
   rotate_left
   ·simp only [Act.put, List.setIfInBounds_toArray, List.set_cons_zero, List.set_cons_succ, i64_w, i32_w]
    rfl
   refine zqt (i := 1) (N := some 23) (v := .agg (cD M D)) (a' := ?_) #[true, true, false, false, false, false, false, false, false, false, false, false] rfl rfl (by kernel_rfl) (fun _ _ _ h => h) (Or.inl ⟨by rfl, fun w' s0 => s0.run_row 0 rfl rfl rfl Try.underlying28 rfl hs28⟩) hHeld ?_ ?_
   rotate_left
   ·simp only [Act.put, List.setIfInBounds_toArray, List.set_cons_zero, List.set_cons_succ, i64_w, i32_w]
    rfl
   refine zqt (i := 2) (N := some 24) (v := .agg (cP p)) (a' := ?_) #[true, true, true, false, false, false, false, false, false, false, false, false] rfl rfl (by kernel_rfl) (fun _ _ _ h => h) (Or.inl ⟨by rfl, fun w' s0 => s0.run_row 1 rfl rfl rfl Try.underlying54 rfl hs54⟩) hHeld ?_ ?_
   rotate_left
   ·simp only [Act.put, List.setIfInBounds_toArray, List.set_cons_zero, List.set_cons_succ, i64_w, i32_w]
    rfl
   refine one_ (i := 3) (N := some 25) #[true, true, true, true, false, false, false, false, false, false, false, false] rfl rfl (by kernel_rfl) (by decide) (fun K hK => ?_)
   refine goes_ Try.func39 (by kernel_rfl) rfl #[.agg (cD M D), .agg (cP p)] (by rfl) rfl rfl (by (try simp only [List.map_toArray, List.map_cons, List.map_nil]); first | done | rfl) ?_
   refine (gives_as HE.out (specPut_callz (p := p) HF.out (HR.out.below H.out.bel))).mono ?_
   rintro e w25 ⟨M25, rfl, ho, hb⟩
   refine ⟨_, rfl, ?_⟩
   have L25 := Az.mk (lies_of ho)
   have H1 := Az.mk (H.out.made hb)
   clear ho hb
   clear H; have H := H1; clear H1
   refine hK.out _ _ (H.out.sel [4, 3, 1] _ (by decide) rfl) (fun hHeld => ?_)
   clear hK K
   refine norm_ (a' := ?_) ?_ ?_
   rotate_left
   ·show Act.put _ (some 25) _ = _
    simp only [Act.put, List.setIfInBounds_toArray, List.set_cons_zero, List.set_cons_succ, i64_w, i32_w]
    rfl
   refine one_ (i := 4) (N := some 26) #[true, true, true, true, true, false, false, false, false, false, false, false] rfl rfl (by kernel_rfl) (by decide) (fun K hK => ?_)
   refine goes_ Try.func18 (by kernel_rfl) rfl #[.agg (cD M21 noD), .agg (cD M25 noD)] (by rfl) rfl rfl (by (try simp only [List.map_toArray, List.map_cons, List.map_nil]); first | done | rfl) ?_
   refine (lpaDisk_call fits_no (L21.out _ (fun k hk => H.out.same 2 rfl k hk)) (L25.out _ (fun k hk => H.out.same 0 rfl k hk))).mono ?_
   rintro e w26 ⟨rfl, hb⟩
   refine ⟨_, rfl, ?_⟩
   have H1 := Az.mk (H.out.step hb)
   clear hb
   clear H; have H := H1; clear H1
   refine hK.out _ _ (H.out.sel [4, 3, 1] _ (by decide) rfl) (fun hHeld => ?_)
   clear hK K
   refine norm_ (a' := ?_) ?_ ?_
   rotate_left
   ·show Act.put _ (some 26) _ = _
    simp only [Act.put, List.setIfInBounds_toArray, List.set_cons_zero, List.set_cons_succ, i64_w, i32_w]
    rfl
   refine zqp (i := 5) (N := some 27) (v := ?_) (a' := ?_) #[true, true, true, true, true, true, false, false, false, false, false, false] rfl rfl (by kernel_rfl) (fun _ _ _ h => h) (Or.inl ⟨by rfl, ?_⟩) ?_ ?_
   rotate_left
   ·intro w'
    go_simp
    with_reducible rfl
   rotate_left
   ·simp only [Act.put, List.setIfInBounds_toArray, List.set_cons_zero, List.set_cons_succ, i64_w, i32_w]
    rfl
   refine zqp (i := 6) (N := some 28) (v := ?_) (a' := ?_) #[true, true, true, true, true, true, true, false, false, false, false, false] rfl rfl (by kernel_rfl) (fun _ _ _ h => h) (Or.inl ⟨by rfl, ?_⟩) ?_ ?_
   rotate_left
   ·intro w'
    go_simp
    with_reducible rfl
   rotate_left
   ·simp only [Act.put, List.setIfInBounds_toArray, List.set_cons_zero, List.set_cons_succ, i64_w, i32_w]
    rfl
   refine zqp (i := 7) (N := some 29) (v := ?_) (a' := ?_) #[true, true, true, true, true, true, true, true, false, false, false, false] rfl rfl (by kernel_rfl) (fun _ _ _ h => h) (Or.inl ⟨by rfl, ?_⟩) ?_ ?_
   rotate_left
   ·intro w'
    go_simp
    with_reducible rfl
   rotate_left
   ·simp only [Act.put, List.setIfInBounds_toArray, List.set_cons_zero, List.set_cons_succ, i64_w, i32_w]
    rfl
   refine zqt (i := 8) (N := some 30) (v := .slice M21.A1 0 M21.c1) (a' := ?_) #[true, true, true, true, true, true, true, true, true, false, false, false] rfl rfl (by kernel_rfl) (fun _ _ _ h => h) (Or.inl ⟨by rfl, fun w' s0 => s0.run_cell 2 rfl 1 rfl rfl rfl Try.underlying24 rfl⟩) hHeld ?_ ?_
   rotate_left
   ·simp only [Act.put, List.setIfInBounds_toArray, List.set_cons_zero, List.set_cons_succ, i64_w, i32_w]
    rfl
   refine zqp (i := 9) (N := some 31) (v := ?_) (a' := ?_) #[true, true, true, true, true, true, true, true, true, true, false, false] rfl rfl (by kernel_rfl) (fun _ _ _ h => h) (Or.inl ⟨by rfl, ?_⟩) ?_ ?_
   rotate_left
   ·intro w'
    go_simp
    with_reducible rfl
   rotate_left
   ·simp only [Act.put, List.setIfInBounds_toArray, List.set_cons_zero, List.set_cons_succ, i64_w, i32_w]
    rfl
   refine zqp (i := 10) (N := some 32) (v := ?_) (a' := ?_) #[true, true, true, true, true, true, true, true, true, true, true, false] rfl rfl (by kernel_rfl) (fun _ _ _ h => h) (Or.inl ⟨by rfl, ?_⟩) ?_ ?_
   rotate_left
   ·intro w'
    go_simp
    with_reducible rfl
   rotate_left
   ·simp only [Act.put, List.setIfInBounds_toArray, List.set_cons_zero, List.set_cons_succ, i64_w, i32_w]
    rfl
   refine zqp (i := 11) (N := some 33) (v := ?_) (a' := ?_) #[true, true, true, true, true, true, true, true, true, true, true, true] rfl rfl (by kernel_rfl) (fun _ _ _ h => h) (Or.inl ⟨by rfl, ?_⟩) ?_ ?_
   rotate_left
   ·intro w'
    go_simp
    with_reducible rfl
   rotate_left
   ·simp only [Act.put, List.setIfInBounds_toArray, List.set_cons_zero, List.set_cons_succ, i64_w, i32_w]
    rfl
   refine done_ (by kernel_rfl) ?_
   go_wp2
   refine start_ (n := 6) (S := fun w' => Hq w16.heap.size w16 w' [.box g3 (cD M D) 28, .box g4 (cP p) 54, .box g5 (cD M21 noD) 28]) (ds := []) #[false, false, false, false, false, false] (by kernel_rfl) rfl rfl (H.out.drew.sel [4, 3, 1] _ (by decide) rfl) (fun hHeld => ?_)
   have H1 := Az.mk H.out.drew
   clear H; have H := H1; clear H1
   generalize World.drew _ = wd6 at hHeld H ⊢
   refine zqt (i := 0) (N := some 34) (v := .agg (cD M21 noD)) (a' := ?_) #[true, false, false, false, false, false] rfl rfl (by kernel_rfl) (fun _ _ _ h => h) (Or.inl ⟨by rfl, fun w' s0 => s0.run_row 2 rfl rfl rfl Try.underlying28 rfl hs28⟩) hHeld ?_ ?_
   rotate_left
   ·simp only [Act.put, List.setIfInBounds_toArray, List.set_cons_zero, List.set_cons_succ, i64_w, i32_w]
    rfl
   refine zqt (i := 1) (N := some 35) (v := .agg (cD M D)) (a' := ?_) #[true, true, false, false, false, false] rfl rfl (by kernel_rfl) (fun _ _ _ h => h) (Or.inl ⟨by rfl, fun w' s0 => s0.run_row 0 rfl rfl rfl Try.underlying28 rfl hs28⟩) hHeld ?_ ?_
   rotate_left
   ·simp only [Act.put, List.setIfInBounds_toArray, List.set_cons_zero, List.set_cons_succ, i64_w, i32_w]
    rfl
   refine zqt (i := 2) (N := some 36) (v := .agg (cP p)) (a' := ?_) #[true, true, true, false, false, false] rfl rfl (by kernel_rfl) (fun _ _ _ h => h) (Or.inl ⟨by rfl, fun w' s0 => s0.run_row 1 rfl rfl rfl Try.underlying54 rfl hs54⟩) hHeld ?_ ?_
   rotate_left
   ·simp only [Act.put, List.setIfInBounds_toArray, List.set_cons_zero, List.set_cons_succ, i64_w, i32_w]
    rfl
   refine one_ (i := 3) (N := some 37) #[true, true, true, true, false, false] rfl rfl (by kernel_rfl) (by decide) (fun K hK => ?_)
   refine goes_ Try.func39 (by kernel_rfl) rfl #[.agg (cD M D), .agg (cP p)] (by rfl) rfl rfl (by (try simp only [List.map_toArray, List.map_cons, List.map_nil]); first | done | rfl) ?_
   refine (gives_as HE.out (specPut_callz (p := p) HF.out (HR.out.below H.out.bel))).mono ?_
   rintro e w37 ⟨M37, rfl, ho, hb⟩
   refine ⟨_, rfl, ?_⟩
   have L37 := Az.mk (lies_of ho)
   have H1 := Az.mk (H.out.made hb)
   clear ho hb
   clear H; have H := H1; clear H1
   refine hK.out _ _ (H.out.sel [5, 4, 2] _ (by decide) rfl) (fun hHeld => ?_)
   clear hK K
   refine norm_ (a' := ?_) ?_ ?_
   rotate_left
   ·show Act.put _ (some 37) _ = _
    simp only [Act.put, List.setIfInBounds_toArray, List.set_cons_zero, List.set_cons_succ, i64_w, i32_w]
    rfl
   refine one_ (i := 4) (N := some 38) #[true, true, true, true, true, false] rfl rfl (by kernel_rfl) (by decide) (fun K hK => ?_)
   refine goes_ Try.func18 (by kernel_rfl) rfl #[.agg (cD M21 noD), .agg (cD M37 noD)] (by rfl) rfl rfl (by (try simp only [List.map_toArray, List.map_cons, List.map_nil]); first | done | rfl) ?_
   refine (lpaDisk_call fits_no (L21.out _ (fun k hk => H.out.same 3 rfl k hk)) (L37.out _ (fun k hk => H.out.same 0 rfl k hk))).mono ?_
   rintro e w38 ⟨rfl, hb⟩
   refine ⟨_, rfl, ?_⟩
   have H1 := Az.mk (H.out.step hb)
   clear hb
   clear H; have H := H1; clear H1
   refine hK.out _ _ (H.out.sel [5, 4, 2] _ (by decide) rfl) (fun hHeld => ?_)
   clear hK K
   refine norm_ (a' := ?_) ?_ ?_
   rotate_left
   ·show Act.put _ (some 38) _ = _
    simp only [Act.put, List.setIfInBounds_toArray, List.set_cons_zero, List.set_cons_succ, i64_w, i32_w]
    rfl
   refine zqp (i := 5) (N := some 2) (v := ?_) (a' := ?_) #[true, true, true, true, true, true] rfl rfl (by kernel_rfl) (fun _ _ _ h => h) (Or.inl ⟨by rfl, ?_⟩) ?_ ?_
   rotate_left
   ·intro w'
    go_simp
    with_reducible rfl
   rotate_left
   ·simp only [Act.put, List.setIfInBounds_toArray, List.set_cons_zero, List.set_cons_succ, i64_w, i32_w]
    rfl
   refine done_ (by kernel_rfl) ?_
   go_wp2
   go_ret
   exact ⟨rfl, HB0.out.trans (H.out.bel.mono HB0.out.size)⟩
end Go.Proofs.Ytkgpnloghmbmlaa.Hq
namespace Go.Proofs.Ytkgpnloghmbmlaa.fnDiskPut
open Go.ChangeShapes Go.WideShapes Go.ChangeAt Go.RowKit Go.Proofs.Ytkgpnloghmbmlaa.Print Go.Proofs.Ytkgpnloghmbmlaa.Take Go.Proofs.YtkgpnloghmbmlaaW.PrintWords
open Go.ChangeMaps (open_string shut_string)
set_option linter.unusedVariables false
theorem own : ownKnob Try.prog.godebug = none := by kernel_rfl
theorem laidOut : laidOutB Try.prog = true := by kernel_rfl
set_option maxRecDepth 100000 in
theorem lifted (os : Os) (started : os.Started) (H : Type) (enc : TypeId × Value → H) :
    ReturnsInHanded {} Try.checked os 11 .any (Rows.fnDiskPutSpec.pre6 enc Try.prog Try.f11 Rows.fnDiskPutRow.domain false) (Rows.fnDiskPutSpec.post enc Try.prog Try.f11 false true false false) := by
  refine returnsInHanded_of_change_sized (C := Try.checked) own started (by kernel_rfl) Try.func11
    (ChangeSpec.witness6 (enc := enc) (C := Try.checked) false ⟨#[], #[.slice none 0 0], []⟩ 8 (by kernel_rfl) (by kernel_rfl) (by kernel_rfl) (by kernel_rfl)) ?_
  intro W base args ds gs before hval0 hW hcnd hsz0 _
  have hsz : (DataW.weightsEach Try.prog (Try.f11.params.toList ++ Rows.fnDiskPutSpec.plain.varTypes Try.prog) (ds ++ gs)).all (· ≤ reachBytes) = true := hsz0
  have hval : ∀ (j : Nat) t v, Try.f11.params[j]? = some t → args[j]? = some v → Value.okWide Try.prog W .any base t v := hval0
  have hW' := hW
  obtain ⟨p, q, hA0, hV, rfl, hfz, hnd⟩ := hW
  have hA : DataW.TrodAll enc Try.prog W 0 (fun _ => true) true Try.f11.params.toList args.toList ds p := hA0
  rw [Try.params11] at hA hval hsz
  obtain ⟨v0, vs0, d0, ds0, p0, q0, hargs, rfl, rfl, h0, r0⟩ := trodAll_cons hA
  obtain ⟨rfl, rfl, rfl⟩ := trodAll_nil r0
  obtain rfl : args = #[v0] := by cases args; simp_all
  obtain ⟨rfl, rfl⟩ := trodVars_none hV
  obtain ⟨b0, len0, cap0, rfl⟩ := okWide_slice Try.underlying22 (hval 0 22 v0 rfl rfl)
  have k0 := h0
  have lt0 : ∀ x ∈ p0, x.block < W.heap.size := by obtain ⟨m, hm⟩ := k0; exact DataW.trod_lt m _ _ _ hm
  obtain ⟨A0, c0, l0, e0, hr0, hc0, w0⟩ := Opens.arg o22 rfl h0
  cases e0
  clear hA0 hval0 hsz0 hsz
  skip
  refine (Hq.law_FnDiskPut W hr0 hc0 w0.2).mono fun e W' ⟨he, bel0⟩ => ?_
  have bel := bel0
  subst he
  exact ⟨_, rfl, _, _, _, [], _, [], hW', trodAll_mk1 (shut_bool Try.underlying4 _), (trodAll_cons_mk (Below.trod laidOut (by kernel_rfl) (of_decide_eq_true (by kernel_rfl)) k0 bel lt0) trodAll_mk0), rfl, bel.frame _, fun h => by cases h⟩
theorem over : Rows.fnDiskPutRow.holds Try.pinned (OpenSpec.ofChange Rows.fnDiskPutSpec) :=
  OpenClaim.holds_of_wide 11 Try.f11 rfl rfl rfl rfl rfl rfl rfl ⟨rfl, rfl, rfl, rfl, rfl⟩ rfl rfl rfl rfl rfl (by kernel_rfl) Try.func11 (by kernel_rfl)
    (of_decide_eq_true (by kernel_rfl)) (by unfold Func.isWrapper; first | (rw [if_pos (by decide +kernel)]; kernel_rfl) | (rw [if_neg (by decide +kernel)]; exact ⟨rfl, rfl⟩))
    (fun os started H enc _ => lifted os started H enc)
theorem proved : Rows.FnDiskPutSaid := over
#print axioms proved
end Go.Proofs.Ytkgpnloghmbmlaa.fnDiskPut
namespace Go.Proofs.Ytkgpnloghmbmlaa
theorem fnDiskPut_holds : Rows.FnDiskPutSaid := fnDiskPut.proved
end Go.Proofs.Ytkgpnloghmbmlaa
