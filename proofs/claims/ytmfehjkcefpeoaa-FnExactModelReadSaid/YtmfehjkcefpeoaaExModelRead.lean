/- Proved: impl.ModelRead reads the text of a block, or tells a code. Conditions: names as long as strings may be. -/
import Derived.Test.YtmfehjkcefpeoaaExThink
namespace Go.Proofs.Ytmfehjkcefpeoaa.Print
open Go.RowKit Go.Maps Go.WideMaps Go.Proofs.YtmfehjkcefpeoaaW.PrintWords Go.Proofs.YtmfehjkcefpeoaaW.PrintLast Go.Proofs.YtmfehjkcefpeoaaW.PrintMore Go.Proofs.Ytmfehjkcefpeoaa.Pure
set_option linter.unusedVariables false
set_option linter.unusedSimpArgs false

theorem modelB_ok {l : List S39} (h : modelB l = true) : l.length ≤ 4 ∧ ∀ x ∈ l, x.f1.length = 3 := by
  unfold modelB at h
  rw [Bool.and_eq_true, Bool.and_eq_true, decide_eq_true_iff, Bool.not_eq_true', List.any_eq_false] at h
  refine ⟨h.1, fun x hx => ?_⟩
  have := h.2.2 x hx
  unfold shelfB at this
  simp only [Bool.or_eq_true, not_or, decide_eq_true_iff] at this
  omega

set_option maxHeartbeats 8000000 in
set_option maxRecDepth 100000 in
theorem thought_bad (A0 : Option Addr) (c0 : Nat) (l0 : List S39) (f : Value) (w : World) (hr0 : Kd.C k39 w A0 l0.length l0) (hc0 : l0.length ≤ c0) (hS : Short l0) (hok : modelB l0 = false) :
    Calls Try.prog 24 #[.agg #[.slice A0 l0.length c0], f] w fun e w' => ∃ A n c, e = .returned (.tuple #[.agg #[.slice A n c], .int .i64 4]) ∧ Below w.heap.size w w' := by
  have hu29 := Try.underlying29
  have HB := Aside0.mk (Below.refl w.heap.size w)
  have HOK := Aside0.mk (fun (W : World) (hb : Below w.heap.size w W) => ModelOk_all A0 c0 l0 W (Kd.C_below hr0 hb) hc0 hS)
  rw [hok] at HOK
  clear hr0 hc0 hS hok
  go_enter Try.func24, Try.ntmps24
  go_wp2_with (first | ((with_reducible refine gate_dst (N := 2) rfl ?_); refine box_event ?hg (N := 2) ?hd (cs := #[.slice A0 l0.length c0]) (t := 29) ?hr ?_; (case hd => rfl); (case hg => rfl); (case hr => first | (go_simp; done) | (go_simp; rfl)); intro g2 hg w5 hbox hb; have n0_ := Aside0.mk (below_step (by repeat (first | (with_reducible first | exact HB.out | apply below_alloc | apply pw_below_drewN | apply below_drew1) | exact HB.out)) hb); have BK2 := Aside0.mk (show Bx w5 g2 (.slice A0 l0.length c0) 29 from hbox); clear HB; have HB := n0_; clear n0_ hbox hg; have hcz_1 : (w5.alloc (Obj.cells #[.slice none 0 0] 29)).cell? ⟨g2, 0, none⟩ = some (.slice A0 l0.length c0) := (BK2.out.alloc _).cell; have HG5 := Aside0.mk hb.size; clear hb) | (go_at_call 8; refine (HOK.out _ (by repeat (first | (with_reducible first | exact HB.out | apply below_alloc | apply pw_below_drewN | apply below_drew1) | exact HB.out))).mono ?_; rintro e w9 ⟨rfl, hb9⟩; have B2 := Aside0.mk ((BK2.out.alloc (Obj.cells #[.slice none 0 0] 29)).below hb9); have B4 := Aside0.mk ((Bx.made w5 (.slice none 0 0) 29).below hb9); have q2 := B2.out.cell; have q4 := B4.out.cell; have f4 := B4.out.free; have n0_ := Aside0.mk (below_step (by repeat (first | (with_reducible first | exact HB.out | apply below_alloc | apply pw_below_drewN | apply below_drew1) | exact HB.out)) hb9); clear HB; have HB := n0_; clear n0_ hb9) | go_in)
  have hc5 := B4.out.set (.slice none 0 0)
  exact bodyPost_ret (v := .tuple #[.agg #[.slice none 0 0], .int .i64 4]) (by simp [results, Try.f24, go_sem, hu29, hc5]) rfl ⟨_, _, _, rfl, below_set HB.out HG5.out⟩

set_option maxHeartbeats 8000000 in
set_option maxRecDepth 100000 in
theorem thought_no (ga gb gt : Nat) (A0 : Option Addr) (c0 : Nat) (l0 : List S39) (nm tx : ByteArray) (a : Int) (w : World) (hr0 : Kd.C k39 w A0 l0.length l0) (hc0 : l0.length ≤ c0) (hS : Short l0) (hn : nm.size ≤ maxLen) (hok : modelB l0 = true) (hcd : (readD l0 nm a).2 ≠ 0)
    (ha : Bx w ga (.string nm) 9) (hb : Bx w gb (.int .i64 a) 3) (ht : Bx w gt (.string tx) 9) :
    Calls Try.prog 24 #[.agg #[.slice A0 l0.length c0], .func (.func 25) #[] #[.pointer (some ⟨ga, 0, none⟩), .pointer (some ⟨gb, 0, none⟩), .pointer (some ⟨gt, 0, none⟩)]] w fun e w' => ∃ A n c, e = .returned (.tuple #[.agg #[.slice A n c], .int .i64 (readD l0 nm a).2]) ∧ Below w.heap.size w w' := by
  have hu29 := Try.underlying29
  have HB := Aside0.mk (Below.refl w.heap.size w)
  have hm := modelB_ok hok
  have HOK := Aside0.mk (fun (W : World) (hb : Below w.heap.size w W) => ModelOk_all A0 c0 l0 W (Kd.C_below hr0 hb) hc0 hS)
  have HCP := Aside0.mk (fun (W : World) (hb : Below w.heap.size w W) => copy_calls A0 c0 l0 hm.1 hm.2 W (Kd.C_below hr0 hb) hc0)
  rw [hok] at HOK
  have HS := Aside0.mk hS
  have HN := Aside0.mk hn
  have H3 := Aside0.mk hm.2
  have HCD := Aside0.mk hcd
  have Ba := Aside0.mk ha
  have Bb := Aside0.mk hb
  have Bt := Aside0.mk ht
  have c1 : ((readD l0 nm a).2 != 0) = true := bne_iff_ne.2 hcd
  have c2 : ((readD l0 nm a).2 == 0) = false := beq_eq_false_iff_ne.2 hcd
  have tk0 : True := trivial
  clear hr0 hc0 hS hn hok hcd ha hb ht hm
  go_enter Try.func24, Try.ntmps24
  go_wp2_with (first | ((with_reducible refine gate_dst (N := 2) rfl ?_); refine box_event ?hg (N := 2) ?hd (cs := #[.slice A0 l0.length c0]) (t := 29) ?hr ?_; (case hd => rfl); (case hg => rfl); (case hr => first | (go_simp; done) | (go_simp; rfl)); intro g2 hg w5 hbox hb; have n0_ := Aside0.mk (below_step (by repeat (first | (with_reducible first | exact HB.out | apply below_alloc | apply pw_below_drewN | apply below_drew1) | exact HB.out)) hb); have BK2 := Aside0.mk (show Bx w5 g2 (.slice A0 l0.length c0) 29 from hbox); clear HB; have HB := n0_; clear n0_ hbox hg; have hcz_1 : (w5.alloc (Obj.cells #[.slice none 0 0] 29)).cell? ⟨g2, 0, none⟩ = some (.slice A0 l0.length c0) := (BK2.out.alloc _).cell; have HG5 := Aside0.mk hb.size; have hbx := Aside0.mk hb; clear hb) | (go_at_call 8; refine (HOK.out _ (by repeat (first | (with_reducible first | exact HB.out | apply below_alloc | apply pw_below_drewN | apply below_drew1) | exact HB.out))).mono ?_; rintro e w9 ⟨rfl, hb9⟩; have B2 := Aside0.mk ((BK2.out.alloc (Obj.cells #[.slice none 0 0] 29)).below hb9); have B4 := Aside0.mk ((Bx.made w5 (.slice none 0 0) 29).below hb9); have q2 := B2.out.cell; have q4 := B4.out.cell; have f4 := B4.out.free; have Ba2 := Aside0.mk (((Ba.out.below hbx.out).alloc (Obj.cells #[.slice none 0 0] 29)).below hb9); have Bb2 := Aside0.mk (((Bb.out.below hbx.out).alloc (Obj.cells #[.slice none 0 0] 29)).below hb9); have Bt2 := Aside0.mk (((Bt.out.below hbx.out).alloc (Obj.cells #[.slice none 0 0] 29)).below hb9); clear Ba Bb Bt; have Ba := Ba2; have Bb := Bb2; have Bt := Bt2; clear Ba2 Bb2 Bt2; have n0_ := Aside0.mk (below_step (by repeat (first | (with_reducible first | exact HB.out | apply below_alloc | apply pw_below_drewN | apply below_drew1) | exact HB.out)) hb9); clear HB; have HB := n0_; clear n0_ hb9) | (go_at_call 33; have _tk := tk0; refine (HCP.out _ (by repeat (first | (with_reducible first | exact HB.out | apply below_alloc | apply pw_below_drewN | apply below_drew1) | exact HB.out))).mono ?_; rintro e w10 ⟨A1, c1, rfl, hr1, hc1, hb9⟩; have B2b := Aside0.mk (B2.out.below hb9); have B4b := Aside0.mk (B4.out.below hb9); clear B2 B4; have B2 := B2b; have B4 := B4b; clear B2b B4b; have Ba2 := Aside0.mk (Ba.out.below hb9); have Bb2 := Aside0.mk (Bb.out.below hb9); have Bt2 := Aside0.mk (Bt.out.below hb9); clear Ba Bb Bt; have Ba := Ba2; have Bb := Bb2; have Bt := Bt2; clear Ba2 Bb2 Bt2; have q2 := B2.out.cell; have q4 := B4.out.cell; have f4 := B4.out.free; have HR1 := Aside0.mk hr1; have HC1 := Aside0.mk hc1; clear hr1 hc1 tk0 _tk; have tk1 : True := trivial; have n0_ := Aside0.mk (below_step (by repeat (first | (with_reducible first | exact HB.out | apply below_alloc | apply pw_below_drewN | apply below_drew1) | exact HB.out)) hb9); clear HB; have HB := n0_; clear n0_ hb9) | (go_at_call 25; refine (readFn_no w10.heap.size ga gb gt A1 c1 l0 nm a (w10.alloc (Obj.cells #[.slice A1 l0.length c1] 29)) (Bx.made _ _ _).cell (Ba.out.alloc _).cell (Bb.out.alloc _).cell (Kd.C_alloc HR1.out _) HC1.out HS.out HN.out H3.out HCD.out).mono ?_; rintro e w13 ⟨rfl, hb9⟩; have B2b := Aside0.mk ((B2.out.alloc _).below hb9); have B4b := Aside0.mk ((B4.out.alloc _).below hb9); clear B2 B4; have B2 := B2b; have B4 := B4b; clear B2b B4b; have q2 := B2.out.cell; have q4 := B4.out.cell; have f4 := B4.out.free; have n0_ := Aside0.mk (below_step (by repeat (first | (with_reducible first | exact HB.out | apply below_alloc | apply pw_below_drewN | apply below_drew1) | exact HB.out)) hb9); clear HB; have HB := n0_; clear n0_ hb9) | (go_at_call 33; have _tk := tk1; refine (HCP.out _ (by repeat (first | (with_reducible first | exact HB.out | apply below_alloc | apply pw_below_drewN | apply below_drew1) | exact HB.out))).mono ?_; rintro e w14 ⟨A2, c2, rfl, hr2, hc2, hb9⟩; have B2b := Aside0.mk (B2.out.below hb9); have B4b := Aside0.mk (B4.out.below hb9); clear B2 B4; have B2 := B2b; have B4 := B4b; clear B2b B4b; have q2 := B2.out.cell; have q4 := B4.out.cell; have f4 := B4.out.free; clear hr2 hc2 tk1 _tk; have n0_ := Aside0.mk (below_step (by repeat (first | (with_reducible first | exact HB.out | apply below_alloc | apply pw_below_drewN | apply below_drew1) | exact HB.out)) hb9); clear HB; have HB := n0_; clear n0_ hb9) | go_in)
  have hc5 := B4.out.set (.slice A2 l0.length c2)
  exact bodyPost_ret (v := .tuple #[.agg #[.slice A2 l0.length c2], .int .i64 (readD l0 nm a).2]) (by simp [results, Try.f24, go_sem, hu29, hc5]) rfl ⟨_, _, _, rfl, below_set HB.out HG5.out⟩

set_option maxHeartbeats 8000000 in
set_option maxRecDepth 100000 in
theorem thought_yes (ga gb gt : Nat) (A0 : Option Addr) (c0 : Nat) (l0 : List S39) (nm tx : ByteArray) (a : Int) (w : World) (hr0 : Kd.C k39 w A0 l0.length l0) (hc0 : l0.length ≤ c0) (hS : Short l0) (hn : nm.size ≤ maxLen) (hok : modelB l0 = true) (hcd : (readD l0 nm a).2 = 0)
    (ha : Bx w ga (.string nm) 9) (hb : Bx w gb (.int .i64 a) 3) (ht : Bx w gt (.string tx) 9) :
    Calls Try.prog 24 #[.agg #[.slice A0 l0.length c0], .func (.func 25) #[] #[.pointer (some ⟨ga, 0, none⟩), .pointer (some ⟨gb, 0, none⟩), .pointer (some ⟨gt, 0, none⟩)]] w fun e w' => ∃ A n c, e = .returned (.tuple #[.agg #[.slice A n c], .int .i64 0]) ∧ Below gt w w' ∧ w'.cell? ⟨gt, 0, none⟩ = some (.string (readD l0 nm a).1) := by
  have hu29 := Try.underlying29
  have HB := Aside0.mk (Below.refl w.heap.size w)
  have hm := modelB_ok hok
  have HOK := Aside0.mk (fun (W : World) (hb : Below w.heap.size w W) => ModelOk_all A0 c0 l0 W (Kd.C_below hr0 hb) hc0 hS)
  have HCP := Aside0.mk (fun (W : World) (hb : Below w.heap.size w W) => copy_calls A0 c0 l0 hm.1 hm.2 W (Kd.C_below hr0 hb) hc0)
  rw [hok] at HOK
  have HS := Aside0.mk hS
  have HN := Aside0.mk hn
  have H3 := Aside0.mk hm.2
  have HCD := Aside0.mk hcd
  have Ba := Aside0.mk ha
  have Bb := Aside0.mk hb
  have Bt := Aside0.mk ht
  have HGT := Aside0.mk ht.lt
  have tk0 : True := trivial
  clear hr0 hc0 hS hn hok hcd ha hb ht hm
  go_enter Try.func24, Try.ntmps24
  go_wp2_with (first | ((with_reducible refine gate_dst (N := 2) rfl ?_); refine box_event ?hg (N := 2) ?hd (cs := #[.slice A0 l0.length c0]) (t := 29) ?hr ?_; (case hd => rfl); (case hg => rfl); (case hr => first | (go_simp; done) | (go_simp; rfl)); intro g2 hg w5 hbox hb; have n0_ := Aside0.mk (below_step (by repeat (first | (with_reducible first | exact HB.out | apply below_alloc | apply pw_below_drewN | apply below_drew1) | exact HB.out)) hb); have BK2 := Aside0.mk (show Bx w5 g2 (.slice A0 l0.length c0) 29 from hbox); clear HB; have HB := n0_; clear n0_ hbox hg; have hcz_1 : (w5.alloc (Obj.cells #[.slice none 0 0] 29)).cell? ⟨g2, 0, none⟩ = some (.slice A0 l0.length c0) := (BK2.out.alloc _).cell; have HG5 := Aside0.mk hb.size; have hbx := Aside0.mk hb; clear hb) | (go_at_call 8; refine (HOK.out _ (by repeat (first | (with_reducible first | exact HB.out | apply below_alloc | apply pw_below_drewN | apply below_drew1) | exact HB.out))).mono ?_; rintro e w9 ⟨rfl, hb9⟩; have B2 := Aside0.mk ((BK2.out.alloc (Obj.cells #[.slice none 0 0] 29)).below hb9); have B4 := Aside0.mk ((Bx.made w5 (.slice none 0 0) 29).below hb9); have q2 := B2.out.cell; have q4 := B4.out.cell; have f4 := B4.out.free; have Ba2 := Aside0.mk (((Ba.out.below hbx.out).alloc (Obj.cells #[.slice none 0 0] 29)).below hb9); have Bb2 := Aside0.mk (((Bb.out.below hbx.out).alloc (Obj.cells #[.slice none 0 0] 29)).below hb9); have Bt2 := Aside0.mk (((Bt.out.below hbx.out).alloc (Obj.cells #[.slice none 0 0] 29)).below hb9); clear Ba Bb Bt; have Ba := Ba2; have Bb := Bb2; have Bt := Bt2; clear Ba2 Bb2 Bt2; have n0_ := Aside0.mk (below_step (by repeat (first | (with_reducible first | exact HB.out | apply below_alloc | apply pw_below_drewN | apply below_drew1) | exact HB.out)) hb9); clear HB; have HB := n0_; clear n0_ hb9) | (go_at_call 33; have _tk := tk0; refine (HCP.out _ (by repeat (first | (with_reducible first | exact HB.out | apply below_alloc | apply pw_below_drewN | apply below_drew1) | exact HB.out))).mono ?_; rintro e w10 ⟨A1, c1, rfl, hr1, hc1, hb9⟩; have B2b := Aside0.mk (B2.out.below hb9); have B4b := Aside0.mk (B4.out.below hb9); clear B2 B4; have B2 := B2b; have B4 := B4b; clear B2b B4b; have Ba2 := Aside0.mk (Ba.out.below hb9); have Bb2 := Aside0.mk (Bb.out.below hb9); have Bt2 := Aside0.mk (Bt.out.below hb9); clear Ba Bb Bt; have Ba := Ba2; have Bb := Bb2; have Bt := Bt2; clear Ba2 Bb2 Bt2; have q2 := B2.out.cell; have q4 := B4.out.cell; have f4 := B4.out.free; have HR1 := Aside0.mk hr1; have HC1 := Aside0.mk hc1; clear hr1 hc1 tk0 _tk; have tk1 : True := trivial; have n0_ := Aside0.mk (below_step (by repeat (first | (with_reducible first | exact HB.out | apply below_alloc | apply pw_below_drewN | apply below_drew1) | exact HB.out)) hb9); clear HB; have HB := n0_; clear n0_ hb9) | (go_at_call 25; refine (readFn_yes w10.heap.size ga gb gt A1 c1 l0 nm tx a (w10.alloc (Obj.cells #[.slice A1 l0.length c1] 29)) (Bx.made _ _ _).cell (Ba.out.alloc _).cell (Bb.out.alloc _).cell (Bt.out.alloc _) (Kd.C_alloc HR1.out _) HC1.out HS.out HN.out H3.out HCD.out).mono ?_; rintro e w13 ⟨rfl, w1, hb9, rfl⟩; have Bt1 := Aside0.mk ((Bt.out.alloc (Obj.cells #[.slice A1 l0.length c1] 29)).below hb9); have B6b := Aside0.mk (((Bx.made w10 (.slice A1 l0.length c1) 29).below hb9).other (show w10.heap.size ≠ gt by have h1 := HG5.out; have h2 := HGT.out; have h3 : w5.heap.size < w10.heap.size := B4.out.lt; omega) (.string (readD l0 nm a).1)); have B4b := Aside0.mk (((B4.out.alloc (Obj.cells #[.slice A1 l0.length c1] 29)).below hb9).other (show w5.heap.size ≠ gt by have h1 := HG5.out; have h2 := HGT.out; omega) (.string (readD l0 nm a).1)); clear B4; have B4 := B4b; have B6 := B6b; clear B4b B6b; have q6 := B6.out.cell; have q4 := B4.out.cell; have f4 := B4.out.free; have n0_ := Aside0.mk (below_step (by repeat (first | (with_reducible first | exact HB.out | apply below_alloc | apply pw_below_drewN | apply below_drew1) | exact HB.out)) hb9); clear HB; have HB := n0_; clear n0_ hb9) | go_in)
  have hc5 := B4.out.set (.slice A1 l0.length c1)
  refine bodyPost_ret (v := .tuple #[.agg #[.slice A1 l0.length c1], .int .i64 0]) (by simp [results, Try.f24, go_sem, hu29, hc5]) rfl ⟨_, _, _, rfl, ?_, ?_⟩
  · have h1 := HG5.out
    have h2 := HGT.out
    exact ((HB.out.mono (show gt ≤ w.heap.size by omega)).setCell (p := ⟨gt, 0, none⟩) (Nat.le_refl _) _).setCell (p := ⟨w5.heap.size, 0, none⟩) (by simp; omega) _
  · have h1 := HG5.out
    have h2 := HGT.out
    exact (World.cell?_setCell_other _ ⟨w5.heap.size, 0, none⟩ ⟨gt, 0, none⟩ _ (fun e => by cases e; omega)).trans (Bt1.out.set _)

theorem Bx.made1 (w : World) (o : Obj) (v : Value) (t : Nat) : Bx ((w.alloc o).alloc (.cells #[v] t)) (w.heap.size + 1) v t := by
  have := Bx.made (w.alloc o) v t
  rwa [World.size_alloc] at this
theorem Bx.made2 (w : World) (o o' : Obj) (v : Value) (t : Nat) : Bx (((w.alloc o).alloc o').alloc (.cells #[v] t)) (w.heap.size + 1 + 1) v t := by
  have := Bx.made1 (w.alloc o) o' v t
  rwa [World.size_alloc] at this

set_option maxHeartbeats 8000000 in
set_option maxRecDepth 100000 in
theorem read_bad (A0 : Option Addr) (c0 : Nat) (l0 : List S39) (nm : ByteArray) (a : Int) (w : World) (hr0 : Kd.C k39 w A0 l0.length l0) (hc0 : l0.length ≤ c0) (hS : Short l0) (hok : modelB l0 = false) :
    Calls Try.prog 11 #[.agg #[.slice A0 l0.length c0], .string nm, .int .i64 a] w fun e w' => e = .returned (.tuple #[.string (⟨#[]⟩ : ByteArray), .int .i64 4]) ∧ Below w.heap.size w w' := by
  have hu29 := Try.underlying29
  have HB := Aside0.mk (Below.refl w.heap.size w)
  have HTH := Aside0.mk (fun (f : Value) (W : World) (hb : Below w.heap.size w W) => thought_bad A0 c0 l0 f W (Kd.C_below hr0 hb) hc0 hS hok)
  clear hr0 hc0 hS hok
  go_enter Try.func11, Try.ntmps11
  go_wp2_with (first | ((with_reducible refine gate_dst (N := 3) rfl ?_); refine box_event ?hg (N := 3) ?hd (cs := #[.slice A0 l0.length c0]) (t := 29) ?hr ?_; (case hd => rfl); (case hg => rfl); (case hr => first | (go_simp; done) | (go_simp; rfl)); intro g2 hg w5 hbox hb; have n0_ := Aside0.mk (below_step (by repeat (first | (with_reducible first | exact HB.out | apply below_alloc | apply pw_below_drewN | apply below_drew1) | exact HB.out)) hb); have BK2 := Aside0.mk (show Bx w5 g2 (.slice A0 l0.length c0) 29 from hbox); clear HB; have HB := n0_; clear n0_ hbox hg; have hcz_1 : (((w5.alloc (Obj.cells #[.string nm] 9)).alloc (Obj.cells #[.int .i64 a] 3)).alloc (Obj.cells #[.string (⟨#[]⟩ : ByteArray)] 9)).cell? ⟨g2, 0, none⟩ = some (.slice A0 l0.length c0) := (((BK2.out.alloc _).alloc _).alloc _).cell; have HG5 := Aside0.mk hb.size; clear hb) | (go_at_call 24; refine (HTH.out _ _ (by repeat (first | (with_reducible first | exact HB.out | apply below_alloc | apply pw_below_drewN | apply below_drew1) | exact HB.out))).mono ?_; rintro e w9 ⟨A, n, c, rfl, hb9⟩; have Bt := Aside0.mk ((Bx.made2 w5 _ _ (.string (⟨#[]⟩ : ByteArray)) 9).below hb9); have qt := (Bt.out.alloc (Obj.cells #[.slice A n c] 29)).cell; have n0_ := Aside0.mk (below_step (by repeat (first | (with_reducible first | exact HB.out | apply below_alloc | apply pw_below_drewN | apply below_drew1) | exact HB.out)) hb9); clear HB; have HB := n0_; clear n0_ hb9) | go_in)
  go_ret2
  exact ⟨rfl, (by repeat (first | (with_reducible first | exact HB.out | apply below_alloc | apply pw_below_drewN | apply below_drew1) | exact HB.out))⟩
set_option maxHeartbeats 8000000 in
set_option maxRecDepth 100000 in
theorem read_no (A0 : Option Addr) (c0 : Nat) (l0 : List S39) (nm : ByteArray) (a : Int) (w : World) (hr0 : Kd.C k39 w A0 l0.length l0) (hc0 : l0.length ≤ c0) (hS : Short l0) (hn : nm.size ≤ maxLen) (hok : modelB l0 = true) (hcd : (readD l0 nm a).2 ≠ 0) :
    Calls Try.prog 11 #[.agg #[.slice A0 l0.length c0], .string nm, .int .i64 a] w fun e w' => e = .returned (.tuple #[.string (⟨#[]⟩ : ByteArray), .int .i64 (readD l0 nm a).2]) ∧ Below w.heap.size w w' := by
  have hu29 := Try.underlying29
  have HB := Aside0.mk (Below.refl w.heap.size w)
  have HTH := Aside0.mk (fun (ga gb gt : Nat) (tx : ByteArray) (W : World) (hb : Below w.heap.size w W) (h1 : Bx W ga (.string nm) 9) (h2 : Bx W gb (.int .i64 a) 3) (h3 : Bx W gt (.string tx) 9) => thought_no ga gb gt A0 c0 l0 nm tx a W (Kd.C_below hr0 hb) hc0 hS hn hok hcd h1 h2 h3)
  clear hr0 hc0 hS hok hn hcd
  go_enter Try.func11, Try.ntmps11
  go_wp2_with (first | ((with_reducible refine gate_dst (N := 3) rfl ?_); refine box_event ?hg (N := 3) ?hd (cs := #[.slice A0 l0.length c0]) (t := 29) ?hr ?_; (case hd => rfl); (case hg => rfl); (case hr => first | (go_simp; done) | (go_simp; rfl)); intro g2 hg w5 hbox hb; have n0_ := Aside0.mk (below_step (by repeat (first | (with_reducible first | exact HB.out | apply below_alloc | apply pw_below_drewN | apply below_drew1) | exact HB.out)) hb); have BK2 := Aside0.mk (show Bx w5 g2 (.slice A0 l0.length c0) 29 from hbox); clear HB; have HB := n0_; clear n0_ hbox hg; have hcz_1 : (((w5.alloc (Obj.cells #[.string nm] 9)).alloc (Obj.cells #[.int .i64 a] 3)).alloc (Obj.cells #[.string (⟨#[]⟩ : ByteArray)] 9)).cell? ⟨g2, 0, none⟩ = some (.slice A0 l0.length c0) := (((BK2.out.alloc _).alloc _).alloc _).cell; have HG5 := Aside0.mk hb.size; clear hb) | (go_at_call 24; refine (HTH.out _ _ _ _ _ (by repeat (first | (with_reducible first | exact HB.out | apply below_alloc | apply pw_below_drewN | apply below_drew1) | exact HB.out)) (((Bx.made w5 (.string nm) 9).alloc _).alloc _) ((Bx.made1 w5 _ (.int .i64 a) 3).alloc _) (Bx.made2 w5 _ _ (.string (⟨#[]⟩ : ByteArray)) 9)).mono ?_; rintro e w9 ⟨A, n, c, rfl, hb9⟩; have Bt := Aside0.mk ((Bx.made2 w5 _ _ (.string (⟨#[]⟩ : ByteArray)) 9).below hb9); have qt := (Bt.out.alloc (Obj.cells #[.slice A n c] 29)).cell; have n0_ := Aside0.mk (below_step (by repeat (first | (with_reducible first | exact HB.out | apply below_alloc | apply pw_below_drewN | apply below_drew1) | exact HB.out)) hb9); clear HB; have HB := n0_; clear n0_ hb9) | go_in)
  go_ret2
  exact ⟨rfl, (by repeat (first | (with_reducible first | exact HB.out | apply below_alloc | apply pw_below_drewN | apply below_drew1) | exact HB.out))⟩
set_option maxHeartbeats 8000000 in
set_option maxRecDepth 100000 in
theorem read_yes (A0 : Option Addr) (c0 : Nat) (l0 : List S39) (nm : ByteArray) (a : Int) (w : World) (hr0 : Kd.C k39 w A0 l0.length l0) (hc0 : l0.length ≤ c0) (hS : Short l0) (hn : nm.size ≤ maxLen) (hok : modelB l0 = true) (hcd : (readD l0 nm a).2 = 0) :
    Calls Try.prog 11 #[.agg #[.slice A0 l0.length c0], .string nm, .int .i64 a] w fun e w' => e = .returned (.tuple #[.string (readD l0 nm a).1, .int .i64 0]) ∧ Below w.heap.size w w' := by
  have hu29 := Try.underlying29
  have HB := Aside0.mk (Below.refl w.heap.size w)
  have HTH := Aside0.mk (fun (ga gb gt : Nat) (tx : ByteArray) (W : World) (hb : Below w.heap.size w W) (h1 : Bx W ga (.string nm) 9) (h2 : Bx W gb (.int .i64 a) 3) (h3 : Bx W gt (.string tx) 9) => thought_yes ga gb gt A0 c0 l0 nm tx a W (Kd.C_below hr0 hb) hc0 hS hn hok hcd h1 h2 h3)
  clear hr0 hc0 hS hok hn hcd
  go_enter Try.func11, Try.ntmps11
  go_wp2_with (first | ((with_reducible refine gate_dst (N := 3) rfl ?_); refine box_event ?hg (N := 3) ?hd (cs := #[.slice A0 l0.length c0]) (t := 29) ?hr ?_; (case hd => rfl); (case hg => rfl); (case hr => first | (go_simp; done) | (go_simp; rfl)); intro g2 hg w5 hbox hb; have n0_ := Aside0.mk (below_step (by repeat (first | (with_reducible first | exact HB.out | apply below_alloc | apply pw_below_drewN | apply below_drew1) | exact HB.out)) hb); have BK2 := Aside0.mk (show Bx w5 g2 (.slice A0 l0.length c0) 29 from hbox); clear HB; have HB := n0_; clear n0_ hbox hg; have hcz_1 : (((w5.alloc (Obj.cells #[.string nm] 9)).alloc (Obj.cells #[.int .i64 a] 3)).alloc (Obj.cells #[.string (⟨#[]⟩ : ByteArray)] 9)).cell? ⟨g2, 0, none⟩ = some (.slice A0 l0.length c0) := (((BK2.out.alloc _).alloc _).alloc _).cell; have HG5 := Aside0.mk hb.size; clear hb) | (go_at_call 24; refine (HTH.out _ _ _ _ _ (by repeat (first | (with_reducible first | exact HB.out | apply below_alloc | apply pw_below_drewN | apply below_drew1) | exact HB.out)) (((Bx.made w5 (.string nm) 9).alloc _).alloc _) ((Bx.made1 w5 _ (.int .i64 a) 3).alloc _) (Bx.made2 w5 _ _ (.string (⟨#[]⟩ : ByteArray)) 9)).mono ?_; rintro e w9 ⟨A, n, c, rfl, hb9, hct⟩; have qt : (w9.alloc (Obj.cells #[.slice A n c] 29)).cell? _ = _ := (((Below.refl w9.heap.size w9).alloc (Nat.le_refl _) (Obj.cells #[.slice A n c] 29)).cell (World.block_lt_of_cell? w9 _ hct)).trans hct; have n0_ := Aside0.mk (Below.trans (show Below w.heap.size w _ from (by repeat (first | (with_reducible first | exact HB.out | apply below_alloc | apply pw_below_drewN | apply below_drew1) | exact HB.out))) (hb9.mono (show w.heap.size ≤ w5.heap.size + 1 + 1 by have := HG5.out; omega))); clear HB; have HB := n0_; clear n0_ hb9 hct) | go_in)
  go_ret2
  exact ⟨rfl, (by repeat (first | (with_reducible first | exact HB.out | apply below_alloc | apply pw_below_drewN | apply below_drew1) | exact HB.out))⟩

def impl_ModelRead.f (l0 : List S39) (nm : ByteArray) (a : Int) : Option (ByteArray × Int) :=
  if l0.all (fun x => decide (x.f0.size ≤ maxLen)) = true ∧ nm.size ≤ maxLen then some (if modelB l0 = true then readD l0 nm a else ((⟨#[]⟩ : ByteArray), 4)) else none
theorem impl_ModelRead.calls (A0_0 : Option Addr) (c0_0 : Nat) (l0_0 : List S39) (a1 : ByteArray) (a2 : Int) (r1 : ByteArray) (r2 : Int) (w : World) (hr0_0 : Kd.C k39 w A0_0 l0_0.length l0_0) (hc0_0 : l0_0.length ≤ c0_0) (h : impl_ModelRead.f l0_0 a1 a2 = some (r1, r2)) :
    Calls Try.prog 11 #[.agg #[.slice A0_0 l0_0.length c0_0], .string a1, .int .i64 a2] w fun e w' => e = .returned (.tuple #[.string r1, .int .i64 r2]) ∧ Below w.heap.size w w' := by
  unfold impl_ModelRead.f at h
  split at h
  · rename_i hs
    have hS : Short l0_0 := fun x hx => of_decide_eq_true (List.all_eq_true.1 hs.1 x hx)
    have h := Option.some.inj h
    by_cases hok : modelB l0_0 = true
    · rw [if_pos hok] at h
      have h1 : (readD l0_0 a1 a2).1 = r1 := by rw [h]
      have h2 : (readD l0_0 a1 a2).2 = r2 := by rw [h]
      by_cases hcd : (readD l0_0 a1 a2).2 = 0
      · have := read_yes A0_0 c0_0 l0_0 a1 a2 w hr0_0 hc0_0 hS hs.2 hok hcd
        rw [h1, show (0 : Int) = r2 by rw [← h2, hcd]] at this
        exact this
      · have := read_no A0_0 c0_0 l0_0 a1 a2 w hr0_0 hc0_0 hS hs.2 hok hcd
        rw [← readD_text l0_0 a1 a2 hcd, h1, h2] at this
        exact this
    · rw [if_neg hok] at h
      have h1 : (⟨#[]⟩ : ByteArray) = r1 := congrArg Prod.fst h
      have h2 : (4 : Int) = r2 := congrArg Prod.snd h
      subst h1
      subst h2
      exact read_bad A0_0 c0_0 l0_0 a1 a2 w hr0_0 hc0_0 hS (by simpa using hok)
  · cases h
end Go.Proofs.Ytmfehjkcefpeoaa.Print
