/- Proved, with what follows on it: the row of the law FnSpaceTake. Conditions: the row's alone. Texts of this session and words that the kit's print laid for this seat, merged and cut by shrink.py, a program of this session. -/
import Derived.Test.YtkoimmeghdbodaaZFnSpaceTakeE
set_option linter.unusedVariables false
set_option linter.unusedSimpArgs false
namespace Go.Proofs.Ytkoimmeghdbodaa.Print
open Go.RowKit Go.Lib Go.Maps Go.WideMaps Go.Proofs.YtkoimmeghdbodaaW.PrintWords Go.Proofs.YtkoimmeghdbodaaW.PrintLast Go.Proofs.YtkoimmeghdbodaaW.PrintMore Go.Proofs.Ytkoimmeghdbodaa.Pure
theorem keepS {w w' : World} {a1 a2 a3 b1 b2 b3 : Addr} {u1 u2 u3 v1 v2 v3 : Value} (hb : Below w.heap.size w w') (h : (w.cell? a1 = some u1 ∧ w.cell? a2 = some u2 ∧ w.cell? a3 = some u3) ∧ (w.cell? b1 = some v1 ∧ w.cell? b2 = some v2 ∧ w.cell? b3 = some v3)) :
    (w'.cell? a1 = some u1 ∧ w'.cell? a2 = some u2 ∧ w'.cell? a3 = some u3) ∧ (w'.cell? b1 = some v1 ∧ w'.cell? b2 = some v2 ∧ w'.cell? b3 = some v3) := by
  have k : ∀ {a : Addr} {u : Value}, w.cell? a = some u → w'.cell? a = some u := fun h => (Below.cell hb (World.block_lt_of_cell? _ _ h)).trans h
  exact ⟨⟨k h.1.1, k h.1.2.1, k h.1.2.2⟩, k h.2.1, k h.2.2.1, k h.2.2.2⟩
def namesB (vs : List S65) : Bool := decide (∀ q, q < vs.length → nameAt vs q = true)
def ptrsB (n : Int) (ps : List S29) : Bool := decide (∀ t, t < ps.length → 0 ≤ t → ptrAt n ps t = true)
theorem namesB_no {vs : List S65} {i : Nat} (hi : i < vs.length) (h : nameAt vs i = false) : namesB vs = false := by
  unfold namesB
  rw [decide_eq_false]
  intro h2
  rw [h2 i hi] at h
  cases h
theorem ptrsB_no {n : Int} {ps : List S29} {i : Nat} (hi : i < ps.length) (h : ptrAt n ps i = false) : ptrsB n ps = false := by
  unfold ptrsB
  rw [decide_eq_false]
  intro h2
  rw [h2 i hi (Nat.zero_le _)] at h
  cases h
theorem eqStr (a b : ByteArray) : (a = b) ↔ a.toList = b.toList := by
  rw [ByteArray.toList_eq, ByteArray.toList_eq]
  constructor
  · intro h
    rw [h]
  · intro h
    exact ByteArray.ext (Array.ext' h)
set_option maxHeartbeats 16000000 in
set_option maxRecDepth 100000 in
theorem sVols_call (n tx : Int) (hn : 3 ≤ n ∧ n ≤ 4) (A0 : Option Addr) (c0 : Nat) (l0 : List S65) (w : World) (hr0 : Kd.C k65 w A0 l0.length l0) (hc0 : l0.length ≤ c0) (hF : FitM l0) (hl : l0.length ≤ 4) :
    Calls Try.prog 76 #[.int .i64 n, .agg #[.int .i64 tx, .slice A0 l0.length c0]] w fun e w' => e = .returned (.bool (namesB l0 && ptrsB n (ptrs l0))) ∧ Below w.heap.size w w' := by
  have hu57 := Try.underlying57
  have hu65 := Try.underlying65
  have hu29 := Try.underlying29
  have mixed : Try.prog.follows Departure.mixedOrders = true := by kernel_rfl
  have HB := Az.mk (Below.refl w.heap.size w)
  have HR := Az.mk hr0
  have HCC := Az.mk hc0
  have HF := Az.mk hF
  have HL := Az.mk hl
  have HN := Az.mk hn
  clear hr0 hc0 hF hl hn
  go_enter Try.func76, Try.ntmps76
  go_wp2_with (first | ((with_reducible refine zqg (N := 3) rfl ?_); refine zqb ?hg (N := 3) ?hd (cs := #[.int .i64 tx, .slice A0 l0.length c0]) (t := 57) ?hr ?_; (case hd => rfl); (case hg => rfl); (case hr => first | (go_simp; done) | (go_simp; rfl)); intro gb hg w5 hbox hb; have n0_ := Az.mk (below_step zB hb); have BR := Az.mk (show Blk w5 gb #[.int .i64 tx, .slice A0 l0.length c0] 57 from hbox); clear HB; have HB := n0_; clear n0_ hbox hb hg; have hcz_0 := (BR.out.cell 0).trans rfl; have hcz_1 := (BR.out.cell 1).trans rfl) | go_in)
  clear hcz_0 hcz_1
  go_loopg [5] l0.length (fun kq v5 wr => ∃ (i : Nat), v5 = .int .i64 (i : Int) ∧ Az (i + kq = l0.length) ∧ Az (∀ q, q < i → nameAt l0 q = true) ∧ Az (Blk wr gb #[.int .i64 tx, .slice A0 l0.length c0] 57) ∧ Az (Below w.heap.size w wr))
  case atStart => exact ⟨0, rfl, ⟨Nat.zero_add _⟩, ⟨fun q h => by omega⟩, BR, HB⟩
  case round =>
    obtain ⟨i, rfl, HI, HQ, BR, HB⟩ := hrel
    have hcz_0 := (BR.out.cell 0).trans rfl
    have hcz_1 := (BR.out.cell 1).trans rfl
    by_cases e1 : i < l0.length
    · have e1b : decide ((i : Int) < (l0.length : Int)) = true := decide_eq_true (by omega)
      have p1 := eq_true (show (0 : Int) ≤ (i : Int) by omega)
      have q1 := eq_true (show (i : Int) < (l0.length : Int) by omega)
      have HE1 := Az.mk e1
      obtain ⟨ad, A1, c1, eA, hx_0, hx_1, hl1, hi1⟩ := at_T65 (Kd.C_below HR.out HB.out) (i : Int) (by omega) (by omega)
      subst eA
      simp only [Int.toNat_natCast, rd_T65] at hx_0 hx_1
      obtain ⟨x, hX⟩ : ∃ x, x = l0.getD i z65 := ⟨_, rfl⟩
      rw [← hX] at hx_0 hx_1
      have HX := Az.mk hX
      obtain ⟨kn, hkn⟩ := Ev.rounds (l2Name_ev x.f0)
      have HNM := Az.mk (fun W => spec_l2Name.calls kn x.f0 (volB x.f0) W hkn)
      clear hX hl1 hi1 hkn e1
      cases hv : volB x.f0 with
      | false =>
        rw [hv] at HNM
        have HNO : Az (namesB l0 = false) := ⟨namesB_no HE1.out (by unfold nameAt; rw [← HX.out, hv]; rfl)⟩
        clear hv
        go_wp2_with (first | (go_at_call 98; refine (HNM.out _).mono ?_; rintro e w23 ⟨rfl, hd⟩; have hb := hd.below; have BR2 := Az.mk (BR.out.below hb); have HB2 := Az.mk (HB.out.trans (hb.mono HB.out.size)); clear BR HB hcz_0 hcz_1; have BR := BR2; have HB := HB2; clear BR2 HB2; have hcz_0 := (BR.out.cell 0).trans rfl; have hcz_1 := (BR.out.cell 1).trans rfl; have h0_ := (Below.cell hb (World.block_lt_of_cell? _ _ hx_0)).trans hx_0; have h1_ := (Below.cell hb (World.block_lt_of_cell? _ _ hx_1)).trans hx_1; clear hx_0 hx_1; have hx_0 := h0_; have hx_1 := h1_; clear h0_ h1_; clear hb hd) | go_in)
        go_ret
        exact ⟨by rw [HNO.out]; rfl, HB.out⟩
      | true =>
        rw [hv] at HNM
        by_cases h3 : x.f1.length = 3
        · have h3b : decide ((x.f1.length : Int) = 3) = true := decide_eq_true (by omega)
          have h3c : ((x.f1.length : Int) == 3) = true := by rw [beq_iff_eq]; omega
          have h3d : ((x.f1.length : Int) = 3) := by omega
          have HV := Az.mk hv
          have H3 := Az.mk h3
          have HWi : Az (wrap64 ((i : Int) + 1) = ((i + 1 : Nat) : Int)) := ⟨by rw [Pure.wrap_ok (by have := HL.out; have := HE1.out; omega)]; omega⟩
          obtain ⟨go, hgo⟩ : ∃ go, go = gk := ⟨_, rfl⟩
          subst hgo
          clear hv h3
          go_wp2_with (first | (go_at_call 98; refine (HNM.out _).mono ?_; rintro e w23 ⟨rfl, hd⟩; have hb := hd.below; have BR2 := Az.mk (BR.out.below hb); have HB2 := Az.mk (HB.out.trans (hb.mono HB.out.size)); clear BR HB hcz_0 hcz_1; have BR := BR2; have HB := HB2; clear BR2 HB2; have hcz_0 := (BR.out.cell 0).trans rfl; have hcz_1 := (BR.out.cell 1).trans rfl; have h0_ := (Below.cell hb (World.block_lt_of_cell? _ _ hx_0)).trans hx_0; have h1_ := (Below.cell hb (World.block_lt_of_cell? _ _ hx_1)).trans hx_1; clear hx_0 hx_1; have hx_0 := h0_; have hx_1 := h1_; clear h0_ h1_; clear hb hd) | go_in)
          clear hx_0 hx_1 h3b h3c h3d hcz_0 hcz_1
          go_loopg [6] i (fun kq v6 wr => ∃ (j : Nat), v6 = .int .i64 (j : Int) ∧ Az (j + kq = i) ∧ Az (∀ q, q < j → (l0.getD q z65).f0.toList ≠ x.f0.toList) ∧ Az (Blk wr gb #[.int .i64 tx, .slice (some ad) l0.length c0] 57) ∧ Az (Below w.heap.size w wr))
          case atStart => exact ⟨0, rfl, ⟨Nat.zero_add _⟩, ⟨fun q h => by omega⟩, BR, HB⟩
          case round =>
            obtain ⟨j, rfl, HJ, HD, BR, HB⟩ := hrel
            have hcz_0 := (BR.out.cell 0).trans rfl
            have hcz_1 := (BR.out.cell 1).trans rfl
            by_cases e2 : j < i
            · have e2b : decide ((j : Int) < (i : Int)) = true := decide_eq_true (by omega)
              have p2 := eq_true (show (0 : Int) ≤ (j : Int) by omega)
              have q2 := eq_true (show (j : Int) < (l0.length : Int) by have := HE1.out; omega)
              have HE2 := Az.mk e2
              have HWj : Az (wrap64 ((j : Int) + 1) = ((j + 1 : Nat) : Int)) := ⟨by rw [Pure.wrap_ok (by have := HL.out; have := HE1.out; omega)]; omega⟩
              obtain ⟨_, _, _, eA, hx_0, _, _, _⟩ := at_T65 (Kd.C_below HR.out HB.out) (i : Int) (by omega) (by have := HE1.out; omega)
              cases eA
              obtain ⟨_, _, _, eA, hy_0, _, _, _⟩ := at_T65 (Kd.C_below HR.out HB.out) (j : Int) (by omega) (by have := HE1.out; omega)
              cases eA
              simp only [Int.toNat_natCast, rd_T65] at hx_0 hy_0
              rw [← HX.out] at hx_0
              obtain ⟨y, hY⟩ : ∃ y, y = l0.getD j z65 := ⟨_, rfl⟩
              rw [← hY] at hy_0
              have HY := Az.mk hY
              have HDR : Az (Below wr.heap.size wr wr.drew) := ⟨(Below.refl _ _).drew⟩
              clear hY
              cases esd : (y.f0.toList == x.f0.toList) with
              | true =>
                have es := beq_iff_eq.1 esd
                have ES : y.f0 = x.f0 := (eqStr _ _).2 es
                have HNO : Az (namesB l0 = false) := ⟨namesB_no HE1.out (by
                  unfold nameAt
                  rw [← HX.out, Bool.and_eq_false_iff, Bool.and_eq_false_iff, decide_eq_false_iff_not, decide_eq_false_iff_not]
                  exact Or.inr (Or.inr fun h => h j HE2.out (by rw [← HY.out]; exact es)))⟩
                clear es ES
                go_wp2_with fail
                refine start_ (n := 13) (S := fun w' => (w'.cell? ⟨gb, 0, none⟩ = some (.int .i64 tx) ∧ w'.cell? ⟨gb, 1, none⟩ = some (.slice (some ad) l0.length c0)) ∧ w'.cell? (ad.add (i * 2)) = some (.string x.f0) ∧ w'.cell? (ad.add (j * 2)) = some (.string y.f0)) (ds := []) (bm 13 0) (by kernel_rfl) rfl rfl (⟨⟨hcz_0, hcz_1⟩, hx_0, hy_0⟩) (fun hHeld => ?_)
                refine zP 0 (some 40) (bm 13 1) ?_
                refine zP 2 (some 42) (bm 13 5) ?_
                refine zP 6 (some 46) (bm 13 69) ?_
                refine zP 8 (some 48) (bm 13 325) ?_
                refine zU 1 (some 41) (bm 13 327) rfl hHeld (Or.inl ⟨by rfl, by rintro w' ⟨⟨s0, s1⟩, s2, s3⟩; go_simp; with_reducible rfl⟩) ?_
                refine zP 3 (some 43) (bm 13 335) ?_
                refine zP 4 (some 44) (bm 13 351) ?_
                refine zU 5 (some 45) (bm 13 383) rfl hHeld (Or.inl ⟨by rfl, by rintro w' ⟨⟨s0, s1⟩, s2, s3⟩; go_simp; with_reducible rfl⟩) ?_
                refine zU 7 (some 47) (bm 13 511) rfl hHeld (Or.inl ⟨by rfl, by rintro w' ⟨⟨s0, s1⟩, s2, s3⟩; go_simp; with_reducible rfl⟩) ?_
                refine zP 9 (some 49) (bm 13 1023) ?_
                refine zP 10 (some 50) (bm 13 2047) ?_
                refine zU 11 (some 51) (bm 13 4095) rfl hHeld (Or.inl ⟨by rfl, by rintro w' ⟨⟨s0, s1⟩, s2, s3⟩; go_simp; with_reducible rfl⟩) ?_
                refine zP 12 (some 52) (bm 13 8191) ?_
                refine done_ (by kernel_rfl) ?_
                go_wp2
                go_ret
                exact ⟨by rw [HNO.out]; rfl, HB.out.trans (HDR.out.mono HB.out.size)⟩
              | false =>
                have HES := Az.mk (beq_eq_false_iff_ne.1 esd)
                go_wp2_with fail
                refine start_ (n := 13) (S := fun w' => (w'.cell? ⟨gb, 0, none⟩ = some (.int .i64 tx) ∧ w'.cell? ⟨gb, 1, none⟩ = some (.slice (some ad) l0.length c0)) ∧ w'.cell? (ad.add (i * 2)) = some (.string x.f0) ∧ w'.cell? (ad.add (j * 2)) = some (.string y.f0)) (ds := []) (bm 13 0) (by kernel_rfl) rfl rfl (⟨⟨hcz_0, hcz_1⟩, hx_0, hy_0⟩) (fun hHeld => ?_)
                refine zP 0 (some 40) (bm 13 1) ?_
                refine zP 2 (some 42) (bm 13 5) ?_
                refine zP 6 (some 46) (bm 13 69) ?_
                refine zP 8 (some 48) (bm 13 325) ?_
                refine zU 1 (some 41) (bm 13 327) rfl hHeld (Or.inl ⟨by rfl, by rintro w' ⟨⟨s0, s1⟩, s2, s3⟩; go_simp; with_reducible rfl⟩) ?_
                refine zP 3 (some 43) (bm 13 335) ?_
                refine zP 4 (some 44) (bm 13 351) ?_
                refine zU 5 (some 45) (bm 13 383) rfl hHeld (Or.inl ⟨by rfl, by rintro w' ⟨⟨s0, s1⟩, s2, s3⟩; go_simp; with_reducible rfl⟩) ?_
                refine zU 7 (some 47) (bm 13 511) rfl hHeld (Or.inl ⟨by rfl, by rintro w' ⟨⟨s0, s1⟩, s2, s3⟩; go_simp; with_reducible rfl⟩) ?_
                refine zP 9 (some 49) (bm 13 1023) ?_
                refine zP 10 (some 50) (bm 13 2047) ?_
                refine zU 11 (some 51) (bm 13 4095) rfl hHeld (Or.inl ⟨by rfl, by rintro w' ⟨⟨s0, s1⟩, s2, s3⟩; go_simp; with_reducible rfl⟩) ?_
                refine zP 12 (some 52) (bm 13 8191) ?_
                refine done_ (by kernel_rfl) ?_
                go_wp2
                go_roundg (i - (j + 1))
                case measure => have := HJ.out; have := HE2.out; omega
                case rel => exact ⟨j + 1, by rw [← HWj.out], ⟨by have := HE2.out; omega⟩, ⟨fun q hq => by
                    by_cases e : q = j
                    · rw [e, ← HY.out]; exact HES.out
                    · exact HD.out q (by omega)⟩, ⟨BR.out.below HDR.out⟩, ⟨HB.out.trans (HDR.out.mono HB.out.size)⟩⟩
            · have e2b : decide ((j : Int) < (i : Int)) = false := decide_eq_false (by omega)
              have hj : j = i := by have := HJ.out; omega
              have HOK : Az (nameAt l0 i = true) := ⟨by
                unfold nameAt
                rw [← HX.out, HV.out, decide_eq_true H3.out, decide_eq_true (fun q hq => HD.out q (by omega))]
                rfl⟩
              clear hj
              go_wp2
              go_roundg (l0.length - (i + 1))
              case measure => have := HI.out; have := HE1.out; omega
              case rel => exact ⟨i + 1, by rw [← HWi.out], ⟨by have := HE1.out; omega⟩, ⟨fun q hq => by
                  by_cases e : q = i
                  · rw [e]; exact HOK.out
                  · exact HQ.out q (by omega)⟩, BR, HB⟩
        · have h3b : decide ((x.f1.length : Int) = 3) = false := decide_eq_false (by omega)
          have h3c : ((x.f1.length : Int) == 3) = false := by rw [beq_eq_false_iff_ne]; omega
          have h3d : ¬ ((x.f1.length : Int) = 3) := by omega
          have HNO : Az (namesB l0 = false) := ⟨namesB_no HE1.out (by
            unfold nameAt
            rw [← HX.out, decide_eq_false h3, Bool.false_and, Bool.and_false])⟩
          clear hv h3
          go_wp2_with (first | (go_at_call 98; refine (HNM.out _).mono ?_; rintro e w23 ⟨rfl, hd⟩; have hb := hd.below; have BR2 := Az.mk (BR.out.below hb); have HB2 := Az.mk (HB.out.trans (hb.mono HB.out.size)); clear BR HB hcz_0 hcz_1; have BR := BR2; have HB := HB2; clear BR2 HB2; have hcz_0 := (BR.out.cell 0).trans rfl; have hcz_1 := (BR.out.cell 1).trans rfl; have h0_ := (Below.cell hb (World.block_lt_of_cell? _ _ hx_0)).trans hx_0; have h1_ := (Below.cell hb (World.block_lt_of_cell? _ _ hx_1)).trans hx_1; clear hx_0 hx_1; have hx_0 := h0_; have hx_1 := h1_; clear h0_ h1_; clear hb hd) | go_in)
          go_ret
          exact ⟨by rw [HNO.out]; rfl, HB.out⟩
    · have e1b : decide ((i : Int) < (l0.length : Int)) = false := decide_eq_false (by omega)
      have hi : i = l0.length := by have := HI.out; omega
      have hnm : namesB l0 = true := decide_eq_true (by rw [← hi]; exact HQ.out)
      have HNM := Az.mk hnm
      have hnn : ∀ x ∈ l0, x.f1.length = 3 := fun x hx => by
        obtain ⟨q, hq, rfl⟩ := List.getElem_of_mem hx
        have := HQ.out q (by omega)
        unfold nameAt at this
        rw [Bool.and_eq_true, Bool.and_eq_true, decide_eq_true_iff] at this
        simpa [List.getD, hq] using this.2.1
      obtain ⟨ka, hka⟩ := Ev.rounds (all_ev tx l0 HL.out hnn)
      have HPT := Az.mk (fun (W : World) (hb : Below w.heap.size w W) => spec_l2All.calls ka tx (fun k_ => k_ < w.heap.size) A0 c0 l0 (ptrs l0) W (Kd.V_mk HCC.out (Kd.F_below (Kd.C_F k65_heap HR.out) hb)) hka)
      have hpn : (ptrs l0).length ≤ 12 := by
        have := ptrs_take_len hnn l0.length (Nat.le_refl _)
        rw [List.take_length] at this
        have := HL.out
        omega
      have hpF : ∀ p ∈ ptrs l0, p.f2.length ≤ 1048576 := fun p hp => by
        obtain ⟨x, hx, h⟩ := List.mem_flatMap.1 hp
        exact HF.out.places x hx p h
      have HNMT : Az (∀ b, (namesB l0 && b) = b) := ⟨fun b => by rw [HNM.out]; rfl⟩
      obtain ⟨res, hres⟩ : ∃ r, r = (namesB l0 && ptrsB n (ptrs l0)) := ⟨_, rfl⟩
      have HRES : Az ((namesB l0 && ptrsB n (ptrs l0)) = ptrsB n (ptrs l0)) := ⟨HNMT.out _⟩
      obtain ⟨ps, hps⟩ : ∃ ps, ps = ptrs l0 := ⟨_, rfl⟩
      rw [← hps] at HPT hpn hpF HRES
      have HPLN := Az.mk hpn
      have HPF := Az.mk hpF
      have HPS := Az.mk hps
      clear hi hnm hnn hka hpn hpF hres hps HQ
      go_wp2_with (first | (go_at_call 86; refine (HPT.out _ HB.out).mono ?_; rintro e w54 ⟨v, rfl, hN, hb⟩; obtain ⟨A1, c1, rfl, hl1, hC1⟩ := Kd.N_reads hN; have HC1 := Az.mk hC1; have HB2 := Az.mk (HB.out.trans (hb.mono HB.out.size)); clear HB hcz_0 hcz_1 BR hN hl1 hC1 hb; have HBW := HB2; clear HB2) | go_in)
      go_loopg [8] ps.length (fun kq v8 wr => ∃ (i : Nat), v8 = .int .i64 (i : Int) ∧ Az (i + kq = ps.length) ∧ Az (∀ t, t < i → ptrAt n ps t = true) ∧ Az (Below w54.heap.size w54 wr))
      case atStart => exact ⟨0, rfl, ⟨Nat.zero_add _⟩, ⟨fun q h => by omega⟩, ⟨Below.refl _ _⟩⟩
      case round =>
        obtain ⟨i, rfl, HI, HQ, HB⟩ := hrel
        by_cases e1 : i < ps.length
        · have e1b : decide ((i : Int) < (ps.length : Int)) = true := decide_eq_true (by omega)
          have p1 := eq_true (show (0 : Int) ≤ (i : Int) by omega)
          have q1 := eq_true (show (i : Int) < (ps.length : Int) by omega)
          have HE1 := Az.mk e1
          have HWi : Az (wrap64 ((i : Int) + 1) = ((i + 1 : Nat) : Int)) := ⟨by rw [Pure.wrap_ok (by have := HPLN.out; omega)]; omega⟩
          obtain ⟨ad, A2, c2, eA, hx_0, hx_1, hx_2, hl2, hC2⟩ := at_T29 (Kd.C_below HC1.out HB.out) (i : Int) (by omega) (by omega)
          subst eA
          simp only [Int.toNat_natCast, rd_T29] at hx_0 hx_1 hx_2 hl2 hC2
          have hpi := HPF.out _ (getD_mem (z := z29) e1)
          obtain ⟨p, hP⟩ : ∃ p, p = ps.getD i z29 := ⟨_, rfl⟩
          rw [← hP] at hx_0 hx_1 hx_2 hl2 hC2 hpi
          have HP := Az.mk hP
          have hq := spec_l2Ptr_ev HN.out p.f0 p.f1 p.f2 (by omega)
          have ec : @decide (PtrGood n p.f0 p.f1 p.f2) (Classical.propDecidable _) = decide (PtrGood n p.f0 p.f1 p.f2) := decide_eq_decide.2 Iff.rfl
          rw [ec] at hq
          obtain ⟨kp, hkp⟩ := Ev.rounds hq
          have HL2 := Az.mk hl2
          have HC2 := Az.mk hC2
          have hBI := HB.out
          obtain ⟨wi, hwi⟩ : ∃ wi, wi = wr := ⟨_, rfl⟩
          rw [← hwi] at HC2 hBI
          have HBI : Az (∀ W, Below wr.heap.size wr W → Kd.C k37 W A2 p.f2.length p.f2) := ⟨fun W hb => Kd.C_below hC2 hb⟩
          have HPK := Az.mk (fun (W : World) (hb : Below w54.heap.size w54 W) (hC : Kd.C k37 W A2 p.f2.length p.f2) => spec_l2Ptr.calls kp n p.f0 p.f1 A2 c2 p.f2 _ W hC hl2 hkp)
          have HPI := Az.mk hpi
          clear hP hl2 hq ec hkp hBI hwi hpi
          by_cases hg : PtrGood n p.f0 p.f1 p.f2
          · rw [decide_eq_true hg] at HPK
            have HGC : Az (ptrC n p = true) := ⟨decide_eq_true ⟨HN.out, hg⟩⟩
            obtain ⟨go, hgo⟩ : ∃ go, go = gk := ⟨_, rfl⟩
            subst hgo
            clear hg
            go_wp2_with (first | (go_at_call 54; refine (HPK.out _ HB.out (HBI.out _ (Below.refl _ _))).mono ?_; rintro e w66 ⟨rfl, hb⟩; have HB2 := Az.mk (HB.out.trans (hb.mono HB.out.size)); clear HB hb; have HB := HB2; clear HB2) | go_in)
            clear hx_0 hx_1 hx_2 hC2 HBI
            go_loopg [9] i (fun kq v9 wr => ∃ (j : Nat), v9 = .int .i64 (j : Int) ∧ Az (j + kq = i) ∧ Az (∀ t, t < j → pairB p (ps.getD t z29) = true) ∧ Az (Below w54.heap.size w54 wr))
            case atStart => exact ⟨0, rfl, ⟨Nat.zero_add _⟩, ⟨fun q h => by omega⟩, HB⟩
            case round =>
              obtain ⟨j, rfl, HJ, HD, HB⟩ := hrel
              by_cases e2 : j < i
              · have e2b : decide ((j : Int) < (i : Int)) = true := decide_eq_true (by omega)
                have p2 := eq_true (show (0 : Int) ≤ (j : Int) by omega)
                have q2 := eq_true (show (j : Int) < (ps.length : Int) by have := HE1.out; omega)
                have HE2 := Az.mk e2
                have HWj : Az (wrap64 ((j : Int) + 1) = ((j + 1 : Nat) : Int)) := ⟨by rw [Pure.wrap_ok (by have := HPLN.out; have := HE1.out; omega)]; omega⟩
                obtain ⟨_, A2, c2, eA, hx_0, hx_1, hx_2, hl2, hC2⟩ := at_T29 (Kd.C_below HC1.out HB.out) (i : Int) (by omega) (by have := HE1.out; omega)
                cases eA
                obtain ⟨_, B2, d2, eA, hy_0, hy_1, hy_2, hm2, hD2⟩ := at_T29 (Kd.C_below HC1.out HB.out) (j : Int) (by omega) (by have := HE1.out; omega)
                cases eA
                simp only [Int.toNat_natCast, rd_T29] at hx_0 hx_1 hx_2 hl2 hC2 hy_0 hy_1 hy_2 hm2 hD2
                rw [← HP.out] at hx_0 hx_1 hx_2 hl2 hC2
                have hpj := HPF.out _ (getD_mem (z := z29) (i := j) (l := ps) (by have := HE1.out; omega))
                obtain ⟨q, hQ⟩ : ∃ q, q = ps.getD j z29 := ⟨_, rfl⟩
                rw [← hQ] at hy_0 hy_1 hy_2 hm2 hD2 hpj
                have HQ2 := Az.mk hQ
                obtain ⟨km, hkm⟩ := Ev.rounds (meet_ev p q HPI.out hpj)
                obtain ⟨ks, hks⟩ := Ev.rounds (specSame_ev p q HPI.out)
                have HME : Az (∀ W, Below wr.heap.size wr W → Calls Try.prog 87 #[.agg #[.int .i64 p.f0, .int .i64 p.f1, .slice A2 p.f2.length c2], .agg #[.int .i64 q.f0, .int .i64 q.f1, .slice B2 q.f2.length d2]] W fun e w' => e = .returned (.bool (meetB p.f2 q.f2)) ∧ Below W.heap.size W w') := ⟨fun W hb => spec_l2Meet.calls km p.f0 p.f1 A2 c2 p.f2 q.f0 q.f1 B2 d2 q.f2 _ W (Kd.C_below hC2 hb) hl2 (Kd.C_below hD2 hb) hm2 hkm⟩
                have HSA : Az (∀ W, Below wr.heap.size wr W → Calls Try.prog 99 #[.agg #[.int .i64 p.f0, .int .i64 p.f1, .slice A2 p.f2.length c2], .agg #[.int .i64 q.f0, .int .i64 q.f1, .slice B2 q.f2.length d2]] W fun e w' => e = .returned (.bool (sameB p q)) ∧ Below W.heap.size W w') := ⟨fun W hb => spec_l2Same.calls ks p.f0 p.f1 A2 c2 p.f2 q.f0 q.f1 B2 d2 q.f2 _ W (Kd.C_below hC2 hb) hl2 (Kd.C_below hD2 hb) hm2 hks⟩
                have HB0 := Az.mk HB.out
                obtain ⟨w0, hw0⟩ : ∃ w0, w0 = wr := ⟨_, rfl⟩
                have HBZ : Az (Below w54.heap.size w54 wr) := HB
                clear HB
                have HB := Az.mk (Below.refl wr.heap.size wr)
                clear hQ hkm hks hl2 hC2 hm2 hD2 hpj hw0 HB0
                cases hme : meetB p.f2 q.f2 with
                | false =>
                  rw [hme] at HME
                  have HPB : Az (pairB p q = true) := ⟨by unfold pairB; rw [hme]; rfl⟩
                  clear hme
                  go_wp2_with fail
                  refine start_ (n := 21) (S := fun w' => (w'.cell? (ad.add (i * 3)) = some (.int .i64 p.f0) ∧ w'.cell? ⟨(ad.add (i * 3)).block, (ad.add (i * 3)).off + 1, none⟩ = some (.int .i64 p.f1) ∧ w'.cell? ⟨(ad.add (i * 3)).block, (ad.add (i * 3)).off + 2, none⟩ = some (.slice A2 p.f2.length c2)) ∧ (w'.cell? (ad.add (j * 3)) = some (.int .i64 q.f0) ∧ w'.cell? ⟨(ad.add (j * 3)).block, (ad.add (j * 3)).off + 1, none⟩ = some (.int .i64 q.f1) ∧ w'.cell? ⟨(ad.add (j * 3)).block, (ad.add (j * 3)).off + 2, none⟩ = some (.slice B2 q.f2.length d2))) (ds := []) (bm 21 0) (by kernel_rfl) rfl rfl (⟨⟨hx_0, hx_1, hx_2⟩, hy_0, hy_1, hy_2⟩) (fun hHeld => ?_)
                  have HB2 := Az.mk (HB.out.drew)
                  clear HB
                  have HB := HB2
                  clear HB2
                  generalize wr.drew = wd at HB hHeld ⊢
                  refine zP 0 (some 73) (bm 21 1) ?_
                  refine zP 1 (some 74) (bm 21 3) ?_
                  refine zP 2 (some 75) (bm 21 7) ?_
                  refine zP 4 (some 77) (bm 21 23) ?_
                  refine zP 5 (some 78) (bm 21 55) ?_
                  refine zP 6 (some 79) (bm 21 119) ?_
                  refine zU 3 (some 76) (bm 21 127) rfl hHeld (Or.inl ⟨by rfl, by rintro w' ⟨⟨s0, s1, s2⟩, s3, s4, s5⟩; go_simp; with_reducible rfl⟩) ?_
                  refine zU 7 (some 80) (bm 21 255) rfl hHeld (Or.inl ⟨by rfl, by rintro w' ⟨⟨s0, s1, s2⟩, s3, s4, s5⟩; go_simp; with_reducible rfl⟩) ?_
                  refine one_ (i := 8) (N := some 81) (bm 21 511) rfl rfl (by kernel_rfl) (by decide) (fun K hK => ?_)
                  refine goes_ Try.func87 (by kernel_rfl) rfl #[.agg #[.int .i64 p.f0, .int .i64 p.f1, .slice A2 p.f2.length c2], .agg #[.int .i64 q.f0, .int .i64 q.f1, .slice B2 q.f2.length d2]] (by rfl) rfl rfl (by (try simp only [List.map_toArray, List.map_cons, List.map_nil]); first | done | rfl) ?_
                  refine (HME.out _ HB.out).mono ?_
                  rintro e w81 ⟨rfl, hb⟩
                  refine ⟨_, rfl, ?_⟩
                  have HS2 := keepS hb hHeld
                  have HB2 := Az.mk (HB.out.trans (hb.mono HB.out.size))
                  clear HB
                  have HB := HB2
                  clear HB2
                  refine hK.out _ _ HS2 (fun hHeld => ?_)
                  clear HS2
                  clear hK K
                  refine norm_ (a' := ?_) ?_ ?_
                  rotate_left
                  · show Act.put _ (some 81) _ = _
                    simp only [Act.put, zs1, zs2, zs3, i64_w, i32_w]
                    rfl
                  refine zP 9 (some 82) (bm 21 1023) ?_
                  refine zO 10 (some 83) (bm 21 2047) ?_
                  refine zO 11 (some 84) (bm 21 4095) ?_
                  refine zO 12 (some 85) (bm 21 8191) ?_
                  refine zO 13 (some 86) (bm 21 16383) ?_
                  refine zO 14 (some 87) (bm 21 32767) ?_
                  refine zO 15 (some 88) (bm 21 65535) ?_
                  refine zO 16 (some 89) (bm 21 131071) ?_
                  refine zO 17 (some 90) (bm 21 262143) ?_
                  refine zO 18 (some 91) (bm 21 524287) ?_
                  refine zO 19 (some 92) (bm 21 1048575) ?_
                  refine zP 20 (some 93) (bm 21 2097151) ?_
                  refine done_ (by kernel_rfl) ?_
                  have HB2 := Az.mk (HBZ.out.trans (HB.out.mono HBZ.out.size))
                  clear HB
                  have HB := HB2
                  go_wp2
                  go_roundg (i - (j + 1))
                  case measure => have := HJ.out; have := HE2.out; omega
                  case rel => exact ⟨j + 1, by rw [← HWj.out], ⟨by have := HE2.out; omega⟩, ⟨fun t ht => by
                      by_cases e : t = j
                      · rw [e, ← HQ2.out]; exact HPB.out
                      · exact HD.out t (by omega)⟩, HB⟩
                | true =>
                  rw [hme] at HME
                  cases hsa : sameB p q with
                  | true =>
                    rw [hsa] at HSA
                    have HPB : Az (pairB p q = true) := ⟨by unfold pairB; rw [hsa]; simp⟩
                    clear hme hsa
                    go_wp2_with fail
                    refine start_ (n := 21) (S := fun w' => (w'.cell? (ad.add (i * 3)) = some (.int .i64 p.f0) ∧ w'.cell? ⟨(ad.add (i * 3)).block, (ad.add (i * 3)).off + 1, none⟩ = some (.int .i64 p.f1) ∧ w'.cell? ⟨(ad.add (i * 3)).block, (ad.add (i * 3)).off + 2, none⟩ = some (.slice A2 p.f2.length c2)) ∧ (w'.cell? (ad.add (j * 3)) = some (.int .i64 q.f0) ∧ w'.cell? ⟨(ad.add (j * 3)).block, (ad.add (j * 3)).off + 1, none⟩ = some (.int .i64 q.f1) ∧ w'.cell? ⟨(ad.add (j * 3)).block, (ad.add (j * 3)).off + 2, none⟩ = some (.slice B2 q.f2.length d2))) (ds := []) (bm 21 0) (by kernel_rfl) rfl rfl (⟨⟨hx_0, hx_1, hx_2⟩, hy_0, hy_1, hy_2⟩) (fun hHeld => ?_)
                    have HB2 := Az.mk (HB.out.drew)
                    clear HB
                    have HB := HB2
                    clear HB2
                    generalize wr.drew = wd at HB hHeld ⊢
                    refine zP 0 (some 73) (bm 21 1) ?_
                    refine zP 1 (some 74) (bm 21 3) ?_
                    refine zP 2 (some 75) (bm 21 7) ?_
                    refine zP 4 (some 77) (bm 21 23) ?_
                    refine zP 5 (some 78) (bm 21 55) ?_
                    refine zP 6 (some 79) (bm 21 119) ?_
                    refine zU 3 (some 76) (bm 21 127) rfl hHeld (Or.inl ⟨by rfl, by rintro w' ⟨⟨s0, s1, s2⟩, s3, s4, s5⟩; go_simp; with_reducible rfl⟩) ?_
                    refine zU 7 (some 80) (bm 21 255) rfl hHeld (Or.inl ⟨by rfl, by rintro w' ⟨⟨s0, s1, s2⟩, s3, s4, s5⟩; go_simp; with_reducible rfl⟩) ?_
                    refine one_ (i := 8) (N := some 81) (bm 21 511) rfl rfl (by kernel_rfl) (by decide) (fun K hK => ?_)
                    refine goes_ Try.func87 (by kernel_rfl) rfl #[.agg #[.int .i64 p.f0, .int .i64 p.f1, .slice A2 p.f2.length c2], .agg #[.int .i64 q.f0, .int .i64 q.f1, .slice B2 q.f2.length d2]] (by rfl) rfl rfl (by (try simp only [List.map_toArray, List.map_cons, List.map_nil]); first | done | rfl) ?_
                    refine (HME.out _ HB.out).mono ?_
                    rintro e w81 ⟨rfl, hb⟩
                    refine ⟨_, rfl, ?_⟩
                    have HS2 := keepS hb hHeld
                    have HB2 := Az.mk (HB.out.trans (hb.mono HB.out.size))
                    clear HB
                    have HB := HB2
                    clear HB2
                    refine hK.out _ _ HS2 (fun hHeld => ?_)
                    clear HS2
                    clear hK K
                    refine norm_ (a' := ?_) ?_ ?_
                    rotate_left
                    · show Act.put _ (some 81) _ = _
                      simp only [Act.put, zs1, zs2, zs3, i64_w, i32_w]
                      rfl
                    refine zP 9 (some 82) (bm 21 1023) ?_
                    refine zP 10 (some 83) (bm 21 2047) ?_
                    refine zP 11 (some 84) (bm 21 4095) ?_
                    refine zP 12 (some 85) (bm 21 8191) ?_
                    refine zP 14 (some 87) (bm 21 24575) ?_
                    refine zP 15 (some 88) (bm 21 57343) ?_
                    refine zP 16 (some 89) (bm 21 122879) ?_
                    refine zU 13 (some 86) (bm 21 131071) rfl hHeld (Or.inl ⟨by rfl, by rintro w' ⟨⟨s0, s1, s2⟩, s3, s4, s5⟩; go_simp; with_reducible rfl⟩) ?_
                    refine zU 17 (some 90) (bm 21 262143) rfl hHeld (Or.inl ⟨by rfl, by rintro w' ⟨⟨s0, s1, s2⟩, s3, s4, s5⟩; go_simp; with_reducible rfl⟩) ?_
                    refine one_ (i := 18) (N := some 91) (bm 21 524287) rfl rfl (by kernel_rfl) (by decide) (fun K hK => ?_)
                    refine goes_ Try.func99 (by kernel_rfl) rfl #[.agg #[.int .i64 p.f0, .int .i64 p.f1, .slice A2 p.f2.length c2], .agg #[.int .i64 q.f0, .int .i64 q.f1, .slice B2 q.f2.length d2]] (by rfl) rfl rfl (by (try simp only [List.map_toArray, List.map_cons, List.map_nil]); first | done | rfl) ?_
                    refine (HSA.out _ HB.out).mono ?_
                    rintro e w91 ⟨rfl, hb⟩
                    refine ⟨_, rfl, ?_⟩
                    have HS2 := keepS hb hHeld
                    have HB2 := Az.mk (HB.out.trans (hb.mono HB.out.size))
                    clear HB
                    have HB := HB2
                    clear HB2
                    refine hK.out _ _ HS2 (fun hHeld => ?_)
                    clear HS2
                    clear hK K
                    refine norm_ (a' := ?_) ?_ ?_
                    rotate_left
                    · show Act.put _ (some 91) _ = _
                      simp only [Act.put, zs1, zs2, zs3, i64_w, i32_w]
                      rfl
                    refine zP 19 (some 92) (bm 21 1048575) ?_
                    refine zP 20 (some 93) (bm 21 2097151) ?_
                    refine done_ (by kernel_rfl) ?_
                    have HB2 := Az.mk (HBZ.out.trans (HB.out.mono HBZ.out.size))
                    clear HB
                    have HB := HB2
                    go_wp2
                    go_roundg (i - (j + 1))
                    case measure => have := HJ.out; have := HE2.out; omega
                    case rel => exact ⟨j + 1, by rw [← HWj.out], ⟨by have := HE2.out; omega⟩, ⟨fun t ht => by
                        by_cases e : t = j
                        · rw [e, ← HQ2.out]; exact HPB.out
                        · exact HD.out t (by omega)⟩, HB⟩
                  | false =>
                    rw [hsa] at HSA
                    have HNO : Az (ptrsB n ps = false) := ⟨ptrsB_no HE1.out (by
                      unfold ptrAt
                      rw [← HP.out, Bool.and_eq_false_iff, decide_eq_false_iff_not]
                      right
                      intro h
                      have := h j HE2.out
                      rw [← HQ2.out] at this
                      unfold pairB at this
                      rw [hme, hsa] at this
                      cases this)⟩
                    clear hme hsa
                    go_wp2_with fail
                    refine start_ (n := 21) (S := fun w' => (w'.cell? (ad.add (i * 3)) = some (.int .i64 p.f0) ∧ w'.cell? ⟨(ad.add (i * 3)).block, (ad.add (i * 3)).off + 1, none⟩ = some (.int .i64 p.f1) ∧ w'.cell? ⟨(ad.add (i * 3)).block, (ad.add (i * 3)).off + 2, none⟩ = some (.slice A2 p.f2.length c2)) ∧ (w'.cell? (ad.add (j * 3)) = some (.int .i64 q.f0) ∧ w'.cell? ⟨(ad.add (j * 3)).block, (ad.add (j * 3)).off + 1, none⟩ = some (.int .i64 q.f1) ∧ w'.cell? ⟨(ad.add (j * 3)).block, (ad.add (j * 3)).off + 2, none⟩ = some (.slice B2 q.f2.length d2))) (ds := []) (bm 21 0) (by kernel_rfl) rfl rfl (⟨⟨hx_0, hx_1, hx_2⟩, hy_0, hy_1, hy_2⟩) (fun hHeld => ?_)
                    have HB2 := Az.mk (HB.out.drew)
                    clear HB
                    have HB := HB2
                    clear HB2
                    generalize wr.drew = wd at HB hHeld ⊢
                    refine zP 0 (some 73) (bm 21 1) ?_
                    refine zP 1 (some 74) (bm 21 3) ?_
                    refine zP 2 (some 75) (bm 21 7) ?_
                    refine zP 4 (some 77) (bm 21 23) ?_
                    refine zP 5 (some 78) (bm 21 55) ?_
                    refine zP 6 (some 79) (bm 21 119) ?_
                    refine zU 3 (some 76) (bm 21 127) rfl hHeld (Or.inl ⟨by rfl, by rintro w' ⟨⟨s0, s1, s2⟩, s3, s4, s5⟩; go_simp; with_reducible rfl⟩) ?_
                    refine zU 7 (some 80) (bm 21 255) rfl hHeld (Or.inl ⟨by rfl, by rintro w' ⟨⟨s0, s1, s2⟩, s3, s4, s5⟩; go_simp; with_reducible rfl⟩) ?_
                    refine one_ (i := 8) (N := some 81) (bm 21 511) rfl rfl (by kernel_rfl) (by decide) (fun K hK => ?_)
                    refine goes_ Try.func87 (by kernel_rfl) rfl #[.agg #[.int .i64 p.f0, .int .i64 p.f1, .slice A2 p.f2.length c2], .agg #[.int .i64 q.f0, .int .i64 q.f1, .slice B2 q.f2.length d2]] (by rfl) rfl rfl (by (try simp only [List.map_toArray, List.map_cons, List.map_nil]); first | done | rfl) ?_
                    refine (HME.out _ HB.out).mono ?_
                    rintro e w81 ⟨rfl, hb⟩
                    refine ⟨_, rfl, ?_⟩
                    have HS2 := keepS hb hHeld
                    have HB2 := Az.mk (HB.out.trans (hb.mono HB.out.size))
                    clear HB
                    have HB := HB2
                    clear HB2
                    refine hK.out _ _ HS2 (fun hHeld => ?_)
                    clear HS2
                    clear hK K
                    refine norm_ (a' := ?_) ?_ ?_
                    rotate_left
                    · show Act.put _ (some 81) _ = _
                      simp only [Act.put, zs1, zs2, zs3, i64_w, i32_w]
                      rfl
                    refine zP 9 (some 82) (bm 21 1023) ?_
                    refine zP 10 (some 83) (bm 21 2047) ?_
                    refine zP 11 (some 84) (bm 21 4095) ?_
                    refine zP 12 (some 85) (bm 21 8191) ?_
                    refine zP 14 (some 87) (bm 21 24575) ?_
                    refine zP 15 (some 88) (bm 21 57343) ?_
                    refine zP 16 (some 89) (bm 21 122879) ?_
                    refine zU 13 (some 86) (bm 21 131071) rfl hHeld (Or.inl ⟨by rfl, by rintro w' ⟨⟨s0, s1, s2⟩, s3, s4, s5⟩; go_simp; with_reducible rfl⟩) ?_
                    refine zU 17 (some 90) (bm 21 262143) rfl hHeld (Or.inl ⟨by rfl, by rintro w' ⟨⟨s0, s1, s2⟩, s3, s4, s5⟩; go_simp; with_reducible rfl⟩) ?_
                    refine one_ (i := 18) (N := some 91) (bm 21 524287) rfl rfl (by kernel_rfl) (by decide) (fun K hK => ?_)
                    refine goes_ Try.func99 (by kernel_rfl) rfl #[.agg #[.int .i64 p.f0, .int .i64 p.f1, .slice A2 p.f2.length c2], .agg #[.int .i64 q.f0, .int .i64 q.f1, .slice B2 q.f2.length d2]] (by rfl) rfl rfl (by (try simp only [List.map_toArray, List.map_cons, List.map_nil]); first | done | rfl) ?_
                    refine (HSA.out _ HB.out).mono ?_
                    rintro e w91 ⟨rfl, hb⟩
                    refine ⟨_, rfl, ?_⟩
                    have HS2 := keepS hb hHeld
                    have HB2 := Az.mk (HB.out.trans (hb.mono HB.out.size))
                    clear HB
                    have HB := HB2
                    clear HB2
                    refine hK.out _ _ HS2 (fun hHeld => ?_)
                    clear HS2
                    clear hK K
                    refine norm_ (a' := ?_) ?_ ?_
                    rotate_left
                    · show Act.put _ (some 91) _ = _
                      simp only [Act.put, zs1, zs2, zs3, i64_w, i32_w]
                      rfl
                    refine zP 19 (some 92) (bm 21 1048575) ?_
                    refine zP 20 (some 93) (bm 21 2097151) ?_
                    refine done_ (by kernel_rfl) ?_
                    have HB2 := Az.mk (HBZ.out.trans (HB.out.mono HBZ.out.size))
                    clear HB
                    have HB := HB2
                    go_wp2
                    go_ret
                    exact ⟨by rw [← HPS.out, HRES.out, HNO.out]; rfl, HBW.out.trans (HB.out.mono HBW.out.size)⟩
              · have e2b : decide ((j : Int) < (i : Int)) = false := decide_eq_false (by omega)
                have hj : j = i := by have := HJ.out; omega
                have HOK : Az (ptrAt n ps i = true) := ⟨by
                  unfold ptrAt
                  rw [← HP.out, HGC.out, Bool.true_and, decide_eq_true_iff]
                  exact fun q hq => HD.out q (by omega)⟩
                clear hj
                go_wp2
                go_roundg (ps.length - (i + 1))
                case measure => have := HI.out; have := HE1.out; omega
                case rel => exact ⟨i + 1, by rw [← HWi.out], ⟨by have := HE1.out; omega⟩, ⟨fun t ht => by
                    by_cases e : t = i
                    · rw [e]; exact HOK.out
                    · exact HQ.out t (by omega)⟩, HB⟩
          · rw [decide_eq_false hg] at HPK
            have HNO : Az (ptrsB n ps = false) := ⟨ptrsB_no HE1.out (by
              unfold ptrAt ptrC
              rw [← HP.out, decide_eq_false (fun h => hg h.2), Bool.false_and])⟩
            clear hg
            go_wp2_with (first | (go_at_call 54; refine (HPK.out _ HB.out (HBI.out _ (Below.refl _ _))).mono ?_; rintro e w66 ⟨rfl, hb⟩; have HB2 := Az.mk (HB.out.trans (hb.mono HB.out.size)); clear HB hb; have HB := HB2; clear HB2) | go_in)
            go_ret
            exact ⟨by rw [← HPS.out, HRES.out, HNO.out]; rfl, HBW.out.trans (HB.out.mono HBW.out.size)⟩
        · have e1b : decide ((i : Int) < (ps.length : Int)) = false := decide_eq_false (by omega)
          have hi : i = ps.length := by have := HI.out; omega
          have HOK : Az (ptrsB n ps = true) := ⟨decide_eq_true fun t ht _ => HQ.out t (by omega)⟩
          clear hi
          go_wp2
          go_ret
          exact ⟨by rw [← HPS.out, HRES.out, HOK.out]; rfl, HBW.out.trans (HB.out.mono HBW.out.size)⟩
end Go.Proofs.Ytkoimmeghdbodaa.Print
namespace Go.Proofs.Ytkoimmeghdbodaa.Print
open Go.RowKit Go.Lib Go.Maps Go.WideMaps Go.Proofs.YtkoimmeghdbodaaW.PrintWords Go.Proofs.YtkoimmeghdbodaaW.PrintLast Go.Proofs.YtkoimmeghdbodaaW.PrintMore Go.Proofs.Ytkoimmeghdbodaa.Pure
set_option maxHeartbeats 8000000 in
set_option maxRecDepth 100000 in
theorem sRoot_call (n tx : Int) (A0 : Option Addr) (c0 : Nat) (l0 : List S65) (w : World) (hr0 : Kd.C k65 w A0 l0.length l0) (hc0 : l0.length ≤ c0) (hF : FitM l0) :
    Calls Try.prog 36 #[.int .i64 n, .agg #[.int .i64 tx, .slice A0 l0.length c0]] w fun e w' => e = .returned (.bool (rootB n tx l0)) ∧ Below w.heap.size w w' := by
  have hu57 := Try.underlying57
  have HB := Az.mk (Below.refl w.heap.size w)
  rw [rootB_eq]
  have H53 := Az.mk (fun W => spec_l2Disks.calls n (decide (3 ≤ n ∧ n ≤ 4)) W (by unfold spec_l2Disks.f; rw [l6In_eq]; rfl))
  have H75 := Az.mk (fun W => spec_l6In.calls tx 0 100000 (decide (0 ≤ tx ∧ tx ≤ 100000)) W (l6In_eq _ _ _))
  have hsp : specB n tx l0 = (decide (3 ≤ n ∧ n ≤ 4) && (decide (0 ≤ tx ∧ tx ≤ 100000) && (decide (l0.length ≤ 4) && (namesB l0 && ptrsB n (ptrs l0))))) := rfl
  generalize specB n tx l0 = res at hsp ⊢
  by_cases c1 : 3 ≤ n ∧ n ≤ 4
  · rw [decide_eq_true c1] at H53 hsp
    by_cases c2 : 0 ≤ tx ∧ tx ≤ 100000
    · rw [decide_eq_true c2] at H75 hsp
      by_cases c3 : l0.length ≤ 4
      · rw [decide_eq_true c3] at hsp
        have H76 := Az.mk (fun (W : World) (hb : Below w.heap.size w W) => sVols_call n tx c1 A0 c0 l0 W (Kd.C_below hr0 hb) hc0 hF c3)
        have d3 : decide ((l0.length : Int) ≤ 4) = true := decide_eq_true (by omega)
        have HE : Az (res = (namesB l0 && ptrsB n (ptrs l0))) := ⟨by rw [hsp]; rfl⟩
        clear hr0 hc0 hF c1 c2 hsp
        go_enter Try.func36, Try.ntmps36
        go_wp2_with (first | ((with_reducible refine zqg (N := 3) rfl ?_); refine zqb ?hg (N := 3) ?hd (cs := #[.int .i64 tx, .slice A0 l0.length c0]) (t := 57) ?hr ?_; (case hd => rfl); (case hg => rfl); (case hr => first | (go_simp; done) | (go_simp; rfl)); intro gb hg w5 hbox hb; have n0_ := Az.mk (below_step zB hb); have BR := Az.mk (show Blk w5 gb #[.int .i64 tx, .slice A0 l0.length c0] 57 from hbox); clear HB; have HB := n0_; clear n0_ hbox hb hg; have hcz_0 := (BR.out.cell 0).trans rfl; have hcz_1 := (BR.out.cell 1).trans rfl) | (go_at_call 53; refine (H53.out _).mono ?_; rintro e w6 ⟨rfl, hd⟩; have hb := hd.below; have BR2 := Az.mk (BR.out.below hb); have HB2 := Az.mk (HB.out.trans (hb.mono HB.out.size)); clear BR HB hcz_0 hcz_1; have BR := BR2; have HB := HB2; clear BR2 HB2; have hcz_0 := (BR.out.cell 0).trans rfl; have hcz_1 := (BR.out.cell 1).trans rfl; clear hb hd) | (go_at_call 75; refine (H75.out _).mono ?_; rintro e w10 ⟨rfl, hd⟩; have hb := hd.below; have BR2 := Az.mk (BR.out.below hb); have HB2 := Az.mk (HB.out.trans (hb.mono HB.out.size)); clear BR HB hcz_0 hcz_1; have BR := BR2; have HB := HB2; clear BR2 HB2; have hcz_0 := (BR.out.cell 0).trans rfl; have hcz_1 := (BR.out.cell 1).trans rfl; clear hb hd) | (go_at_call 76; refine (H76.out _ HB.out).mono ?_; rintro e w21 ⟨rfl, hb⟩; have BR2 := Az.mk (BR.out.below hb); have HB2 := Az.mk (HB.out.trans (hb.mono HB.out.size)); clear BR HB hcz_0 hcz_1; have BR := BR2; have HB := HB2; clear BR2 HB2; have hcz_0 := (BR.out.cell 0).trans rfl; have hcz_1 := (BR.out.cell 1).trans rfl; clear hb) | go_in)
        go_ret
        exact ⟨by rw [HE.out]; rfl, HB.out⟩
      · rw [decide_eq_false c3] at hsp
        have d3 : decide ((l0.length : Int) ≤ 4) = false := decide_eq_false (by omega)
        have HE : Az (res = false) := ⟨by rw [hsp]; rfl⟩
        clear hr0 hc0 hF c1 c2 hsp
        go_enter Try.func36, Try.ntmps36
        go_wp2_with (first | ((with_reducible refine zqg (N := 3) rfl ?_); refine zqb ?hg (N := 3) ?hd (cs := #[.int .i64 tx, .slice A0 l0.length c0]) (t := 57) ?hr ?_; (case hd => rfl); (case hg => rfl); (case hr => first | (go_simp; done) | (go_simp; rfl)); intro gb hg w5 hbox hb; have n0_ := Az.mk (below_step zB hb); have BR := Az.mk (show Blk w5 gb #[.int .i64 tx, .slice A0 l0.length c0] 57 from hbox); clear HB; have HB := n0_; clear n0_ hbox hb hg; have hcz_0 := (BR.out.cell 0).trans rfl; have hcz_1 := (BR.out.cell 1).trans rfl) | (go_at_call 53; refine (H53.out _).mono ?_; rintro e w6 ⟨rfl, hd⟩; have hb := hd.below; have BR2 := Az.mk (BR.out.below hb); have HB2 := Az.mk (HB.out.trans (hb.mono HB.out.size)); clear BR HB hcz_0 hcz_1; have BR := BR2; have HB := HB2; clear BR2 HB2; have hcz_0 := (BR.out.cell 0).trans rfl; have hcz_1 := (BR.out.cell 1).trans rfl; clear hb hd) | (go_at_call 75; refine (H75.out _).mono ?_; rintro e w10 ⟨rfl, hd⟩; have hb := hd.below; have BR2 := Az.mk (BR.out.below hb); have HB2 := Az.mk (HB.out.trans (hb.mono HB.out.size)); clear BR HB hcz_0 hcz_1; have BR := BR2; have HB := HB2; clear BR2 HB2; have hcz_0 := (BR.out.cell 0).trans rfl; have hcz_1 := (BR.out.cell 1).trans rfl; clear hb hd) | go_in)
        go_ret
        exact ⟨by rw [HE.out]; rfl, HB.out⟩
    · rw [decide_eq_false c2] at H75 hsp
      have HE : Az (res = false) := ⟨by rw [hsp]; rfl⟩
      clear hr0 hc0 hF c1 c2 hsp
      go_enter Try.func36, Try.ntmps36
      go_wp2_with (first | ((with_reducible refine zqg (N := 3) rfl ?_); refine zqb ?hg (N := 3) ?hd (cs := #[.int .i64 tx, .slice A0 l0.length c0]) (t := 57) ?hr ?_; (case hd => rfl); (case hg => rfl); (case hr => first | (go_simp; done) | (go_simp; rfl)); intro gb hg w5 hbox hb; have n0_ := Az.mk (below_step zB hb); have BR := Az.mk (show Blk w5 gb #[.int .i64 tx, .slice A0 l0.length c0] 57 from hbox); clear HB; have HB := n0_; clear n0_ hbox hb hg; have hcz_0 := (BR.out.cell 0).trans rfl; have hcz_1 := (BR.out.cell 1).trans rfl) | (go_at_call 53; refine (H53.out _).mono ?_; rintro e w6 ⟨rfl, hd⟩; have hb := hd.below; have BR2 := Az.mk (BR.out.below hb); have HB2 := Az.mk (HB.out.trans (hb.mono HB.out.size)); clear BR HB hcz_0 hcz_1; have BR := BR2; have HB := HB2; clear BR2 HB2; have hcz_0 := (BR.out.cell 0).trans rfl; have hcz_1 := (BR.out.cell 1).trans rfl; clear hb hd) | (go_at_call 75; refine (H75.out _).mono ?_; rintro e w10 ⟨rfl, hd⟩; have hb := hd.below; have BR2 := Az.mk (BR.out.below hb); have HB2 := Az.mk (HB.out.trans (hb.mono HB.out.size)); clear BR HB hcz_0 hcz_1; have BR := BR2; have HB := HB2; clear BR2 HB2; have hcz_0 := (BR.out.cell 0).trans rfl; have hcz_1 := (BR.out.cell 1).trans rfl; clear hb hd) | go_in)
      go_ret
      exact ⟨by rw [HE.out]; rfl, HB.out⟩
  · rw [decide_eq_false c1] at H53 hsp
    have HE : Az (res = false) := ⟨by rw [hsp]; rfl⟩
    clear hr0 hc0 hF c1 hsp
    go_enter Try.func36, Try.ntmps36
    go_wp2_with (first | ((with_reducible refine zqg (N := 3) rfl ?_); refine zqb ?hg (N := 3) ?hd (cs := #[.int .i64 tx, .slice A0 l0.length c0]) (t := 57) ?hr ?_; (case hd => rfl); (case hg => rfl); (case hr => first | (go_simp; done) | (go_simp; rfl)); intro gb hg w5 hbox hb; have n0_ := Az.mk (below_step zB hb); have BR := Az.mk (show Blk w5 gb #[.int .i64 tx, .slice A0 l0.length c0] 57 from hbox); clear HB; have HB := n0_; clear n0_ hbox hb hg; have hcz_0 := (BR.out.cell 0).trans rfl; have hcz_1 := (BR.out.cell 1).trans rfl) | (go_at_call 53; refine (H53.out _).mono ?_; rintro e w6 ⟨rfl, hd⟩; have hb := hd.below; have BR2 := Az.mk (BR.out.below hb); have HB2 := Az.mk (HB.out.trans (hb.mono HB.out.size)); clear BR HB hcz_0 hcz_1; have BR := BR2; have HB := HB2; clear BR2 HB2; have hcz_0 := (BR.out.cell 0).trans rfl; have hcz_1 := (BR.out.cell 1).trans rfl; clear hb hd) | go_in)
    go_ret
    exact ⟨by rw [HE.out]; rfl, HB.out⟩
end Go.Proofs.Ytkoimmeghdbodaa.Print
namespace Go.Proofs.Ytkoimmeghdbodaa.Hq
open Go.RowKit Go.Proofs.Ytkoimmeghdbodaa.Print Go.Proofs.YtkoimmeghdbodaaW.PrintWords Go.Proofs.YtkoimmeghdbodaaW.PrintLast Go.Proofs.YtkoimmeghdbodaaW.PrintMore Go.Proofs.Ytkoimmeghdbodaa.Pure Go.Proofs.Ytkoimmeghdbodaa.Hd
theorem M_apart {w : World} {b : Nat} {ok ok' : Nat → Prop} {y : S29} {cs : List Value} {u : Value} {l : List S29} (h : q29.M w b ok y cs) (hu : q29.R 29 w b ok' u l) : q29.M w b (fun k => ok k ∧ some k ≠ u.ownBlock) y cs := by
  cases hv : u.ownBlock with
  | none => exact q29.M_mono (fun k hk => ⟨hk, by simp⟩) h
  | some g =>
    obtain ⟨c, hc⟩ := Kd.R_typed hu g hv
    refine q29.M_mono (fun k hk => ⟨hk.1, fun e => hk.2 (Option.some.inj e)⟩) (Kd.M_types h hc (fun q hq => ?_))
    have : q ∈ [37] := hq
    have : q = 37 := by simpa using this
    subst this
    decide
theorem own_new {w W : World} (hb : Below w.heap.size w W) {v : Value} (h : ∃ b, v.ownBlock = some b ∧ W.heap.size ≤ b) : ∀ k, v.ownBlock = some k → w.heap.size ≤ k := fun k hk => by
  obtain ⟨b, h1, h2⟩ := h
  rw [h1] at hk
  cases hk
  exact Nat.le_trans hb.size h2
theorem own_at {w W : World} {u v : Value} (hu : ∀ k, u.ownBlock = some k → w.heap.size ≤ k) (hb : Below w.heap.size w W) (h : v.ownBlock = u.ownBlock ∨ ∃ b, v.ownBlock = some b ∧ W.heap.size ≤ b) : ∀ k, v.ownBlock = some k → w.heap.size ≤ k := by
  rcases h with h | h
  · intro k hk
    exact hu k (by rw [← h]; exact hk)
  · exact own_new hb h
theorem blk_grown {w w' : World} {g : Nat} {cs : Array Value} {t : TypeId} {row : Option Nat} (h : Blk w g cs t) (hg : w.grownBy w' row) (hr : some g ≠ row) : Blk w' g cs t := by
  show w'.heap[g]? = _
  exact (hg.block g (blk_lt h) hr).trans h
theorem R_ne57 {w : World} {g b : Nat} {cs : Array Value} {ok : Nat → Prop} {u : Value} {l : List S29} (h : Blk w g cs 57) (hu : q29.R 29 w b ok u l) : u.ownBlock ≠ some g := fun e => by
  obtain ⟨c, hc⟩ := Kd.R_typed hu g e
  have h' : w.heap[g]? = _ := h
  rw [hc] at h'
  injection h' with h1
  injection h1 with _ h1
  exact absurd h1 (by decide)
theorem vol_at {w : World} {b : Nat} {S : Nat → Prop} {A : Option Addr} {c : Nat} {D : List S65} (hO : r65.R 65 w b S (.slice A D.length c) D) {i : Nat} (hi : i < D.length) :
    ∃ g A1 c1, A = some ⟨g, 0, none⟩ ∧ w.cell? ⟨g, i * 2, none⟩ = some (.string (D.getD i z65).f0) ∧ w.cell? ⟨g, i * 2 + 1, none⟩ = some (.slice A1 (D.getD i z65).f1.length c1) ∧ (D.getD i z65).f1.length ≤ c1 ∧
      ReadsRow (q29.M w b (fun k => S k ∧ k ≠ g)) 3 w A1 (D.getD i z65).f1.length (D.getD i z65).f1 := by
  obtain ⟨g, cap, e, _⟩ := Kd.R_form hO (by omega)
  injection e with e1 _ e2
  subst e1 e2
  obtain ⟨cs, hcl, hM, hcc, _⟩ := Kd.R_elem hO z65 (i : Int) (by omega) (by omega)
  rw [Int.toNat_natCast] at hM hcc
  obtain ⟨v1, rfl, hR⟩ := r65_openM hM
  obtain ⟨A1, c1, rfl, hl, hrr⟩ := OwnRow.reads hR.2
  refine ⟨g, A1, c1, rfl, hcc 0 _ rfl, hcc 1 _ rfl, hl, ?_⟩
  exact hrr.imp_ (Below.refl _ _) (fun _ _ hp => q29.M_mono (fun k hk => hk.1) hp)
set_option maxHeartbeats 4000000 in
set_option maxRecDepth 100000 in
theorem l2All_callr {w : World} {b : Nat} {S : Nat → Prop} {tx : Int} {A : Option Addr} {c : Nat} {D : List S65} (hO : r65.R 65 w b S (.slice A D.length c) D) (hb : b ≤ w.heap.size) (hl : D.length ≤ 10) (hD : GV D) :
    Calls Try.prog 86 #[.agg #[.int .i64 tx, .slice A D.length c]] w fun e w' => ∃ v, e = .returned v ∧ q29.R 29 w' b (fun k => S k ∨ w.heap.size ≤ k) v (ptrs D) ∧ Below w.heap.size w w' := by
  have hu29 := Try.underlying29
  have hu57 := Try.underlying57
  have hu65 := Try.underlying65
  have HB := Az.mk (Below.refl w.heap.size w)
  have HBS := Az.mk hb
  have HR0 := Az.mk hO
  have HL := Az.mk hl
  have HD := Az.mk hD
  clear hO hb hl hD
  go_enter Try.func86, Try.ntmps86
  go_wp2_with (first | ((with_reducible refine zqg (N := 1) rfl ?_); refine zqb ?hg (N := 1) ?hd (cs := #[.int .i64 tx, .slice A D.length c]) (t := 57) ?hr ?_; (case hd => rfl); (case hg => rfl); (case hr => first | (go_simp; done) | (go_simp; rfl)); intro gb hg w5 hbox hb; have n0_ := Az.mk (below_step zB hb); have BR := Az.mk (show Blk w5 gb #[.int .i64 tx, .slice A D.length c] 57 from hbox); clear HB; have HB := n0_; clear n0_ hbox hb hg) | ((with_reducible refine zqg (N := 5) rfl ?_); refine Kd.R_lit q29 (w0 := w) b 29 ?hg (N := 5) ?hd (xs := ([] : List S29)) (inner := []) (ok := fun k => S k ∨ w.heap.size ≤ k) (okp := fun k => S k ∨ w.heap.size ≤ k) ?hr ?hp (fun _ hk => hk) (.inr HB.out.size) (HB.out.mono HBS.out) (Nat.le_trans HBS.out HB.out.size) (by simp) ?_; (case hd => rfl); (case hg => rfl); (case hr => first | (go_simp; done) | (go_simp; rfl)); (case hp => exact (Reps.none _ _)); intro v17 w26 ho27 hb hg_ hnew_; have R17 := Az.mk ho27; have HO17 := Az.mk (own_new HB.out hnew_); have HB2 := Az.mk (HB.out.grown hg_ HB.out.size (fun k hk => by cases hk)); have BR2 := Az.mk (blk_grown BR.out hg_ (by simp)); clear HB BR ho27 hb hg_ hnew_; have HB := HB2; have BR := BR2; clear HB2 BR2) | go_in)
  go_loopg [3, 4] D.length (fun kq v3 v4 wr => ∃ (i : Nat), v4 = .int .i64 (i : Int) ∧ Az (i + kq = D.length) ∧ Az (q29.R 29 wr b (fun k => S k ∨ w.heap.size ≤ k) v3 (ptrs (D.take i))) ∧ Az (∀ k, v3.ownBlock = some k → w.heap.size ≤ k) ∧ Az (Blk wr gb #[.int .i64 tx, .slice A D.length c] 57) ∧ Az (Below w.heap.size w wr))
  case atStart => exact ⟨0, rfl, ⟨Nat.zero_add _⟩, R17, HO17, BR, HB⟩
  case round =>
    clear R17 HO17 BR HB
    obtain ⟨i, rfl, HI, HR, HO, BR, HB⟩ := hrel
    have hcz_0 := (BR.out.cell 0).trans rfl
    have hcz_1 := (BR.out.cell 1).trans rfl
    by_cases e1 : i < D.length
    · have e1b : decide ((i : Int) < (D.length : Int)) = true := decide_eq_true (by omega)
      have p1 := eq_true (show (0 : Int) ≤ (i : Int) by omega)
      have q1 := eq_true (show (i : Int) < (D.length : Int) by omega)
      obtain ⟨g, A1, c1, eA, hx_0, hx_1, hl1, hrd⟩ := vol_at (Kd.R_below HR0.out HB.out) e1
      subst eA
      have hpt := ptrs_take_len (vs := D) (fun x hx => (HD.out x hx).1) i (by omega)
      have htk := take65 D i e1
      have hx3 := (HD.out _ (getD_mem (z := z65) e1)).1
      obtain ⟨x, hX⟩ : ∃ x, x = D.getD i z65 := ⟨_, rfl⟩
      rw [← hX] at hx_0 hx_1 hl1 hrd htk hx3
      have HRD := Az.mk hrd
      have HLN : Az ((ptrs (D.take i)).length + x.f1.length ≤ 100) := ⟨by have := HL.out; omega⟩
      have HTK : Az (ptrs (D.take (i + 1)) = ptrs (D.take i) ++ x.f1) := ⟨by rw [htk]; simp [ptrs]⟩
      have HWi : Az (wrap64 ((i : Int) + 1) = ((i + 1 : Nat) : Int)) := ⟨by rw [Pure.wrap_ok (by have := HL.out; omega)]; omega⟩
      have HE1 := Az.mk e1
      clear hX hl1 hrd hpt htk hx3 e1
      go_wp2_with (first | ((with_reducible refine zqg (N := 20) rfl ?_); refine Kd.R_append_rows q29 (Rr := q29.M wr b (fun k => S k ∧ k ≠ g)) (w0 := w) b rfl (.tmp 13) (.tmp 19) 63 29 (.agg #[.int .i64 0, .int .i64 0, .slice none 0 0]) 40 rfl Try.underlying63 info29 rfl (by decide) (by omega) u3 (ptrs (D.take i)) x.f1 A1 x.f1.length c1 (fun k => S k ∨ w.heap.size ≤ k) (fun k => (S k ∧ k ≠ g) ∧ some k ≠ u3.ownBlock) rfl rfl HR.out HRD.out (fun x cs h => M_apart h HR.out) (fun k hk => ⟨.inl hk.1.1, hk.2⟩) (fun k hk => .inr (Nat.le_trans HB.out.size hk)) (HB.out.mono HBS.out) (Nat.le_trans HBS.out HB.out.size) (by have := HLN.out; omega) ?_; intro v1 w1 hR1 hB1 hg1 hat1; have R1 := Az.mk hR1; have HO1 := Az.mk (own_at HO.out HB.out hat1); have BR1 := Az.mk (blk_grown BR.out hg1 (fun e => R_ne57 BR.out HR.out e.symm)); have B1w := Az.mk (HB.out.grown hg1 HB.out.size (fun k hk => HO.out k hk)); clear hR1 hB1 hg1 hat1) | go_in)
      go_roundg (D.length - (i + 1))
      case measure => have := HI.out; have := HE1.out; omega
      case rel => exact ⟨i + 1, by rw [← HWi.out], ⟨by have := HE1.out; omega⟩, ⟨by rw [HTK.out]; exact R1.out⟩, HO1, BR1, B1w⟩
    · have e1b : decide ((i : Int) < (D.length : Int)) = false := decide_eq_false (by omega)
      have hi : i = D.length := by have := HI.out; omega
      subst hi
      clear e1
      go_wp2
      go_ret
      exact ⟨_, rfl, by have h := HR.out; rw [List.take_length] at h; exact h, HB.out⟩
end Go.Proofs.Ytkoimmeghdbodaa.Hq
namespace Go.Proofs.Ytkoimmeghdbodaa.Hq
open Go.RowKit Go.Proofs.Ytkoimmeghdbodaa.Print Go.Proofs.YtkoimmeghdbodaaW.PrintWords Go.Proofs.YtkoimmeghdbodaaW.PrintLast Go.Proofs.YtkoimmeghdbodaaW.PrintMore Go.Proofs.Ytkoimmeghdbodaa.Pure Go.Proofs.Ytkoimmeghdbodaa.Hd
theorem elem29 {wo : World} {b : Nat} {S : Nat → Prop} {A : Option Addr} {n c : Nat} {l : List S29} (V : q29.R 29 wo b S (.slice A n c) l) {i : Nat} (hi : i < l.length) :
    ∃ g A2 c2, A = some ⟨g, 0, none⟩ ∧ S g ∧ wo.cell? ⟨g, i * 3, none⟩ = some (.int .i64 (l.getD i z29).f0) ∧ wo.cell? ⟨g, i * 3 + 1, none⟩ = some (.int .i64 (l.getD i z29).f1) ∧ wo.cell? ⟨g, i * 3 + 2, none⟩ = some (.slice A2 (l.getD i z29).f2.length c2) ∧
      k37.Q 37 wo b S (.slice A2 (l.getD i z29).f2.length c2) (l.getD i z29).f2 := by
  obtain ⟨g, cap, e, _⟩ := Kd.R_form V (by omega)
  injection e with e1 e2 e3
  subst e1 e2 e3
  obtain ⟨cs, hcl, hM, hcc, _⟩ := Kd.R_elem V z29 (i : Int) (by omega) (by omega)
  rw [Int.toNat_natCast] at hM hcc
  obtain ⟨v2, rfl, hQ⟩ := q29_openM hM
  obtain ⟨A2, c2, rfl, _⟩ := Kd.Q_slice hQ
  exact ⟨g, A2, c2, rfl, V.1 g (by simp [Value.ownBlock]), hcc 0 _ rfl, hcc 1 _ rfl, hcc 2 _ rfl, Kd.Q_mono hQ fun k hk => hk.1⟩
section
variable {o : Oper} {a : Act}
theorem run_ld29 {w : World} {g f : Nat} {u0 u1 u2 : Value} (h0 : w.cell? ⟨g, f, none⟩ = some u0) (h1 : w.cell? ⟨g, f + 1, none⟩ = some u1) (h2 : w.cell? ⟨g, f + 2, none⟩ = some u2) {x : Operand} (ho : o.op = .load 29 x) (hx : a.eval x = .pointer (some ⟨g, f, none⟩)) :
    (execOp a.eval o).run Try.prog w = .ok (.value (.agg #[u0, u1, u2])) w := by
  have hr := run_loadVar_mid (P := Try.prog) w g f 29 [u0, u1, u2] _ (fun j v hv => by
    match j with
    | 0 => cases hv; exact h0
    | 1 => cases hv; exact h1
    | 2 => cases hv; exact h2
    | j + 3 => simp at hv) Try.underlying29 rfl (by kernel_rfl)
  unfold execOp
  simp only [ho, hx, Instr.loadAt, Instr.sureAddr, Sem.run_bind, Sem.run_pure, Result.andThen_ok, hr]
set_option maxRecDepth 100000 in
theorem run_st29 {w : World} {b : Nat} {S : Nat → Prop} {g n cap : Nat} {l : List S29} (V : q29.R 29 w b S (.slice (some ⟨g, 0, none⟩) n cap) l) {i : Nat} (hi : i < n) {x z : Operand} (ho : o.op = .store 29 x z) (hx : a.eval x = .pointer (some ⟨g, i * 3, none⟩)) {u0 u1 u2 : Value} (hz : a.eval z = .agg #[u0, u1, u2])
    (h1 : ∀ q ∈ [u0, u1, u2], q.oneCell' = true) : (execOp a.eval o).run Try.prog w = .ok .skip (w.setCells g (i * 3) [u0, u1, u2]) := by
  have hrun : (Instr.storeAt 29 (.pointer (some ⟨g, i * 3, none⟩)) (.agg #[u0, u1, u2])).run Try.prog w = .ok () (w.setCells g (i * 3) [u0, u1, u2]) := by
    obtain ⟨_, inner, hown, hr⟩ := V
    rcases hown.2 with ⟨hv, _⟩ | ⟨g', cap', cur, hv, hb, hh, hnc, hcm, hcs, _⟩
    · cases hv
    injection hv with ha hn hc
    injection ha with ha
    injection ha with hg'
    subst hg'; subst hc
    refine run_store_run 29 _ [u0, u1, u2] hh rfl (by kernel_rfl) ?_ h1
    have h2 : i * 3 + 3 ≤ n * 3 := by omega
    have h3 : n * 3 ≤ cap * 3 := by rw [hn]; omega
    have h4 : cur.size = cap * 3 := hcs
    show i * 3 + 3 ≤ cur.size
    omega
  unfold execOp
  simp only [ho, hx, hz, Sem.run_bind, Sem.run_pure, Result.andThen_ok, hrun]
end
section
variable {base : Nat} {ws w : World} {L : List Part} {S : Nat → Prop} {wo : World}
theorem Hq.rr {α : Type} {d : Kd α} {e b : Nat} {v : Value} {xs : List α} (H : Hq base ws w L) (j : Nat) (ej : L[j]? = some (.set S wo)) (h : d.R e wo b S v xs) : d.R e w b S v xs := Kd.R_move h (H.same j ej)
theorem Hq.qq {α : Type} {d : Kd α} {e b : Nat} {v : Value} {xs : List α} (H : Hq base ws w L) (j : Nat) (ej : L[j]? = some (.set S wo)) (h : d.Q e wo b S v xs) : d.Q e w b S v xs := Kd.Q_move h (H.same j ej)
theorem meet_callq {b : Nat} (H : Hq base ws w L) (j : Nat) (ej : L[j]? = some (.set S wo)) {y z : S29} {A1 A2 : Option Addr} {c1 c2 : Nat} (h1 : k37.Q 37 wo b S (.slice A1 y.f2.length c1) y.f2) (h2 : k37.Q 37 wo b S (.slice A2 z.f2.length c2) z.f2) (b1 : y.f2.length ≤ 5) (b2 : z.f2.length ≤ 5) :
    Calls Try.prog 87 #[.agg #[.int .i64 y.f0, .int .i64 y.f1, .slice A1 y.f2.length c1], .agg #[.int .i64 z.f0, .int .i64 z.f1, .slice A2 z.f2.length c2]] w fun e w' => ∃ r : Bool, e = .returned (.bool r) ∧ Below w.heap.size w w' := by
  obtain ⟨k, hk⟩ := Ev.rounds (meet_ev y z (by omega) (by omega))
  have q1 := Kd.Q_reads' (H.qq j ej h1)
  have q2 := Kd.Q_reads' (H.qq j ej h2)
  exact (spec_l2Meet.calls k y.f0 y.f1 A1 c1 y.f2 z.f0 z.f1 A2 c2 z.f2 _ w q1.2.2 q1.2.1 q2.2.2 q2.2.1 hk).mono fun e w' h => ⟨_, h.1, h.2⟩
theorem find_l0 (x : ByteArray) (tx : Int) (D : List S65) (hl : D.length ≤ 1000) (d : Nat) : ∀ i : Nat, i + d = D.length → ∃ r, Ev (fun k => spec_l13Find.l0 k x (i : Int) tx D) r := by
  induction d with
  | zero =>
    intro i hi
    refine ⟨-1, Ev.next ?_⟩
    simp only [spec_l13Find.l0]
    exact Ev.neg (by omega) (Ev.ret rfl)
  | succ d ih =>
    intro i hi
    have e : wrap64 ((i : Int) + 1) = ((i + 1 : Nat) : Int) := by rw [wrap_ok (by omega)]; omega
    by_cases c : ((rd_T65 D (i : Int)).f0).toList = x.toList
    · refine ⟨i, Ev.next ?_⟩
      simp only [spec_l13Find.l0]
      exact Ev.pos (by omega) (Ev.pos (by omega) (Ev.pos c (Ev.ret rfl)))
    · obtain ⟨r, hr⟩ := ih (i + 1) (by omega)
      refine ⟨r, Ev.next ?_⟩
      simp only [spec_l13Find.l0, e]
      clear e
      exact Ev.pos (by omega) (Ev.pos (by omega) (Ev.neg c hr))
theorem find_callq {b : Nat} (H : Hq base ws w L) (j : Nat) (ej : L[j]? = some (.set S wo)) {A : Option Addr} {c : Nat} {D : List S65} (O : r65.R 65 wo b S (.slice A D.length c) D) (hl : D.length ≤ 10) (tx : Int) (x : ByteArray) :
    Calls Try.prog 115 #[.agg #[.int .i64 tx, .slice A D.length c], .string x] w fun e w' => ∃ r : Int, e = .returned (.int .i64 r) ∧ Below w.heap.size w w' := by
  obtain ⟨r, hr⟩ := find_l0 x tx D (by omega) D.length 0 (Nat.zero_add _)
  obtain ⟨k, hk⟩ := Ev.rounds hr
  have q := Kd.R_reads' (H.rr j ej O)
  exact (spec_l13Find.calls k tx A c D x r w (C65r q.2.2) q.2.1 hk).mono fun e w' h => ⟨r, h.1, h.2⟩
theorem all_callq (H : Hq base ws w L) (j : Nat) (ej : L[j]? = some (.set S wo)) {A : Option Addr} {c : Nat} {D : List S65} (O : r65.R 65 wo base S (.slice A D.length c) D) (hl : D.length ≤ 10) (hD : GV D) (tx : Int) :
    Calls Try.prog 86 #[.agg #[.int .i64 tx, .slice A D.length c]] w fun e w' => ∃ v, e = .returned v ∧ q29.R 29 w' base (newS S w w') v (ptrs D) ∧ Hq base ws w' (L.set j (.set (newS S w w') w')) ∧ ∀ k, S k → newS S w w' k ∧ w'.heap[k]? = wo.heap[k]? := by
  refine (l2All_callr (H.rr j ej O) H.ge hl hD).mono fun e w' h => ?_
  obtain ⟨v, he, hR, hb⟩ := h
  exact ⟨v, he, Kd.R_mono (Kd.R_bound hR) fun k hk => ⟨hk.1, hk.2.2.1⟩, H.grow j ej hb, H.up j ej hb.size fun k hk => hb.block k (H.set_in j ej k hk).2⟩
theorem st29_of (H : Hq base ws w L) (j : Nat) (ej : L[j]? = some (.set S wo)) {vO : Value} {D : List S65} {g cap i : Nat} {l : List S29} {y : S29} {u0 u1 u2 : Value} (O : r65.R 65 wo base S vO D) (hD : GV D) (V : q29.R 29 wo base S (.slice (some ⟨g, 0, none⟩) 3 cap) l) (hl : GB l) (hi : i < 3) (hM : q29.M wo base S y [u0, u1, u2]) (hy : y.f2.length ≤ 5) :
    ∃ D' l', Hq base ws (w.setCells g (i * 3) [u0, u1, u2]) (L.set j (.set S (w.setCells g (i * 3) [u0, u1, u2]))) ∧ r65.R 65 (w.setCells g (i * 3) [u0, u1, u2]) base S vO D' ∧ q29.R 29 (w.setCells g (i * 3) [u0, u1, u2]) base S (.slice (some ⟨g, 0, none⟩) 3 cap) l' ∧ D'.length = D.length ∧ GV D' ∧ GB l' := by
  have V' := H.rr j ej V
  have O' := H.rr j ej O
  have M' := q29.M_move (H.same j ej) hM
  obtain ⟨cells, hc⟩ := Kd.R_typed V' g (by simp [Value.ownBlock])
  obtain ⟨D', d1, d2, d3⟩ := store_vols O' hD hi hc M' hy
  obtain ⟨c, c1, c2, c3, _⟩ := Kd.R_elem V' z29 (i : Int) (by omega) (by omega)
  have hs := Kd.R_seg V' (i : Int) (by omega) (by omega) (seg := [u0, u1, u2]) (j := 0) c1 c3 (Nat.le_refl _) (x' := y) (okp := fun k => S k ∧ k ≠ g) (by
    rw [List.take_zero, List.nil_append, List.drop_of_length_le (by rw [c1]; exact Nat.le_refl _), List.append_nil]
    exact Kd.M_types M' hc (fun q hq => by
      have : q ∈ [37] := hq
      have : q = 37 := by simpa using this
      subst this
      decide)) (fun k hk => hk)
  rw [Int.toNat_natCast, show i * q29.sz + 0 = i * 3 from rfl] at hs
  refine ⟨D', l.set i y, H.wrote' j ej (V.1 g (by simp [Value.ownBlock])) hs.2 (setCells_same g _ _ w).2.2.2, d1, hs.1, d2, d3, by rw [List.length_set]; exact hl.1, fun z hz => ?_⟩
  rcases List.mem_or_eq_of_mem_set hz with h | h
  · exact hl.2 z h
  · rw [h]; exact hy
end
section
variable {ops : Array Oper} {Q : Exit → Act → World → Prop} {rest : List Oper} {o : Oper} {a : Act} {b : Nat} {ws W : World} {L : List Part} {S : Nat → Prop} {wo : World} {Kc : Act → World → Prop}
theorem lit65 (u v : Value) (hgd : o.guard = none) (hrun : (execOp a.eval o).run Try.prog W = .ok (.value (.slice (some ⟨W.heap.size, 0, none⟩) 1 1)) (W.alloc (.cells #[u, v] 65)))
    (k : wpList Try.prog ops Q rest (a.put o.dst (.slice (some ⟨W.heap.size, 0, none⟩) 1 1)) (W.alloc (.cells #[u, v] 65))) : wpList Try.prog ops Q (o :: rest) a W := Kd.event_run hgd hrun k
theorem app65_of {w1 : World} (H : Hq b ws W L) (j : Nat) (ej : L[j]? = some (.set S wo)) {vO v1 : Value} {D D1 : List S65} (O : r65.R 65 wo b S vO D) (hr : r65.R 65 w1 b (fun k => S k ∨ W.heap.size ≤ k) v1 D1) (hb : Below b ws w1) (hg : W.grownBy w1 vO.ownBlock) :
    ∃ A c, v1 = .slice A D1.length c ∧ Hq b ws w1 (L.set j (.set (newS S W w1) w1)) ∧ r65.R 65 w1 b (newS S W w1) (.slice A D1.length c) D1 := by
  obtain ⟨A, c, rfl⟩ := Kd.R_slice hr
  have hbel := H.bel
  exact ⟨A, c, rfl, H.wrote j ej ⟨hb.os.trans hbel.os.symm, hb.tape.trans hbel.tape.symm, hb.output.trans hbel.output.symm, hg.size, fun k h1 => (hb.block k h1).trans (hbel.block k h1).symm⟩ (fun k h1 h2 => hg.block k h1 fun e => h2 (O.1 k e.symm)),
    Kd.R_mono (Kd.R_bound hr) fun k hk => ⟨hk.1, hk.2.2.1⟩⟩
theorem Hq.app65 (H : Hq b ws W L) (j : Nat) (ej : L[j]? = some (.set S wo)) {vO vB : Value} {D : List S65} {l : List S29} {s : ByteArray} (O : r65.R 65 wo b S vO D) (V : q29.R 29 wo b S vB l) (hl : D.length ≤ 1000) (hgd : o.guard = none) (x y : Operand) (ho : o.op = .call { callee := .builtin .append, args := #[x, y], argTypes := #[55, 55] }) (hx : a.eval x = vO) (hy : a.eval y = .slice (some ⟨W.heap.size, 0, none⟩) 1 1)
    (k : ∀ A c w1 (q : List S65), Az (q = D ++ [⟨s, l⟩]) → Az (Hq b ws w1 (L.set j (.set (newS S W w1) w1))) → Az (r65.R 65 w1 b (newS S W w1) (.slice A q.length c) q) → wpList Try.prog ops Q rest (a.put o.dst (.slice A q.length c)) w1) :
    wpList Try.prog ops Q (o :: rest) a (W.alloc (.cells #[.string s, vB] 65)) := by
  have O' := H.rr j ej O
  have V' := Kd.R_apartR (H.rr j ej V) O' (by decide)
  refine Kd.R_append r65 (w0 := ws) b hgd x y 55 65 (.agg #[.string ⟨#[]⟩, .slice none 0 0]) 40 ho Try.underlying55 info65 rfl (by decide) (by omega) vO D ⟨s, l⟩ [.string s, vB] (fun k => S k ∨ W.heap.size ≤ k) (fun k => S k ∧ some k ≠ vO.ownBlock) hx hy (r65_mkM (x := ⟨s, l⟩) V') (fun _ hk => ⟨.inl hk.1, hk.2⟩) (fun k hk => .inr hk) (Kd.R_mono O' fun _ hk => .inl hk) H.bel H.ge (by omega) ?_
  intro v1 w1 hr hb hg _
  obtain ⟨A, c, rfl, h1, h2⟩ := app65_of H j ej O hr hb hg
  exact k A c w1 _ ⟨rfl⟩ ⟨h1⟩ ⟨h2⟩
theorem Hq.app65_ (H : Hq b ws W L) (j : Nat) (ej : L[j]? = some (.set S wo)) {vO vB : Value} {D : List S65} {l : List S29} {s : ByteArray} (O : r65.R 65 wo b S vO D) (V : q29.R 29 wo b S vB l) (hl : D.length ≤ 1000) (hw : Region.wanted o (yielded ops a.tmps) = true) (x y : Operand) (ho : o.op = .call { callee := .builtin .append, args := #[x, y], argTypes := #[55, 55] }) (hx : a.eval x = vO) (hy : a.eval y = .slice (some ⟨W.heap.size, 0, none⟩) 1 1)
    (k : ∀ A c w1 (q : List S65), Az (q = D ++ [⟨s, l⟩]) → Az (Hq b ws w1 (L.set j (.set (newS S W w1) w1))) → Az (r65.R 65 w1 b (newS S W w1) (.slice A q.length c) q) → Kc (a.put o.dst (.slice A q.length c)) w1) :
    if Region.wanted o (yielded ops a.tmps) = true then Oper.wp Try.prog o a (W.alloc (.cells #[.string s, vB] 65)) Kc Q else Kc (a.put o.dst undef) (W.alloc (.cells #[.string s, vB] 65)) := by
  have O' := H.rr j ej O
  have V' := Kd.R_apartR (H.rr j ej V) O' (by decide)
  refine Kd.R_append_step r65 (w0 := ws) b hw x y 55 65 (.agg #[.string ⟨#[]⟩, .slice none 0 0]) 40 ho Try.underlying55 info65 rfl (by decide) (by omega) vO D ⟨s, l⟩ [.string s, vB] (fun k => S k ∨ W.heap.size ≤ k) (fun k => S k ∧ some k ≠ vO.ownBlock) hx hy (r65_mkM (x := ⟨s, l⟩) V') (fun _ hk => ⟨.inl hk.1, hk.2⟩) (fun k hk => .inr hk) (Kd.R_mono O' fun _ hk => .inl hk) H.bel H.ge (by omega) ?_
  intro v1 w1 hr hb hg _
  obtain ⟨A, c, rfl, h1, h2⟩ := app65_of H j ej O hr hb hg
  exact k A c w1 _ ⟨rfl⟩ ⟨h1⟩ ⟨h2⟩
end
end Go.Proofs.Ytkoimmeghdbodaa.Hq
namespace Go.Proofs.Ytkoimmeghdbodaa.Print
open Go.RowKit Go.Proofs.YtkoimmeghdbodaaW.PrintWords Go.Proofs.YtkoimmeghdbodaaW.PrintLast Go.Proofs.YtkoimmeghdbodaaW.PrintMore
attribute [local go_sem] max2_int min2_int max_two min_two max_three min_three max_four min_four
end Go.Proofs.Ytkoimmeghdbodaa.Print
namespace Go.Proofs.Ytkoimmeghdbodaa.Print
open Go.RowKit Go.Proofs.YtkoimmeghdbodaaW.PrintWords Go.Proofs.YtkoimmeghdbodaaW.PrintLast Go.Proofs.YtkoimmeghdbodaaW.PrintMore Go.Proofs.Ytkoimmeghdbodaa.Pure
structure Mk (lo hi : Nat) (w w' : World) : Prop where
  os : w'.os = w.os
  tape : w'.tape = w.tape
  output : w'.output = w.output
  size : w.heap.size ≤ w'.heap.size
  far : ∀ b, b < w.heap.size → (b < lo ∨ hi ≤ b) → w'.heap[b]? = w.heap[b]?
  typ : ∀ (b : Nat) (cs : Array Value) (t : Nat), w.heap[b]? = some (Obj.cells cs t (0, 0)) → ∃ cs' : Array Value, w'.heap[b]? = some (Obj.cells cs' t (0, 0)) ∧ cs'.size = cs.size ∧ (t = 29 → ∀ i, cs'[i * 3 + 2]? = cs[i * 3 + 2]?) ∧ (t = 65 → ∀ i, cs'[i * 2 + 1]? = cs[i * 2 + 1]?)
section
variable {lo hi : Nat} {w w' : World} {v : Value} {n : Nat}
end
end Go.Proofs.Ytkoimmeghdbodaa.Print
namespace Go.Proofs.Ytkoimmeghdbodaa.Print
open Go.RowKit Go.Proofs.YtkoimmeghdbodaaW.PrintWords Go.Proofs.YtkoimmeghdbodaaW.PrintLast Go.Proofs.YtkoimmeghdbodaaW.PrintMore
attribute [local go_sem] max2_int min2_int max_two min_two max_three min_three max_four min_four
end Go.Proofs.Ytkoimmeghdbodaa.Print
namespace Go.Proofs.Ytkoimmeghdbodaa.Print
open Go.RowKit Go.Proofs.YtkoimmeghdbodaaW.PrintWords Go.Proofs.YtkoimmeghdbodaaW.PrintLast Go.Proofs.YtkoimmeghdbodaaW.PrintMore
attribute [local go_sem] max2_int min2_int max_two min_two max_three min_three max_four min_four
end Go.Proofs.Ytkoimmeghdbodaa.Print
namespace Go.Proofs.Ytkoimmeghdbodaa.Hd
open Go.RowKit Go.Proofs.Ytkoimmeghdbodaa.Print Go.Proofs.YtkoimmeghdbodaaW.PrintWords Go.Proofs.YtkoimmeghdbodaaW.PrintLast Go.Proofs.YtkoimmeghdbodaaW.PrintMore Go.Proofs.Ytkoimmeghdbodaa.Pure
abbrev AC := Option Addr × Nat
def cR (M : AC) (D : Int × List S65) : Array Value := #[.int .i64 D.1, .slice M.1 D.2.length M.2]
def pV (M : AC) (l : List S37) : Value := .slice M.1 l.length M.2
theorem cR_one (M : AC) (D : Int × List S65) : (cR M D).all (·.oneCell') = true := by simp [cR, Value.oneCell']
theorem size57 : (Try.prog.info? 57).map (·.size) = some 2 := by kernel_rfl
def OwP (wc : World) (B lo hi : Nat) (M : AC) (l : List S37) : Prop := Kd.R k37 37 wc B (fun k => lo ≤ k ∧ k < hi) (pV M l) l
def RdR (w : World) (M : AC) (D : List S65) : Prop := D.length ≤ M.2 ∧ Kd.C k65 w M.1 D.length D
def RdP (w : World) (M : AC) (l : List S37) : Prop := l.length ≤ M.2 ∧ Kd.C k37 w M.1 l.length l
section
variable {base : Nat} {w0 w wc : World} {L : List Part} {B lo hi : Nat} {M : AC}
end
theorem owP_of {w w' : World} {B : Nat} (hB : B ≤ w.heap.size) {v : Value} {l : List S37} (h : Kd.R k37 37 w' w.heap.size (fun _ => True) v l) : ∃ M, v = pV M l ∧ OwP w' B w.heap.size w'.heap.size M l := by
  obtain ⟨A, c, rfl⟩ := Kd.R_slice h
  exact ⟨(A, c), rfl, Kd.R_lower (Kd.R_mono (Kd.R_bound h) (fun k hk => ⟨hk.2.1, hk.2.2.1⟩)) hB⟩
section
variable {w : World} {B lo hi : Nat} {ok : Nat → Prop} {v : Value}
end
end Go.Proofs.Ytkoimmeghdbodaa.Hd
namespace Go.Proofs.Ytkoimmeghdbodaa.Hd
open Go.RowKit Go.Proofs.Ytkoimmeghdbodaa.Print Go.Proofs.YtkoimmeghdbodaaW.PrintWords Go.Proofs.YtkoimmeghdbodaaW.PrintLast Go.Proofs.YtkoimmeghdbodaaW.PrintMore Go.Proofs.Ytkoimmeghdbodaa.Pure
theorem implSp_call (n txa txb : Int) {Da Db : List S65} (hFa : FitM Da) (hFb : FitM Db) {w : World} {Ma Mb : AC} (ha : RdR w Ma Da) (hb : RdR w Mb Db) {B : Nat} (hB : B ≤ w.heap.size) :
    Calls Try.prog 48 #[.int .i64 n, .agg (cR Ma (txa, Da)), .agg (cR Mb (txb, Db))] w fun e w' => ∃ M', e = .returned (pV M' (spaceI n txa txb Da Db)) ∧ OwP w' B w.heap.size w'.heap.size M' (spaceI n txa txb Da Db) ∧ Below w.heap.size w w' := by
  refine (spaceFree_call n txa txb Ma.1 Mb.1 Ma.2 Mb.2 Da Db w ha.2 ha.1 hFa.places hb.2 hb.1 hFb.places).mono ?_
  rintro e w' ⟨v, rfl, hR, hb⟩
  obtain ⟨M', rfl, hO⟩ := owP_of hB hR
  exact ⟨M', rfl, hO, hb⟩
end Go.Proofs.Ytkoimmeghdbodaa.Hd
namespace Go.Proofs.Ytkoimmeghdbodaa.Hq
open Go.RowKit Go.Proofs.Ytkoimmeghdbodaa.Print Go.Proofs.YtkoimmeghdbodaaW.PrintWords Go.Proofs.YtkoimmeghdbodaaW.PrintLast Go.Proofs.YtkoimmeghdbodaaW.PrintMore Go.Proofs.Ytkoimmeghdbodaa.Pure Go.Proofs.Ytkoimmeghdbodaa.Hd
theorem size29q : (Try.prog.info? 29).map (·.size) = some 3 := by kernel_rfl
theorem size65q : (Try.prog.info? 65).map (·.size) = some 2 := by kernel_rfl
theorem size55q : (Try.prog.info? 55).map (·.size) = some 1 := by kernel_rfl
theorem size63q : (Try.prog.info? 63).map (·.size) = some 1 := by kernel_rfl
theorem size3q : (Try.prog.info? 3).map (·.size) = some 1 := by kernel_rfl
theorem new65 (W : World) {base : Nat} (hb : base ≤ W.heap.size) : r65.R 65 (W.alloc (.cells #[] 65)) base (fun k => k = W.heap.size) (.slice (some ⟨W.heap.size, 0, none⟩) 0 0) [] := by
  refine ⟨fun k hk => by simpa [Value.ownBlock] using hk.symm, [], ?_, Reps.none _ _⟩
  have h := World.ownsRow_lit (base := base) (e := 65) (size := r65.sz) W #[] 0 hb (by simp [maxLen]) (by simp)
  simpa using h
section
variable {ops : Array Oper} {Q : Exit → Act → World → Prop} {rest : List Oper} {o : Oper} {a : Act} {b : Nat} {ws W : World} {L : List Part} {S : Nat → Prop} {wo : World} {Kc : Act → World → Prop}
theorem Hq.none65 (H : Hq b ws W L) (hgd : o.guard = none)
    (hrun : (execOp a.eval o).run Try.prog W = .ok (.value (.slice (some ⟨W.heap.size, 0, none⟩) 0 0)) (W.alloc (.cells #[] 65)))
    (k : ∀ g w1, Az (Hq b ws w1 (.set (fun k => k = g) w1 :: L)) → Az (r65.R 65 w1 b (fun k => k = g) (.slice (some ⟨g, 0, none⟩) 0 0) []) → wpList Try.prog ops Q rest (a.put o.dst (.slice (some ⟨g, 0, none⟩) 0 0)) w1) : wpList Try.prog ops Q (o :: rest) a W :=
  Kd.event_run hgd hrun (k _ _ ⟨H.more (p := .set (fun k => k = W.heap.size) _) (zq2 (Below.refl _ _) _) (fun k hk => by obtain rfl : k = W.heap.size := hk; exact ⟨Nat.le_refl _, by simp⟩) (fun _ _ => rfl)⟩ ⟨new65 W H.ge⟩)
theorem Hq.make29_ (H : Hq b ws W L) (j : Nat) (ej : L[j]? = some (.set S wo)) (hw : Region.wanted o (yielded ops a.tmps) = true) {N : Tmp} (hd : o.dst = some N) (ho : o.op = .makeSlice 63 (.const (.int .i64 3)) (.const (.int .i64 3)))
    (k : ∀ g c w1, Az (Hq b ws w1 (L.set j (.set (newS S W w1) w1))) → (∀ k, S k → newS S W w1 k ∧ w1.heap[k]? = wo.heap[k]?) → Az (q29.R 29 w1 b (newS S W w1) (.slice (some ⟨g, 0, none⟩) 3 c) (List.replicate 3 z29)) → Kc (a.put o.dst (.slice (some ⟨g, 0, none⟩) 3 c)) w1) : if Region.wanted o (yielded ops a.tmps) = true then Oper.wp Try.prog o a W Kc Q else Kc (a.put o.dst undef) W := by
  refine Kd.R_make_step q29 (w0 := ws) b 29 hw hd 63 _ _ ho 3 rfl rfl Try.underlying63 (.agg #[.int .i64 0, .int .i64 0, .slice none 0 0]) 40 info29 rfl (by decide) (by omega) z29 (ok := fun k => W.heap.size ≤ k) (okp := fun _ => False) (q29_mkM (x := z29) (Kd.Q_nil _ _ _ _ _)) (fun _ h => h.elim) (Nat.le_refl _) (by omega) (by decide) H.bel H.ge ?_
  intro v1 w1 hr hb hg hf
  obtain ⟨g, c, rfl, _⟩ := Kd.R_form hr (by decide)
  have hbw : Below W.heap.size W w1 := ⟨hg.os, hg.tape, hg.output, hg.size, fun k hk => hg.block k hk (by simp)⟩
  exact k g c w1 ⟨H.grow j ej hbw⟩ (H.up j ej hg.size fun k hk => hg.block k (H.set_in j ej k hk).2 (by simp)) ⟨Kd.R_mono (Kd.R_bound hr) fun k hk => ⟨.inr hk.1, hk.2.2.1⟩⟩
theorem gb_new : GB (List.replicate 3 z29) := ⟨rfl, fun y hy => by rw [(List.mem_replicate.1 hy).2]; exact Nat.zero_le _⟩
theorem Hq.st29 (H : Hq b ws W L) (j : Nat) (ej : L[j]? = some (.set S wo)) {vO : Value} {D : List S65} {g cap i : Nat} {l : List S29} {y : S29} {u0 u1 u2 : Value} (O : r65.R 65 wo b S vO D) (hD : GV D) (V : q29.R 29 wo b S (.slice (some ⟨g, 0, none⟩) 3 cap) l) (hl : GB l) (hi : i < 3) (hM : q29.M wo b S y [u0, u1, u2]) (hy : y.f2.length ≤ 5)
    (hgd : o.guard = none) (hN : o.dst = none) {x z : Operand} (ho : o.op = .store 29 x z) (hx : a.eval x = .pointer (some ⟨g, i * 3, none⟩)) (hz : a.eval z = .agg #[u0, u1, u2])
    (k : ∀ D' l' w1, Az (Hq b ws w1 (L.set j (.set S w1))) → Az (r65.R 65 w1 b S vO D') → Az (q29.R 29 w1 b S (.slice (some ⟨g, 0, none⟩) 3 cap) l') → Az (D'.length = D.length) → Az (GV D') → Az (GB l') → wpList Try.prog ops Q rest a w1) : wpList Try.prog ops Q (o :: rest) a W := by
  obtain ⟨D', l', h1, h2, h3, h4, h5, h6⟩ := st29_of H j ej O hD V hl hi hM hy
  refine wpList_plain hgd fun K hK => ?_
  unfold Oper.wp
  rw [run_st29 (H.rr j ej V) hi ho hx hz (q29.K_one (q29.K_of_M hM))]
  show K (a.put o.dst undef) _
  rw [hN]
  exact hK _ _ (k D' l' _ ⟨h1⟩ ⟨h2⟩ ⟨h3⟩ ⟨h4⟩ ⟨h5⟩ ⟨h6⟩)
theorem Hq.st29_ (H : Hq b ws W L) (j : Nat) (ej : L[j]? = some (.set S wo)) {vO : Value} {D : List S65} {g cap i : Nat} {l : List S29} {y : S29} {u0 u1 u2 : Value} (O : r65.R 65 wo b S vO D) (hD : GV D) (V : q29.R 29 wo b S (.slice (some ⟨g, 0, none⟩) 3 cap) l) (hl : GB l) (hi : i < 3) (hM : q29.M wo b S y [u0, u1, u2]) (hy : y.f2.length ≤ 5)
    (hw : Region.wanted o (yielded ops a.tmps) = true) (hN : o.dst = none) {x z : Operand} (ho : o.op = .store 29 x z) (hx : a.eval x = .pointer (some ⟨g, i * 3, none⟩)) (hz : a.eval z = .agg #[u0, u1, u2])
    (k : ∀ D' l' w1, Az (Hq b ws w1 (L.set j (.set S w1))) → Az (r65.R 65 w1 b S vO D') → Az (q29.R 29 w1 b S (.slice (some ⟨g, 0, none⟩) 3 cap) l') → Az (D'.length = D.length) → Az (GV D') → Az (GB l') → Kc a w1) : if Region.wanted o (yielded ops a.tmps) = true then Oper.wp Try.prog o a W Kc Q else Kc (a.put none undef) W := by
  obtain ⟨D', l', h1, h2, h3, h4, h5, h6⟩ := st29_of H j ej O hD V hl hi hM hy
  exact last_st hw hN (run_st29 (H.rr j ej V) hi ho hx hz (q29.K_one (q29.K_of_M hM))) (k D' l' _ ⟨h1⟩ ⟨h2⟩ ⟨h3⟩ ⟨h4⟩ ⟨h5⟩ ⟨h6⟩)
end
def DrawsRoot (w0 : World) (b : List Int) (g m : Nat) (w : World) (e : Ending) (w' : World) : Prop := ∃ (tx : Int) (M : AC) (D : List S65) (cs' : Array Value), e = .returned (.agg (cR M (tx, D))) ∧ GV D ∧ D.length ≤ 4 ∧ r65.R 65 w' w0.heap.size (fun k => w.heap.size ≤ k ∧ k < w'.heap.size) (.slice M.1 D.length M.2) D ∧ Rdr w0 b m cs' ∧ w'.heap[g]? = some (.cells cs' 113 (0, 0)) ∧ Below w0.heap.size w w' ∧ ∀ k, k < w.heap.size → k ≠ g → w'.heap[k]? = w.heap[k]?
theorem Hq.start_box' {g : Nat} {cs : Array Value} {t : TypeId} {base : Nat} (w : World) (hb : base ≤ g) (hbox : w.heap[g]? = some (.cells cs t (0, 0))) : Hq base w w [.box g cs t, .set (fun k => k ≠ g ∧ base ≤ k ∧ k < w.heap.size) w] := Hq.start_box w hb hbox
theorem own_in {b : Nat} {w w' : World} {L : List Part} (H : Hq b w w' L) {g : Nat} {cs' : Array Value} (ig ir io : Nat) (eg : L[ig]? = some (.box g cs' 113)) (er : L[ir]? = some (.set (fun k => k ≠ g ∧ b ≤ k ∧ k < w.heap.size) w)) {S : Nat → Prop} {wo : World} (eo : L[io]? = some (.set S wo)) (n1 : io ≠ ig) (n2 : io ≠ ir) (k : Nat) (hS : S k) : w.heap.size ≤ k ∧ k < w'.heap.size := by
  have hin := H.set_in io eo k hS
  refine ⟨Nat.le_of_not_lt fun hlt => ?_, hin.2⟩
  by_cases hg : k = g
  · exact H.apart io ig n1 eo eg k hS hg
  · exact H.apart io ir n2 eo er k hS ⟨hg, hin.1, hlt⟩
theorem kept_in {b : Nat} {w w' : World} {L : List Part} (H : Hq b w w' L) {g : Nat} (ir : Nat) (er : L[ir]? = some (.set (fun k => k ≠ g ∧ b ≤ k ∧ k < w.heap.size) w)) : ∀ k, k < w.heap.size → k ≠ g → w'.heap[k]? = w.heap[k]? := fun k h1 h2 => by
  by_cases hb : b ≤ k
  · exact H.same ir er k ⟨h2, hb, h1⟩
  · exact H.bel.block k (by omega)
end Go.Proofs.Ytkoimmeghdbodaa.Hq
namespace Go.Proofs.Ytkoimmeghdbodaa.Hq
open Go.RowKit Go.Proofs.Ytkoimmeghdbodaa.Print Go.Proofs.YtkoimmeghdbodaaW.PrintWords Go.Proofs.YtkoimmeghdbodaaW.PrintLast Go.Proofs.YtkoimmeghdbodaaW.PrintMore Go.Proofs.Ytkoimmeghdbodaa.Pure Go.Proofs.Ytkoimmeghdbodaa.Hd
theorem find_callq' {base : Nat} {ws w : World} {L : List Part} {S : Nat → Prop} {wo : World} {b : Nat} (H : Hq base ws w L) (j : Nat) (ej : L[j]? = some (.set S wo)) {A : Option Addr} {c dn : Nat} {D : List S65} (hn : D.length = dn) (O : r65.R 65 wo b S (.slice A dn c) D) (hl : D.length ≤ 10) (tx : Int) (x : ByteArray) :
    Calls Try.prog 115 #[.agg #[.int .i64 tx, .slice A dn c], .string x] w fun e w' => ∃ r : Int, e = .returned (.int .i64 r) ∧ Below w.heap.size w w' := by
  subst hn
  exact find_callq H j ej O hl tx x
theorem all_callq' {base : Nat} {ws w : World} {L : List Part} {S : Nat → Prop} {wo : World} (H : Hq base ws w L) (j : Nat) (ej : L[j]? = some (.set S wo)) {A : Option Addr} {c dn : Nat} {D : List S65} (hn : D.length = dn) (O : r65.R 65 wo base S (.slice A dn c) D) (hl : D.length ≤ 10) (hD : GV D) (tx : Int) :
    Calls Try.prog 86 #[.agg #[.int .i64 tx, .slice A dn c]] w fun e w' => ∃ v, e = .returned v ∧ q29.R 29 w' base (newS S w w') v (ptrs D) ∧ Hq base ws w' (L.set j (.set (newS S w w') w')) ∧ ∀ k, S k → newS S w w' k ∧ w'.heap[k]? = wo.heap[k]? := by
  subst hn
  exact all_callq H j ej O hl hD tx
theorem gv_snoc {D q : List S65} {s : ByteArray} {l : List S29} (hq : q = D ++ [⟨s, l⟩]) (hD : GV D) (hl : GB l) : GV q := by
  subst hq
  intro x hx
  rcases List.mem_append.1 hx with h | h
  · exact hD x h
  · rw [List.mem_singleton.1 h]
    exact hl
theorem ptrs_small {D : List S65} (h : GV D) : (ptrs D).length = 3 * D.length := by
  have := ptrs_take_len (vs := D) (fun x hx => (h x hx).1) D.length (Nat.le_refl _)
  rwa [List.take_length] at this
theorem ptrs_five {D : List S65} (h : GV D) {i : Nat} (hi : i < (ptrs D).length) : ((ptrs D).getD i z29).f2.length ≤ 5 := by
  obtain ⟨x, hx, hy⟩ := List.mem_flatMap.1 (getD_mem (l := ptrs D) (z := z29) hi)
  exact (h x hx).2 _ hy
set_option maxHeartbeats 16000000 in
set_option maxRecDepth 100000 in
theorem l71Root_calls {w0 w : World} {b : List Int} {g m : Nat} {n : Int} {cs : Array Value} (hn : 3 ≤ n ∧ n ≤ 4) (hB : Below w0.heap.size w0 w) (hbox : w.heap[g]? = some (.cells cs 113 (0, 0))) (hge : w0.heap.size ≤ g) (hr : Rdr w0 b (m + 2500) cs) : Calls Try.prog 89 #[.pointer (some ⟨g, 0, none⟩), .int .i64 n] w (DrawsRoot w0 b g m w) := by
  have hs57 := size57
  have hs65 := size65q
  have hs29 := size29q
  have HNN := Az.mk hn
  have HB := Az.mk hB
  have HR := Az.mk hr
  have H := Az.mk (Hq.start_box' w hge hbox)
  have tk0 : True := trivial
  clear hB hbox hge hr hn
  go_enter Try.func89, Try.ntmps89
  go_wp2_with (first | ((with_reducible refine zqg (N := 4) rfl ?_); refine H.out.bx rfl (#[.int .i64 0, .slice none 0 0]) 57 ?hr ?_; (case hr => first | (go_simp; done) | (go_simp; rfl)); intro g4 w4 H1; clear H; have H := H1; clear H1; (try simp only [Act.put, zs1, zs2, zs3])) | (go_at_call 65; have _tk := tk0; refine (pick_callq (m := m + 2499) HB.out H.out 1 rfl (HR.out.less (by omega)) (9) (by omega)).mono ?_; rintro e w15 ⟨r15, c15, rfl, hr15, hrd, h1⟩; have HR1 := Az.mk hrd; have H1 := Az.mk h1; have hz15 := eq_true (Int.natCast_nonneg r15); clear hrd h1; clear H HR; have H := H1; have HR := HR1; clear H1 HR1; clear tk0 _tk; have tk1 : True := trivial) | ((with_reducible refine zqg (N := 16) rfl ?_); refine H.out.none65 rfl ?hr ?_; (case hr => first | (go_simp; done) | (go_simp; rfl)); intro gv w16 H1 O; clear H; have H := H1; clear H1; (try simp only [Act.put, zs1, zs2, zs3])) | ((with_reducible refine zqg (N := 5) rfl ?_); refine H.out.bx rfl (#[.int .i64 0, .slice none 0 0]) 57 ?hr ?_; (case hr => first | (go_simp; done) | (go_simp; rfl)); intro g5 w5 H1; clear H; have H := H1; clear H1; (try simp only [Act.put, zs1, zs2, zs3])) | ((with_reducible refine gate_store (t := 57) (p := 5) rfl ?_); refine H.out.st_row 0 rfl rfl (x := .tmp 5) (y := .tmp 17) rfl rfl rfl (#[.int .i64 (r15 : Int), .slice (some ⟨gv, 0, none⟩) 0 0]) rfl hs57 rfl (by simp [Value.oneCell']) ?_; intro ws1 H1; clear H; have H := H1; clear H1) | (go_at_call 65; have _tk := tk1; refine (pick_callq (m := m + 2498) HB.out H.out 3 rfl (HR.out.less (by omega)) (5) (by omega)).mono ?_; rintro e w19 ⟨r19, c19, rfl, hr19, hrd, h1⟩; have HR1 := Az.mk hrd; have H1 := Az.mk h1; have hz19 := eq_true (Int.natCast_nonneg r19); clear hrd h1; clear H HR; have H := H1; have HR := HR1; clear H1 HR1; clear tk1 _tk; have tk2 : True := trivial))
  go_loopg [6] 5 (fun kq v6 w' => ∃ (n6 : Nat) (A5 : Option Addr) (c5 dn : Nat) (D : List S65) (S : Nat → Prop) (wo : World) (c : Array Value), v6 = .int .i64 (n6 : Int) ∧ Az (n6 + 1 ≤ kq ∧ kq ≤ 5) ∧ Az (D.length + n6 ≤ 4) ∧ Az (D.length = dn) ∧ Az (GV D) ∧ Az (Rdr w0 b (m + 500 * n6) c) ∧ Az (r65.R 65 wo w0.heap.size S (.slice A5 dn c5) D) ∧ Az (Hq w0.heap.size w w' [.box g5 (#[.int .i64 (r15 : Int), .slice A5 dn c5]) 57, .set S wo, .box g4 (#[.int .i64 0, .slice none 0 0]) 57, .box g c 113, .set (fun k => k ≠ g ∧ w0.heap.size ≤ k ∧ k < w.heap.size) w]))
  case atStart => exact ⟨r19, some ⟨gv, 0, none⟩, 0, 0, [], _, _, _, rfl, ⟨by omega⟩, ⟨by simp; omega⟩, ⟨rfl⟩, ⟨fun x hx => by cases hx⟩, ⟨HR.out.less (by omega)⟩, O, ⟨H.out.sel [0, 1, 2, 3, 4] _ (by decide) rfl⟩⟩
  case round =>
    clear H HR O
    obtain ⟨n6, A5, c5, dn, D, S, wo, c, rfl, HN, HLE, HDN, HD, HR, O, H⟩ := hrel
    cases gk with
    | zero => exact absurd HN.out.1 (by omega)
    | succ k1 =>
      have tk0 : True := trivial
      by_cases hn : 0 < (n6 : Int)
      · have c21 : decide (0 < (n6 : Int)) = true := decide_eq_true hn
        have c21n : decide (0 < n6) = true := decide_eq_true (by omega)
        have HP := Az.mk hn
        clear hn
        go_upto_region 5 with fail
        (try simp only [Act.put, zs1, zs2, zs3])
        go_cut [7] (fun v7 wc => ∃ (g7 gB cB : Nat) (s7 : ByteArray) (l : List S29) (S : Nat → Prop) (wo : World) (c : Array Value), v7 = .pointer (some ⟨g7, 0, none⟩) ∧ Az (GB l) ∧ Az (Rdr w0 b (m + 500 * (n6 - 1) + 498) c) ∧ Az (r65.R 65 wo w0.heap.size S (.slice A5 dn c5) D) ∧ Az (q29.R 29 wo w0.heap.size S (.slice (some ⟨gB, 0, none⟩) 3 cB) l) ∧ Az (Hq w0.heap.size w wc [.box g7 (#[.string s7, .slice (some ⟨gB, 0, none⟩) 3 cB]) 65, .set S wo, .box g5 (#[.int .i64 (r15 : Int), .slice A5 dn c5]) 57, .box g4 (#[.int .i64 0, .slice none 0 0]) 57, .box g c 113, .set (fun k => k ≠ g ∧ w0.heap.size ≤ k ∧ k < w.heap.size) w]))
        case first =>
          refine start_ (n := 7) (S := fun w' => Hq w0.heap.size w w' []) (ds := []) (bm 7 0) (by kernel_rfl) rfl rfl (H.out.drew.sel [] _ (by decide) rfl) (fun hHeld => ?_)
          have H1 := Az.mk H.out.drew
          clear H; have H := H1; clear H1
          generalize World.drew wr = wd5 at hHeld H ⊢
          refine zP 0 (some 24) (bm 7 1) ?_
          refine join_ (σ := Nat × ByteArray × Nat × Nat × Nat) 1 (bm 7 63) (fun s => [(25, .slice (some ⟨s.1, 0, none⟩) 6 6), (26, .string s.2.1), (27, .slice (some ⟨s.2.2.1, 0, none⟩) 3 s.2.2.2.1), (28, .agg #[.string s.2.1, .slice (some ⟨s.2.2.1, 0, none⟩) 3 s.2.2.2.1]), (7, .pointer (some ⟨s.2.2.2.2, 0, none⟩))]) (fun s w' => ∃ (S : Nat → Prop) (wo : World) (c : Array Value), Az (Rdr w0 b (m + 500 * (n6 - 1) + 498) c) ∧ Az (r65.R 65 wo w0.heap.size S (.slice A5 dn c5) D) ∧ Az (q29.R 29 wo w0.heap.size S (.slice (some ⟨s.2.2.1, 0, none⟩) 3 s.2.2.2.1) (List.replicate 3 z29)) ∧ Az (Hq w0.heap.size w w' [.box s.2.2.2.2 (#[.string ⟨#[]⟩, .slice none 0 0]) 65, .set S wo, .box g5 (#[.int .i64 (r15 : Int), .slice A5 dn c5]) 57, .box g4 (#[.int .i64 0, .slice none 0 0]) 57, .box g c 113, .set (fun k => k ≠ g ∧ w0.heap.size ≤ k ∧ k < w.heap.size) w])) ?_ ?_
          · rintro ⟨gn, s26, gB, cB, g7⟩ wj ⟨S, wo, c, HR, O, V, H⟩
            refine norm_ (a' := ?_) ?_ ?_
            rotate_left
            · simp only [putAll, Act.put, zs1, zs2, zs3]
              rfl
            refine one_ (i := 6) (N := none) (bm 7 127) rfl rfl (by kernel_rfl) (by decide) (fun K hK => ?_)
            refine H.out.st_ 0 rfl (by rfl) (x := .tmp 7) (y := .tmp 28) rfl rfl rfl (#[.string s26, .slice (some ⟨gB, 0, none⟩) 3 cB]) rfl hs65 rfl (by simp [Value.oneCell']) ?_
            intro ws5 H1
            clear H; have H := H1; clear H1
            refine hK.out _ _ (H.out.sel [] _ (by decide) rfl) (fun hHeld => ?_)
            clear hK K
            refine norm_ (a' := ?_) ?_ ?_
            rotate_left
            · rfl
            refine done_ (by kernel_rfl) ?_
            try go_wp2
            go_meet
            case rel => exact ⟨g7, gB, cB, s26, _, _, _, _, rfl, ⟨gb_new⟩, ⟨HR.out.less (by omega)⟩, O, V, ⟨H.out.sel [0, 1, 2, 3, 4, 5] _ (by decide) rfl⟩⟩
          · intro hcont
            refine three_ (i := 1) (j := 3) (k := 5) (Ni := some 25) (Nj := some 27) (Nk := some 7) (bm 7 3) (bm 7 9) (bm 7 33) rfl rfl rfl rfl rfl rfl (by kernel_rfl) (by decide) (by decide) (by decide) ?_ ?_ ?_
            · intro K hK
              refine H.out.lit_ (by rfl) (#[.string ⟨#[97]⟩, .string ⟨#[98]⟩, .string ⟨#[99, 100]⟩, .string ⟨#[120, 121, 122]⟩, .string ⟨#[113]⟩, .string ⟨#[122, 122]⟩]) 9 6 ?hr ?_
              (case hr => first | (go_simp; done) | (go_simp; rfl))
              intro gn w25 H1
              clear H; have H := H1; clear H1
              refine hK.out _ _ ?_ (fun hHeld => ?_)
              · exact H.out.sel [] _ (by decide) rfl
              clear hK K hHeld
              refine three_ (i := 2) (j := 3) (k := 5) (Ni := some 26) (Nj := some 27) (Nk := some 7) (bm 7 7) (bm 7 11) (bm 7 35) rfl rfl rfl rfl rfl rfl (by kernel_rfl) (by decide) (by decide) (by decide) ?_ ?_ ?_
              · intro K hK
                refine goes_ Try.func114 (by kernel_rfl) rfl #[.pointer (some ⟨g, 0, none⟩), .slice (some ⟨gn, 0, none⟩) 6 6] (by rfl) rfl rfl (by (try simp only [List.map_toArray, List.map_cons, List.map_nil]); first | done | rfl) ?_
                refine (of_callq (m := m + 500 * (n6 - 1) + 498) (l := [⟨#[97]⟩, ⟨#[98]⟩, ⟨#[99, 100]⟩, ⟨#[120, 121, 122]⟩, ⟨#[113]⟩, ⟨#[122, 122]⟩]) HB.out H.out 4 0 (by decide) rfl rfl (by decide) rfl (by decide) (HR.out.less (by have := HP.out; omega))).mono ?_
                rintro e w26 ⟨s26, c26, rfl, _, hrd, h1⟩
                refine ⟨_, rfl, ?_⟩
                have HR1 := Az.mk hrd
                have H1 := Az.mk h1
                clear hrd h1
                clear H HR; have H := H1; have HR := HR1; clear H1 HR1
                refine hK.out _ _ ?_ (fun hHeld => ?_)
                · exact H.out.sel [] _ (by decide) rfl
                clear hK K hHeld
                refine two_ (i := 3) (j := 5) (Ni := some 27) (Nj := some 7) (bm 7 15) (bm 7 39) rfl rfl rfl rfl (by kernel_rfl) (by decide) (by decide) ?_ ?_
                · intro K hK
                  refine H.out.make29_ 2 rfl (by rfl) rfl rfl ?_
                  intro gB cB w27 H1 hup V
                  have O1 := Az.mk (R_up O.out hup)
                  clear hup
                  clear H O; have H := H1; have O := O1; clear H1 O1
                  refine hK.out _ _ ?_ (fun hHeld => ?_)
                  · exact H.out.sel [] _ (by decide) rfl
                  clear hK K hHeld
                  refine zP 4 (some 28) (bm 7 31) ?_
                  refine one_ (i := 5) (N := some 7) (bm 7 63) rfl rfl (by kernel_rfl) (by decide) (fun K hK => ?_)
                  refine H.out.bx_ (by rfl) (#[.string ⟨#[]⟩, .slice none 0 0]) 65 ?hr ?_
                  (case hr => first | (go_simp; done) | (go_simp; rfl))
                  intro g7 w7 H1
                  clear H; have H := H1; clear H1
                  refine hK.out _ _ ?_ (fun hHeld => ?_)
                  · exact H.out.sel [] _ (by decide) rfl
                  clear hK K hHeld
                  refine norm_ ?_ (hcont (gn, s26, gB, cB, g7) _ ⟨_, _, _, ⟨HR.out.less (by omega)⟩, O, V, ⟨H.out.sel [0, 3, 2, 4, 5, 6] _ (by decide) rfl⟩⟩)
                  simp only [putAll, Act.put, zs1, zs2, zs3]
                  rfl
                · intro K hK
                  refine H.out.bx_ (by rfl) (#[.string ⟨#[]⟩, .slice none 0 0]) 65 ?hr ?_
                  (case hr => first | (go_simp; done) | (go_simp; rfl))
                  intro g7 w7 H1
                  clear H; have H := H1; clear H1
                  refine hK.out _ _ ?_ (fun hHeld => ?_)
                  · exact H.out.sel [] _ (by decide) rfl
                  clear hK K hHeld
                  refine one_ (i := 3) (N := some 27) (bm 7 47) rfl rfl (by kernel_rfl) (by decide) (fun K hK => ?_)
                  refine H.out.make29_ 3 rfl (by rfl) rfl rfl ?_
                  intro gB cB w27 H1 hup V
                  have O1 := Az.mk (R_up O.out hup)
                  clear hup
                  clear H O; have H := H1; have O := O1; clear H1 O1
                  refine hK.out _ _ ?_ (fun hHeld => ?_)
                  · exact H.out.sel [] _ (by decide) rfl
                  clear hK K hHeld
                  refine zP 4 (some 28) (bm 7 63) ?_
                  refine norm_ ?_ (hcont (gn, s26, gB, cB, g7) _ ⟨_, _, _, ⟨HR.out.less (by omega)⟩, O, V, ⟨H.out.sel [0, 3, 2, 4, 5, 6] _ (by decide) rfl⟩⟩)
                  simp only [putAll, Act.put, zs1, zs2, zs3]
                  rfl
              · intro K hK
                refine H.out.make29_ 2 rfl (by rfl) rfl rfl ?_
                intro gB cB w27 H1 hup V
                have O1 := Az.mk (R_up O.out hup)
                clear hup
                clear H O; have H := H1; have O := O1; clear H1 O1
                refine hK.out _ _ ?_ (fun hHeld => ?_)
                · exact H.out.sel [] _ (by decide) rfl
                clear hK K hHeld
                refine two_ (i := 2) (j := 5) (Ni := some 26) (Nj := some 7) (bm 7 15) (bm 7 43) rfl rfl rfl rfl (by kernel_rfl) (by decide) (by decide) ?_ ?_
                · intro K hK
                  refine goes_ Try.func114 (by kernel_rfl) rfl #[.pointer (some ⟨g, 0, none⟩), .slice (some ⟨gn, 0, none⟩) 6 6] (by rfl) rfl rfl (by (try simp only [List.map_toArray, List.map_cons, List.map_nil]); first | done | rfl) ?_
                  refine (of_callq (m := m + 500 * (n6 - 1) + 498) (l := [⟨#[97]⟩, ⟨#[98]⟩, ⟨#[99, 100]⟩, ⟨#[120, 121, 122]⟩, ⟨#[113]⟩, ⟨#[122, 122]⟩]) HB.out H.out 4 0 (by decide) rfl rfl (by decide) rfl (by decide) (HR.out.less (by have := HP.out; omega))).mono ?_
                  rintro e w26 ⟨s26, c26, rfl, _, hrd, h1⟩
                  refine ⟨_, rfl, ?_⟩
                  have HR1 := Az.mk hrd
                  have H1 := Az.mk h1
                  clear hrd h1
                  clear H HR; have H := H1; have HR := HR1; clear H1 HR1
                  refine hK.out _ _ ?_ (fun hHeld => ?_)
                  · exact H.out.sel [] _ (by decide) rfl
                  clear hK K hHeld
                  refine zP 4 (some 28) (bm 7 31) ?_
                  refine one_ (i := 5) (N := some 7) (bm 7 63) rfl rfl (by kernel_rfl) (by decide) (fun K hK => ?_)
                  refine H.out.bx_ (by rfl) (#[.string ⟨#[]⟩, .slice none 0 0]) 65 ?hr ?_
                  (case hr => first | (go_simp; done) | (go_simp; rfl))
                  intro g7 w7 H1
                  clear H; have H := H1; clear H1
                  refine hK.out _ _ ?_ (fun hHeld => ?_)
                  · exact H.out.sel [] _ (by decide) rfl
                  clear hK K hHeld
                  refine norm_ ?_ (hcont (gn, s26, gB, cB, g7) _ ⟨_, _, _, ⟨HR.out.less (by omega)⟩, O, V, ⟨H.out.sel [0, 3, 2, 4, 5, 6] _ (by decide) rfl⟩⟩)
                  simp only [putAll, Act.put, zs1, zs2, zs3]
                  rfl
                · intro K hK
                  refine H.out.bx_ (by rfl) (#[.string ⟨#[]⟩, .slice none 0 0]) 65 ?hr ?_
                  (case hr => first | (go_simp; done) | (go_simp; rfl))
                  intro g7 w7 H1
                  clear H; have H := H1; clear H1
                  refine hK.out _ _ ?_ (fun hHeld => ?_)
                  · exact H.out.sel [] _ (by decide) rfl
                  clear hK K hHeld
                  refine one_ (i := 2) (N := some 26) (bm 7 47) rfl rfl (by kernel_rfl) (by decide) (fun K hK => ?_)
                  refine goes_ Try.func114 (by kernel_rfl) rfl #[.pointer (some ⟨g, 0, none⟩), .slice (some ⟨gn, 0, none⟩) 6 6] (by rfl) rfl rfl (by (try simp only [List.map_toArray, List.map_cons, List.map_nil]); first | done | rfl) ?_
                  refine (of_callq (m := m + 500 * (n6 - 1) + 498) (l := [⟨#[97]⟩, ⟨#[98]⟩, ⟨#[99, 100]⟩, ⟨#[120, 121, 122]⟩, ⟨#[113]⟩, ⟨#[122, 122]⟩]) HB.out H.out 5 1 (by decide) rfl rfl (by decide) rfl (by decide) (HR.out.less (by have := HP.out; omega))).mono ?_
                  rintro e w26 ⟨s26, c26, rfl, _, hrd, h1⟩
                  refine ⟨_, rfl, ?_⟩
                  have HR1 := Az.mk hrd
                  have H1 := Az.mk h1
                  clear hrd h1
                  clear H HR; have H := H1; have HR := HR1; clear H1 HR1
                  refine hK.out _ _ ?_ (fun hHeld => ?_)
                  · exact H.out.sel [] _ (by decide) rfl
                  clear hK K hHeld
                  refine zP 4 (some 28) (bm 7 63) ?_
                  refine norm_ ?_ (hcont (gn, s26, gB, cB, g7) _ ⟨_, _, _, ⟨HR.out.less (by omega)⟩, O, V, ⟨H.out.sel [0, 3, 2, 4, 5, 6] _ (by decide) rfl⟩⟩)
                  simp only [putAll, Act.put, zs1, zs2, zs3]
                  rfl
              · intro K hK
                refine H.out.bx_ (by rfl) (#[.string ⟨#[]⟩, .slice none 0 0]) 65 ?hr ?_
                (case hr => first | (go_simp; done) | (go_simp; rfl))
                intro g7 w7 H1
                clear H; have H := H1; clear H1
                refine hK.out _ _ ?_ (fun hHeld => ?_)
                · exact H.out.sel [] _ (by decide) rfl
                clear hK K hHeld
                refine two_ (i := 2) (j := 3) (Ni := some 26) (Nj := some 27) (bm 7 39) (bm 7 43) rfl rfl rfl rfl (by kernel_rfl) (by decide) (by decide) ?_ ?_
                · intro K hK
                  refine goes_ Try.func114 (by kernel_rfl) rfl #[.pointer (some ⟨g, 0, none⟩), .slice (some ⟨gn, 0, none⟩) 6 6] (by rfl) rfl rfl (by (try simp only [List.map_toArray, List.map_cons, List.map_nil]); first | done | rfl) ?_
                  refine (of_callq (m := m + 500 * (n6 - 1) + 498) (l := [⟨#[97]⟩, ⟨#[98]⟩, ⟨#[99, 100]⟩, ⟨#[120, 121, 122]⟩, ⟨#[113]⟩, ⟨#[122, 122]⟩]) HB.out H.out 5 1 (by decide) rfl rfl (by decide) rfl (by decide) (HR.out.less (by have := HP.out; omega))).mono ?_
                  rintro e w26 ⟨s26, c26, rfl, _, hrd, h1⟩
                  refine ⟨_, rfl, ?_⟩
                  have HR1 := Az.mk hrd
                  have H1 := Az.mk h1
                  clear hrd h1
                  clear H HR; have H := H1; have HR := HR1; clear H1 HR1
                  refine hK.out _ _ ?_ (fun hHeld => ?_)
                  · exact H.out.sel [] _ (by decide) rfl
                  clear hK K hHeld
                  refine one_ (i := 3) (N := some 27) (bm 7 47) rfl rfl (by kernel_rfl) (by decide) (fun K hK => ?_)
                  refine H.out.make29_ 3 rfl (by rfl) rfl rfl ?_
                  intro gB cB w27 H1 hup V
                  have O1 := Az.mk (R_up O.out hup)
                  clear hup
                  clear H O; have H := H1; have O := O1; clear H1 O1
                  refine hK.out _ _ ?_ (fun hHeld => ?_)
                  · exact H.out.sel [] _ (by decide) rfl
                  clear hK K hHeld
                  refine zP 4 (some 28) (bm 7 63) ?_
                  refine norm_ ?_ (hcont (gn, s26, gB, cB, g7) _ ⟨_, _, _, ⟨HR.out.less (by omega)⟩, O, V, ⟨H.out.sel [0, 3, 2, 4, 5, 6] _ (by decide) rfl⟩⟩)
                  simp only [putAll, Act.put, zs1, zs2, zs3]
                  rfl
                · intro K hK
                  refine H.out.make29_ 3 rfl (by rfl) rfl rfl ?_
                  intro gB cB w27 H1 hup V
                  have O1 := Az.mk (R_up O.out hup)
                  clear hup
                  clear H O; have H := H1; have O := O1; clear H1 O1
                  refine hK.out _ _ ?_ (fun hHeld => ?_)
                  · exact H.out.sel [] _ (by decide) rfl
                  clear hK K hHeld
                  refine one_ (i := 2) (N := some 26) (bm 7 47) rfl rfl (by kernel_rfl) (by decide) (fun K hK => ?_)
                  refine goes_ Try.func114 (by kernel_rfl) rfl #[.pointer (some ⟨g, 0, none⟩), .slice (some ⟨gn, 0, none⟩) 6 6] (by rfl) rfl rfl (by (try simp only [List.map_toArray, List.map_cons, List.map_nil]); first | done | rfl) ?_
                  refine (of_callq (m := m + 500 * (n6 - 1) + 498) (l := [⟨#[97]⟩, ⟨#[98]⟩, ⟨#[99, 100]⟩, ⟨#[120, 121, 122]⟩, ⟨#[113]⟩, ⟨#[122, 122]⟩]) HB.out H.out 5 1 (by decide) rfl rfl (by decide) rfl (by decide) (HR.out.less (by have := HP.out; omega))).mono ?_
                  rintro e w26 ⟨s26, c26, rfl, _, hrd, h1⟩
                  refine ⟨_, rfl, ?_⟩
                  have HR1 := Az.mk hrd
                  have H1 := Az.mk h1
                  clear hrd h1
                  clear H HR; have H := H1; have HR := HR1; clear H1 HR1
                  refine hK.out _ _ ?_ (fun hHeld => ?_)
                  · exact H.out.sel [] _ (by decide) rfl
                  clear hK K hHeld
                  refine zP 4 (some 28) (bm 7 63) ?_
                  refine norm_ ?_ (hcont (gn, s26, gB, cB, g7) _ ⟨_, _, _, ⟨HR.out.less (by omega)⟩, O, V, ⟨H.out.sel [0, 3, 2, 4, 5, 6] _ (by decide) rfl⟩⟩)
                  simp only [putAll, Act.put, zs1, zs2, zs3]
                  rfl
            · intro K hK
              refine H.out.make29_ 1 rfl (by rfl) rfl rfl ?_
              intro gB cB w27 H1 hup V
              have O1 := Az.mk (R_up O.out hup)
              clear hup
              clear H O; have H := H1; have O := O1; clear H1 O1
              refine hK.out _ _ ?_ (fun hHeld => ?_)
              · exact H.out.sel [] _ (by decide) rfl
              clear hK K hHeld
              refine two_ (i := 1) (j := 5) (Ni := some 25) (Nj := some 7) (bm 7 11) (bm 7 41) rfl rfl rfl rfl (by kernel_rfl) (by decide) (by decide) ?_ ?_
              · intro K hK
                refine H.out.lit_ (by rfl) (#[.string ⟨#[97]⟩, .string ⟨#[98]⟩, .string ⟨#[99, 100]⟩, .string ⟨#[120, 121, 122]⟩, .string ⟨#[113]⟩, .string ⟨#[122, 122]⟩]) 9 6 ?hr ?_
                (case hr => first | (go_simp; done) | (go_simp; rfl))
                intro gn w25 H1
                clear H; have H := H1; clear H1
                refine hK.out _ _ ?_ (fun hHeld => ?_)
                · exact H.out.sel [] _ (by decide) rfl
                clear hK K hHeld
                refine two_ (i := 2) (j := 5) (Ni := some 26) (Nj := some 7) (bm 7 15) (bm 7 43) rfl rfl rfl rfl (by kernel_rfl) (by decide) (by decide) ?_ ?_
                · intro K hK
                  refine goes_ Try.func114 (by kernel_rfl) rfl #[.pointer (some ⟨g, 0, none⟩), .slice (some ⟨gn, 0, none⟩) 6 6] (by rfl) rfl rfl (by (try simp only [List.map_toArray, List.map_cons, List.map_nil]); first | done | rfl) ?_
                  refine (of_callq (m := m + 500 * (n6 - 1) + 498) (l := [⟨#[97]⟩, ⟨#[98]⟩, ⟨#[99, 100]⟩, ⟨#[120, 121, 122]⟩, ⟨#[113]⟩, ⟨#[122, 122]⟩]) HB.out H.out 4 0 (by decide) rfl rfl (by decide) rfl (by decide) (HR.out.less (by have := HP.out; omega))).mono ?_
                  rintro e w26 ⟨s26, c26, rfl, _, hrd, h1⟩
                  refine ⟨_, rfl, ?_⟩
                  have HR1 := Az.mk hrd
                  have H1 := Az.mk h1
                  clear hrd h1
                  clear H HR; have H := H1; have HR := HR1; clear H1 HR1
                  refine hK.out _ _ ?_ (fun hHeld => ?_)
                  · exact H.out.sel [] _ (by decide) rfl
                  clear hK K hHeld
                  refine zP 4 (some 28) (bm 7 31) ?_
                  refine one_ (i := 5) (N := some 7) (bm 7 63) rfl rfl (by kernel_rfl) (by decide) (fun K hK => ?_)
                  refine H.out.bx_ (by rfl) (#[.string ⟨#[]⟩, .slice none 0 0]) 65 ?hr ?_
                  (case hr => first | (go_simp; done) | (go_simp; rfl))
                  intro g7 w7 H1
                  clear H; have H := H1; clear H1
                  refine hK.out _ _ ?_ (fun hHeld => ?_)
                  · exact H.out.sel [] _ (by decide) rfl
                  clear hK K hHeld
                  refine norm_ ?_ (hcont (gn, s26, gB, cB, g7) _ ⟨_, _, _, ⟨HR.out.less (by omega)⟩, O, V, ⟨H.out.sel [0, 3, 2, 4, 5, 6] _ (by decide) rfl⟩⟩)
                  simp only [putAll, Act.put, zs1, zs2, zs3]
                  rfl
                · intro K hK
                  refine H.out.bx_ (by rfl) (#[.string ⟨#[]⟩, .slice none 0 0]) 65 ?hr ?_
                  (case hr => first | (go_simp; done) | (go_simp; rfl))
                  intro g7 w7 H1
                  clear H; have H := H1; clear H1
                  refine hK.out _ _ ?_ (fun hHeld => ?_)
                  · exact H.out.sel [] _ (by decide) rfl
                  clear hK K hHeld
                  refine one_ (i := 2) (N := some 26) (bm 7 47) rfl rfl (by kernel_rfl) (by decide) (fun K hK => ?_)
                  refine goes_ Try.func114 (by kernel_rfl) rfl #[.pointer (some ⟨g, 0, none⟩), .slice (some ⟨gn, 0, none⟩) 6 6] (by rfl) rfl rfl (by (try simp only [List.map_toArray, List.map_cons, List.map_nil]); first | done | rfl) ?_
                  refine (of_callq (m := m + 500 * (n6 - 1) + 498) (l := [⟨#[97]⟩, ⟨#[98]⟩, ⟨#[99, 100]⟩, ⟨#[120, 121, 122]⟩, ⟨#[113]⟩, ⟨#[122, 122]⟩]) HB.out H.out 5 1 (by decide) rfl rfl (by decide) rfl (by decide) (HR.out.less (by have := HP.out; omega))).mono ?_
                  rintro e w26 ⟨s26, c26, rfl, _, hrd, h1⟩
                  refine ⟨_, rfl, ?_⟩
                  have HR1 := Az.mk hrd
                  have H1 := Az.mk h1
                  clear hrd h1
                  clear H HR; have H := H1; have HR := HR1; clear H1 HR1
                  refine hK.out _ _ ?_ (fun hHeld => ?_)
                  · exact H.out.sel [] _ (by decide) rfl
                  clear hK K hHeld
                  refine zP 4 (some 28) (bm 7 63) ?_
                  refine norm_ ?_ (hcont (gn, s26, gB, cB, g7) _ ⟨_, _, _, ⟨HR.out.less (by omega)⟩, O, V, ⟨H.out.sel [0, 3, 2, 4, 5, 6] _ (by decide) rfl⟩⟩)
                  simp only [putAll, Act.put, zs1, zs2, zs3]
                  rfl
              · intro K hK
                refine H.out.bx_ (by rfl) (#[.string ⟨#[]⟩, .slice none 0 0]) 65 ?hr ?_
                (case hr => first | (go_simp; done) | (go_simp; rfl))
                intro g7 w7 H1
                clear H; have H := H1; clear H1
                refine hK.out _ _ ?_ (fun hHeld => ?_)
                · exact H.out.sel [] _ (by decide) rfl
                clear hK K hHeld
                refine one_ (i := 1) (N := some 25) (bm 7 43) rfl rfl (by kernel_rfl) (by decide) (fun K hK => ?_)
                refine H.out.lit_ (by rfl) (#[.string ⟨#[97]⟩, .string ⟨#[98]⟩, .string ⟨#[99, 100]⟩, .string ⟨#[120, 121, 122]⟩, .string ⟨#[113]⟩, .string ⟨#[122, 122]⟩]) 9 6 ?hr ?_
                (case hr => first | (go_simp; done) | (go_simp; rfl))
                intro gn w25 H1
                clear H; have H := H1; clear H1
                refine hK.out _ _ ?_ (fun hHeld => ?_)
                · exact H.out.sel [] _ (by decide) rfl
                clear hK K hHeld
                refine one_ (i := 2) (N := some 26) (bm 7 47) rfl rfl (by kernel_rfl) (by decide) (fun K hK => ?_)
                refine goes_ Try.func114 (by kernel_rfl) rfl #[.pointer (some ⟨g, 0, none⟩), .slice (some ⟨gn, 0, none⟩) 6 6] (by rfl) rfl rfl (by (try simp only [List.map_toArray, List.map_cons, List.map_nil]); first | done | rfl) ?_
                refine (of_callq (m := m + 500 * (n6 - 1) + 498) (l := [⟨#[97]⟩, ⟨#[98]⟩, ⟨#[99, 100]⟩, ⟨#[120, 121, 122]⟩, ⟨#[113]⟩, ⟨#[122, 122]⟩]) HB.out H.out 5 0 (by decide) rfl rfl (by decide) rfl (by decide) (HR.out.less (by have := HP.out; omega))).mono ?_
                rintro e w26 ⟨s26, c26, rfl, _, hrd, h1⟩
                refine ⟨_, rfl, ?_⟩
                have HR1 := Az.mk hrd
                have H1 := Az.mk h1
                clear hrd h1
                clear H HR; have H := H1; have HR := HR1; clear H1 HR1
                refine hK.out _ _ ?_ (fun hHeld => ?_)
                · exact H.out.sel [] _ (by decide) rfl
                clear hK K hHeld
                refine zP 4 (some 28) (bm 7 63) ?_
                refine norm_ ?_ (hcont (gn, s26, gB, cB, g7) _ ⟨_, _, _, ⟨HR.out.less (by omega)⟩, O, V, ⟨H.out.sel [1, 3, 2, 4, 5, 6] _ (by decide) rfl⟩⟩)
                simp only [putAll, Act.put, zs1, zs2, zs3]
                rfl
            · intro K hK
              refine H.out.bx_ (by rfl) (#[.string ⟨#[]⟩, .slice none 0 0]) 65 ?hr ?_
              (case hr => first | (go_simp; done) | (go_simp; rfl))
              intro g7 w7 H1
              clear H; have H := H1; clear H1
              refine hK.out _ _ ?_ (fun hHeld => ?_)
              · exact H.out.sel [] _ (by decide) rfl
              clear hK K hHeld
              refine two_ (i := 1) (j := 3) (Ni := some 25) (Nj := some 27) (bm 7 35) (bm 7 41) rfl rfl rfl rfl (by kernel_rfl) (by decide) (by decide) ?_ ?_
              · intro K hK
                refine H.out.lit_ (by rfl) (#[.string ⟨#[97]⟩, .string ⟨#[98]⟩, .string ⟨#[99, 100]⟩, .string ⟨#[120, 121, 122]⟩, .string ⟨#[113]⟩, .string ⟨#[122, 122]⟩]) 9 6 ?hr ?_
                (case hr => first | (go_simp; done) | (go_simp; rfl))
                intro gn w25 H1
                clear H; have H := H1; clear H1
                refine hK.out _ _ ?_ (fun hHeld => ?_)
                · exact H.out.sel [] _ (by decide) rfl
                clear hK K hHeld
                refine two_ (i := 2) (j := 3) (Ni := some 26) (Nj := some 27) (bm 7 39) (bm 7 43) rfl rfl rfl rfl (by kernel_rfl) (by decide) (by decide) ?_ ?_
                · intro K hK
                  refine goes_ Try.func114 (by kernel_rfl) rfl #[.pointer (some ⟨g, 0, none⟩), .slice (some ⟨gn, 0, none⟩) 6 6] (by rfl) rfl rfl (by (try simp only [List.map_toArray, List.map_cons, List.map_nil]); first | done | rfl) ?_
                  refine (of_callq (m := m + 500 * (n6 - 1) + 498) (l := [⟨#[97]⟩, ⟨#[98]⟩, ⟨#[99, 100]⟩, ⟨#[120, 121, 122]⟩, ⟨#[113]⟩, ⟨#[122, 122]⟩]) HB.out H.out 5 0 (by decide) rfl rfl (by decide) rfl (by decide) (HR.out.less (by have := HP.out; omega))).mono ?_
                  rintro e w26 ⟨s26, c26, rfl, _, hrd, h1⟩
                  refine ⟨_, rfl, ?_⟩
                  have HR1 := Az.mk hrd
                  have H1 := Az.mk h1
                  clear hrd h1
                  clear H HR; have H := H1; have HR := HR1; clear H1 HR1
                  refine hK.out _ _ ?_ (fun hHeld => ?_)
                  · exact H.out.sel [] _ (by decide) rfl
                  clear hK K hHeld
                  refine one_ (i := 3) (N := some 27) (bm 7 47) rfl rfl (by kernel_rfl) (by decide) (fun K hK => ?_)
                  refine H.out.make29_ 3 rfl (by rfl) rfl rfl ?_
                  intro gB cB w27 H1 hup V
                  have O1 := Az.mk (R_up O.out hup)
                  clear hup
                  clear H O; have H := H1; have O := O1; clear H1 O1
                  refine hK.out _ _ ?_ (fun hHeld => ?_)
                  · exact H.out.sel [] _ (by decide) rfl
                  clear hK K hHeld
                  refine zP 4 (some 28) (bm 7 63) ?_
                  refine norm_ ?_ (hcont (gn, s26, gB, cB, g7) _ ⟨_, _, _, ⟨HR.out.less (by omega)⟩, O, V, ⟨H.out.sel [1, 3, 2, 4, 5, 6] _ (by decide) rfl⟩⟩)
                  simp only [putAll, Act.put, zs1, zs2, zs3]
                  rfl
                · intro K hK
                  refine H.out.make29_ 3 rfl (by rfl) rfl rfl ?_
                  intro gB cB w27 H1 hup V
                  have O1 := Az.mk (R_up O.out hup)
                  clear hup
                  clear H O; have H := H1; have O := O1; clear H1 O1
                  refine hK.out _ _ ?_ (fun hHeld => ?_)
                  · exact H.out.sel [] _ (by decide) rfl
                  clear hK K hHeld
                  refine one_ (i := 2) (N := some 26) (bm 7 47) rfl rfl (by kernel_rfl) (by decide) (fun K hK => ?_)
                  refine goes_ Try.func114 (by kernel_rfl) rfl #[.pointer (some ⟨g, 0, none⟩), .slice (some ⟨gn, 0, none⟩) 6 6] (by rfl) rfl rfl (by (try simp only [List.map_toArray, List.map_cons, List.map_nil]); first | done | rfl) ?_
                  refine (of_callq (m := m + 500 * (n6 - 1) + 498) (l := [⟨#[97]⟩, ⟨#[98]⟩, ⟨#[99, 100]⟩, ⟨#[120, 121, 122]⟩, ⟨#[113]⟩, ⟨#[122, 122]⟩]) HB.out H.out 5 0 (by decide) rfl rfl (by decide) rfl (by decide) (HR.out.less (by have := HP.out; omega))).mono ?_
                  rintro e w26 ⟨s26, c26, rfl, _, hrd, h1⟩
                  refine ⟨_, rfl, ?_⟩
                  have HR1 := Az.mk hrd
                  have H1 := Az.mk h1
                  clear hrd h1
                  clear H HR; have H := H1; have HR := HR1; clear H1 HR1
                  refine hK.out _ _ ?_ (fun hHeld => ?_)
                  · exact H.out.sel [] _ (by decide) rfl
                  clear hK K hHeld
                  refine zP 4 (some 28) (bm 7 63) ?_
                  refine norm_ ?_ (hcont (gn, s26, gB, cB, g7) _ ⟨_, _, _, ⟨HR.out.less (by omega)⟩, O, V, ⟨H.out.sel [1, 3, 2, 4, 5, 6] _ (by decide) rfl⟩⟩)
                  simp only [putAll, Act.put, zs1, zs2, zs3]
                  rfl
              · intro K hK
                refine H.out.make29_ 2 rfl (by rfl) rfl rfl ?_
                intro gB cB w27 H1 hup V
                have O1 := Az.mk (R_up O.out hup)
                clear hup
                clear H O; have H := H1; have O := O1; clear H1 O1
                refine hK.out _ _ ?_ (fun hHeld => ?_)
                · exact H.out.sel [] _ (by decide) rfl
                clear hK K hHeld
                refine one_ (i := 1) (N := some 25) (bm 7 43) rfl rfl (by kernel_rfl) (by decide) (fun K hK => ?_)
                refine H.out.lit_ (by rfl) (#[.string ⟨#[97]⟩, .string ⟨#[98]⟩, .string ⟨#[99, 100]⟩, .string ⟨#[120, 121, 122]⟩, .string ⟨#[113]⟩, .string ⟨#[122, 122]⟩]) 9 6 ?hr ?_
                (case hr => first | (go_simp; done) | (go_simp; rfl))
                intro gn w25 H1
                clear H; have H := H1; clear H1
                refine hK.out _ _ ?_ (fun hHeld => ?_)
                · exact H.out.sel [] _ (by decide) rfl
                clear hK K hHeld
                refine one_ (i := 2) (N := some 26) (bm 7 47) rfl rfl (by kernel_rfl) (by decide) (fun K hK => ?_)
                refine goes_ Try.func114 (by kernel_rfl) rfl #[.pointer (some ⟨g, 0, none⟩), .slice (some ⟨gn, 0, none⟩) 6 6] (by rfl) rfl rfl (by (try simp only [List.map_toArray, List.map_cons, List.map_nil]); first | done | rfl) ?_
                refine (of_callq (m := m + 500 * (n6 - 1) + 498) (l := [⟨#[97]⟩, ⟨#[98]⟩, ⟨#[99, 100]⟩, ⟨#[120, 121, 122]⟩, ⟨#[113]⟩, ⟨#[122, 122]⟩]) HB.out H.out 5 0 (by decide) rfl rfl (by decide) rfl (by decide) (HR.out.less (by have := HP.out; omega))).mono ?_
                rintro e w26 ⟨s26, c26, rfl, _, hrd, h1⟩
                refine ⟨_, rfl, ?_⟩
                have HR1 := Az.mk hrd
                have H1 := Az.mk h1
                clear hrd h1
                clear H HR; have H := H1; have HR := HR1; clear H1 HR1
                refine hK.out _ _ ?_ (fun hHeld => ?_)
                · exact H.out.sel [] _ (by decide) rfl
                clear hK K hHeld
                refine zP 4 (some 28) (bm 7 63) ?_
                refine norm_ ?_ (hcont (gn, s26, gB, cB, g7) _ ⟨_, _, _, ⟨HR.out.less (by omega)⟩, O, V, ⟨H.out.sel [1, 3, 2, 4, 5, 6] _ (by decide) rfl⟩⟩)
                simp only [putAll, Act.put, zs1, zs2, zs3]
                rfl
        case rest =>
          clear H O HR
          obtain ⟨g7, gB, cB, s7, l, S, wo, c, rfl, HL, HR, O, V, H⟩ := hcut
          obtain ⟨wc5, hwc⟩ : ∃ x, x = wc := ⟨_, rfl⟩
          rw [← hwc] at H ⊢
          clear hwc wc
          go_upto_if 33 with (first | ((with_reducible refine zqg (N := 29) rfl ?_); refine H.out.ld_row 2 rfl rfl rfl rfl Try.underlying57 rfl hs57 ?_; (try simp only [Act.put, zs1, zs2, zs3])) | ((with_reducible refine zqg (N := 31) rfl ?_); refine H.out.ld_cell 0 rfl 0 (v := .string s7) rfl rfl rfl rfl Try.underlying9 rfl ?_; (try simp only [Act.put, zs1, zs2, zs3])) | (go_at_call 115; have _tk := tk0; refine (find_callq' H.out 1 rfl HDN.out O.out (by have := HLE.out; omega) (r15 : Int) s7).mono ?_; rintro e w32 ⟨r32, rfl, hb⟩; have H1 := Az.mk (H.out.step hb); clear hb; clear H; have H := H1; clear H1; clear tk0 _tk; have tk1 : True := trivial))
          (try simp only [Act.put, zs1, zs2, zs3])
          go_wp2
          · skip
            go_roundg k1
            case measure => omega
            case rel => exact ⟨n6 - 1, A5, c5, dn, D, _, _, _, by have := HP.out; have := HN.out; rw [wrap_ok (by omega)]; congr 1; omega, ⟨by have := HP.out; have := HN.out; omega⟩, ⟨by have := HLE.out; omega⟩, HDN, HD, ⟨HR.out.less (by omega)⟩, O, ⟨H.out.sel [2, 1, 3, 4, 5] _ (by decide) rfl⟩⟩
          · skip
            go_loopg [8] 3 (fun kq v8 w' => ∃ (k : Nat) (D : List S65) (l : List S29) (S : Nat → Prop) (wo : World) (c : Array Value), v8 = .int .i64 (k : Int) ∧ Az (k + kq = 3) ∧ Az (D.length + n6 ≤ 4) ∧ Az (D.length = dn) ∧ Az (GV D) ∧ Az (GB l) ∧ Az (Rdr w0 b (m + 500 * (n6 - 1) + 100 * (3 - k)) c) ∧ Az (r65.R 65 wo w0.heap.size S (.slice A5 dn c5) D) ∧ Az (q29.R 29 wo w0.heap.size S (.slice (some ⟨gB, 0, none⟩) 3 cB) l) ∧ Az (Hq w0.heap.size w w' [.box g7 (#[.string s7, .slice (some ⟨gB, 0, none⟩) 3 cB]) 65, .set S wo, .box g5 (#[.int .i64 (r15 : Int), .slice A5 dn c5]) 57, .box g4 (#[.int .i64 0, .slice none 0 0]) 57, .box g c 113, .set (fun k => k ≠ g ∧ w0.heap.size ≤ k ∧ k < w.heap.size) w]))
            case atStart => exact ⟨0, D, l, _, _, _, rfl, ⟨rfl⟩, HLE, HDN, HD, HL, ⟨HR.out.less (by omega)⟩, O, V, ⟨H.out.sel [0, 1, 2, 3, 4, 5] _ (by decide) rfl⟩⟩
            case round =>
              clear H HR O V HD HDN HLE HL
              obtain ⟨k, D, l, S, wo, c, rfl, HK, HLE, HDN, HD, HL, HR, O, V, H⟩ := hrel
              have tk0 : True := trivial
              by_cases hk : (k : Int) < 3
              · have c35 : decide ((k : Int) < 3) = true := decide_eq_true hk
                have c35n : decide (k < 3) = true := decide_eq_true (by omega)
                have HK3 := Az.mk (show k < 3 by omega)
                clear hk
                obtain ⟨gk8, hg8⟩ : ∃ x, x = gk := ⟨_, rfl⟩
                subst hg8
                go_wp2_with (first | (go_at_call 94; have _tk := tk0; refine (ptr_callq (m := m + 500 * (n6 - 1) + 100 * (2 - k) + 10) HNN.out HB.out H.out 4 1 (by decide) rfl rfl (HR.out.less (by have := HK3.out; omega))).mono ?_; rintro e w40 ⟨y40, v40, c40, rfl, hy, hq, hrd, h1, hup⟩; obtain ⟨A40, d40, rfl, _⟩ := Kd.Q_slice hq; have HY := Az.mk hy; have P9 := Az.mk hq; have HR1 := Az.mk hrd; have H1 := Az.mk h1; have O1 := Az.mk (R_up O.out hup); have V1 := Az.mk (R_up V.out hup); clear hy hq hrd h1 hup; clear H HR O V; have H := H1; have HR := HR1; have O := O1; have V := V1; clear H1 HR1 O1 V1; clear tk0 _tk; have tk1 : True := trivial) | ((with_reducible refine zqg (N := 9) rfl ?_); refine H.out.bx rfl (#[.int .i64 0, .int .i64 0, .slice none 0 0]) 29 ?hr ?_; (case hr => first | (go_simp; done) | (go_simp; rfl)); intro g9 w9 H1; clear H; have H := H1; clear H1; (try simp only [Act.put, zs1, zs2, zs3])) | ((with_reducible refine gate_store (t := 29) (p := 9) rfl ?_); refine H.out.st_row 0 rfl rfl (x := .tmp 9) (y := .tmp 40) rfl rfl rfl (#[.int .i64 y40.f0, .int .i64 y40.f1, .slice A40 y40.f2.length d40]) rfl hs29 rfl (by simp [Value.oneCell']) ?_; intro ws10 H1; clear H; have H := H1; clear H1) | (go_at_call 65; have _tk := tk1; refine (pick_callq (m := m + 500 * (n6 - 1) + 100 * (2 - k) + 9) HB.out H.out 5 rfl (HR.out.less (by omega)) (3) (by omega)).mono ?_; rintro e w42 ⟨r42, c42, rfl, hr42, hrd, h1⟩; have HR1 := Az.mk hrd; have H1 := Az.mk h1; have hz42 := eq_true (Int.natCast_nonneg r42); clear hrd h1; clear H HR; have H := H1; have HR := HR1; clear H1 HR1; clear tk1 _tk; have tk2 : True := trivial) | ((with_reducible refine zqg (N := 44) rfl ?_); refine H.out.ld_row 3 rfl rfl rfl rfl Try.underlying57 rfl hs57 ?_; (try simp only [Act.put, zs1, zs2, zs3])) | (go_at_call 86; have _tk := tk2; refine (all_callq' H.out 2 rfl HDN.out O.out (by have := HLE.out; omega) HD.out (r15 : Int)).mono ?_; rintro e w45 ⟨v45, rfl, hal, h1, hup⟩; obtain ⟨A45, d45, rfl⟩ := Kd.R_slice hal; have AL := Az.mk hal; have H1 := Az.mk h1; have O1 := Az.mk (R_up O.out hup); have V1 := Az.mk (R_up V.out hup); have P91 := Az.mk (Q_up P9.out hup); clear hal h1 hup; clear H O V P9; have H := H1; have O := O1; have V := V1; have P9 := P91; clear H1 O1 V1 P91; clear tk2 _tk; have tk3 : True := trivial))
                obtain ⟨S9, wo9, AL, P9, O, V, H⟩ : ∃ (S9 : Nat → Prop) (wo9 : World), Az (q29.R 29 wo9 w0.heap.size S9 (.slice A45 (ptrs D).length d45) (ptrs D)) ∧ Az (k37.Q 37 wo9 w0.heap.size S9 (.slice A40 y40.f2.length d40) y40.f2) ∧ Az (r65.R 65 wo9 w0.heap.size S9 (.slice A5 dn c5) D) ∧ Az (q29.R 29 wo9 w0.heap.size S9 (.slice (some ⟨gB, 0, none⟩) 3 cB) l) ∧ Az (Hq w0.heap.size w w45 [.box g9 (#[.int .i64 y40.f0, .int .i64 y40.f1, .slice A40 y40.f2.length d40]) 29, .set S9 wo9, .box g7 (#[.string s7, .slice (some ⟨gB, 0, none⟩) 3 cB]) 65, .box g5 (#[.int .i64 (r15 : Int), .slice A5 dn c5]) 57, .box g4 (#[.int .i64 0, .slice none 0 0]) 57, .box g c42 113, .set (fun k => k ≠ g ∧ w0.heap.size ≤ k ∧ k < w.heap.size) w]) := ⟨_, _, AL, P9, O, V, ⟨H.out.sel [0, 2, 1, 3, 4, 5, 6] _ (by decide) rfl⟩⟩
                go_loopg [10, 12] (ptrs D).length (fun kq v10 v12 w' => ∃ (q : Bool) (i : Nat), v10 = .bool q ∧ v12 = .int .i64 (i : Int) ∧ Az (i + kq = (ptrs D).length) ∧ Az (Hq w0.heap.size w w' [.box g9 (#[.int .i64 y40.f0, .int .i64 y40.f1, .slice A40 y40.f2.length d40]) 29, .set S9 wo9, .box g7 (#[.string s7, .slice (some ⟨gB, 0, none⟩) 3 cB]) 65, .box g5 (#[.int .i64 (r15 : Int), .slice A5 dn c5]) 57, .box g4 (#[.int .i64 0, .slice none 0 0]) 57, .box g (c42) 113, .set (fun k => k ≠ g ∧ w0.heap.size ≤ k ∧ k < w.heap.size) w]))
                case atStart => exact ⟨_, 0, rfl, rfl, ⟨Nat.zero_add _⟩, ⟨H.out.sel [0, 1, 2, 3, 4, 5, 6] _ (by decide) rfl⟩⟩
                case round =>
                  clear H
                  obtain ⟨q, i, rfl, rfl, HI, H⟩ := hrel
                  by_cases hi : i < (ptrs D).length
                  · have c49 : decide ((i : Int) < ((ptrs D).length : Int)) = true := decide_eq_true (by omega)
                    have c49n : decide (i < (ptrs D).length) = true := decide_eq_true (by omega)
                    have p1 := eq_true (show (0 : Int) ≤ (i : Int) by omega)
                    have q1 := eq_true (show (i : Int) < ((ptrs D).length : Int) by omega)
                    have HE := Az.mk hi
                    obtain ⟨ga, A58, d58, eA, hs58, hx0, hx1, hx2, hq58⟩ := elem29 AL.out hi
                    subst eA
                    have HWi : Az (wrap64 ((i : Int) + 1) = ((i + 1 : Nat) : Int)) := ⟨by have := ptrs_small HD.out; have := HLE.out; rw [wrap_ok (by omega)]; omega⟩
                    obtain ⟨z, hz⟩ : ∃ z, z = (ptrs D).getD i z29 := ⟨_, rfl⟩
                    rw [← hz] at hx0 hx1 hx2 hq58
                    have hz5 : z.f2.length ≤ 5 := by rw [hz]; exact ptrs_five HD.out hi
                    have hs58 := Az.mk hs58
                    have hx0 := Az.mk hx0
                    have hx1 := Az.mk hx1
                    have hx2 := Az.mk hx2
                    have hq58 := Az.mk hq58
                    clear hi hz
                    obtain ⟨gk9, hg9⟩ : ∃ x, x = gk := ⟨_, rfl⟩
                    subst hg9
                    cases q with
                    | false =>
                      go_wp2
                      refine start_ (n := 11) (S := fun w' => Hq w0.heap.size w w' []) (ds := []) (bm 11 0) (by kernel_rfl) rfl rfl (H.out.drew.sel [] _ (by decide) rfl) (fun hHeld => ?_)
                      have H1 := Az.mk H.out.drew
                      clear H; have H := H1; clear H1
                      generalize World.drew wr = wd16 at hHeld H ⊢
                      refine zP 0 (some 52) (bm 11 1) ?_
                      refine zP 1 (some 53) (bm 11 3) ?_
                      refine zO 2 (some 54) (bm 11 7) ?_
                      refine zO 3 (some 55) (bm 11 15) ?_
                      refine zO 4 (some 56) (bm 11 31) ?_
                      refine zO 5 (some 57) (bm 11 63) ?_
                      refine zO 6 (some 58) (bm 11 127) ?_
                      refine zO 7 (some 59) (bm 11 255) ?_
                      refine zO 8 (some 60) (bm 11 511) ?_
                      refine zP 9 (some 61) (bm 11 1023) ?_
                      refine zP 10 (some 10) (bm 11 2047) ?_
                      refine done_ (by kernel_rfl) ?_
                      go_wp2
                      go_roundg ((ptrs D).length - (i + 1))
                      case measure => have := HI.out; have := HE.out; omega
                      case rel => exact ⟨_, i + 1, rfl, by rw [← HWi.out], ⟨by have := HE.out; omega⟩, ⟨H.out.sel [0, 1, 2, 3, 4, 5, 6] _ (by decide) rfl⟩⟩
                    | true =>
                      go_wp2
                      refine start_ (n := 11) (S := fun w' => Hq w0.heap.size w w' [.box g9 (#[.int .i64 y40.f0, .int .i64 y40.f1, .slice A40 y40.f2.length d40]) 29, .set S9 wo9]) (ds := []) (bm 11 0) (by kernel_rfl) rfl rfl (H.out.drew.sel [0, 1] _ (by decide) rfl) (fun hHeld => ?_)
                      have H1 := Az.mk H.out.drew
                      clear H; have H := H1; clear H1
                      generalize World.drew wr = wd16 at hHeld H ⊢
                      refine zP 0 (some 52) (bm 11 1) ?_
                      refine zP 1 (some 53) (bm 11 3) ?_
                      refine zqt (i := 2) (N := some 54) (v := .agg (#[.int .i64 y40.f0, .int .i64 y40.f1, .slice A40 y40.f2.length d40])) (a' := ?_) (bm 11 7) rfl rfl (by kernel_rfl) (fun _ _ _ h => h) (Or.inl ⟨by rfl, fun w' s0 => s0.run_row 0 rfl rfl rfl Try.underlying29 rfl hs29⟩) hHeld ?_ ?_
                      rotate_left
                      · simp only [Act.put, zs1, zs2, zs3, i64_w, i32_w]
                        rfl
                      refine zP 3 (some 55) (bm 11 15) ?_
                      refine zP 4 (some 56) (bm 11 31) ?_
                      refine zP 5 (some 57) (bm 11 63) ?_
                      refine zqt (i := 6) (N := some 58) (v := .agg #[.int .i64 z.f0, .int .i64 z.f1, .slice A58 z.f2.length d58]) (a' := ?_) (bm 11 127) rfl rfl (by kernel_rfl) (fun _ _ _ h => h) (Or.inl ⟨by rfl, fun w' s0 => run_ld29 (s0.cell 1 rfl hs58.out hx0.out) (s0.cell 1 rfl hs58.out hx1.out) (s0.cell 1 rfl hs58.out hx2.out) rfl rfl⟩) hHeld ?_ ?_
                      rotate_left
                      · simp only [Act.put, zs1, zs2, zs3, i64_w, i32_w]
                        rfl
                      refine one_ (i := 7) (N := some 59) (bm 11 255) rfl rfl (by kernel_rfl) (by decide) (fun K hK => ?_)
                      refine goes_ Try.func87 (by kernel_rfl) rfl #[.agg (#[.int .i64 y40.f0, .int .i64 y40.f1, .slice A40 y40.f2.length d40]), .agg #[.int .i64 z.f0, .int .i64 z.f1, .slice A58 z.f2.length d58]] (by rfl) rfl rfl (by (try simp only [List.map_toArray, List.map_cons, List.map_nil]); first | done | rfl) ?_
                      refine (meet_callq H.out 1 rfl P9.out hq58.out HY.out hz5).mono ?_
                      rintro e w59 ⟨r59, rfl, hb⟩
                      refine ⟨_, rfl, ?_⟩
                      have H1 := Az.mk (H.out.step hb)
                      clear hb
                      clear H; have H := H1; clear H1
                      refine hK.out _ _ (H.out.sel [0, 1] _ (by decide) rfl) (fun hHeld => ?_)
                      clear hK K
                      refine norm_ (a' := ?_) ?_ ?_
                      rotate_left
                      · show Act.put _ (some 59) _ = _
                        simp only [Act.put, zs1, zs2, zs3, i64_w, i32_w]
                        rfl
                      refine zP 8 (some 60) (bm 11 511) ?_
                      refine zP 9 (some 61) (bm 11 1023) ?_
                      refine zP 10 (some 10) (bm 11 2047) ?_
                      refine done_ (by kernel_rfl) ?_
                      go_wp2
                      go_roundg ((ptrs D).length - (i + 1))
                      case measure => have := HI.out; have := HE.out; omega
                      case rel => exact ⟨_, i + 1, rfl, by rw [← HWi.out], ⟨by have := HE.out; omega⟩, ⟨H.out.sel [0, 1, 2, 3, 4, 5, 6] _ (by decide) rfl⟩⟩
                  · have c49 : decide ((i : Int) < ((ptrs D).length : Int)) = false := decide_eq_false (by omega)
                    have c49n : decide (i < (ptrs D).length) = false := decide_eq_false (by omega)
                    clear hi HI
                    go_wp2
                    go_loopg [10, 13] k (fun kq v10 v13 w' => ∃ (q : Bool) (i : Nat), v10 = .bool q ∧ v13 = .int .i64 (i : Int) ∧ Az (i + kq = k) ∧ Az (Hq w0.heap.size w w' [.box g9 (#[.int .i64 y40.f0, .int .i64 y40.f1, .slice A40 y40.f2.length d40]) 29, .set S9 wo9, .box g7 (#[.string s7, .slice (some ⟨gB, 0, none⟩) 3 cB]) 65, .box g5 (#[.int .i64 (r15 : Int), .slice A5 dn c5]) 57, .box g4 (#[.int .i64 0, .slice none 0 0]) 57, .box g (c42) 113, .set (fun k => k ≠ g ∧ w0.heap.size ≤ k ∧ k < w.heap.size) w]))
                    case atStart => exact ⟨_, 0, rfl, rfl, ⟨Nat.zero_add _⟩, H⟩
                    case round =>
                      clear H c49 c49n
                      obtain ⟨q, i, rfl, rfl, HI, H⟩ := hrel
                      by_cases hi : i < k
                      · have c64 : decide ((i : Int) < (k : Int)) = true := decide_eq_true (by omega)
                        have c64n : decide (i < k) = true := decide_eq_true (by omega)
                        have p1 := eq_true (show (0 : Int) ≤ (i : Int) by omega)
                        have q1 := eq_true (show (i : Int) < (3 : Int) by have := HK3.out; omega)
                        have HE := Az.mk hi
                        obtain ⟨ga, A74, d74, eA, hs74, hx0, hx1, hx2, hq74⟩ := elem29 V.out (i := i) (by have := HL.out.1; have := HK3.out; omega)
                        cases eA
                        have HWi : Az (wrap64 ((i : Int) + 1) = ((i + 1 : Nat) : Int)) := ⟨by have := HK3.out; rw [wrap_ok (by omega)]; omega⟩
                        obtain ⟨z, hz⟩ : ∃ z, z = l.getD i z29 := ⟨_, rfl⟩
                        rw [← hz] at hx0 hx1 hx2 hq74
                        have hz5 : z.f2.length ≤ 5 := by rw [hz]; exact HL.out.2 _ (getD_mem (by have := HL.out.1; have := HK3.out; omega))
                        have hs74 := Az.mk hs74
                        have hx0 := Az.mk hx0
                        have hx1 := Az.mk hx1
                        have hx2 := Az.mk hx2
                        have hq74 := Az.mk hq74
                        clear hi hz
                        obtain ⟨gk9, hg9⟩ : ∃ x, x = gk := ⟨_, rfl⟩
                        subst hg9
                        cases q with
                        | false =>
                          go_wp2
                          refine start_ (n := 12) (S := fun w' => Hq w0.heap.size w w' []) (ds := []) (bm 12 0) (by kernel_rfl) rfl rfl (H.out.drew.sel [] _ (by decide) rfl) (fun hHeld => ?_)
                          have H1 := Az.mk H.out.drew
                          clear H; have H := H1; clear H1
                          generalize World.drew wr = wd20 at hHeld H ⊢
                          refine zP 0 (some 67) (bm 12 1) ?_
                          refine zP 1 (some 68) (bm 12 3) ?_
                          refine zO 2 (some 69) (bm 12 7) ?_
                          refine zO 3 (some 70) (bm 12 15) ?_
                          refine zO 4 (some 71) (bm 12 31) ?_
                          refine zO 5 (some 72) (bm 12 63) ?_
                          refine zO 6 (some 73) (bm 12 127) ?_
                          refine zO 7 (some 74) (bm 12 255) ?_
                          refine zO 8 (some 75) (bm 12 511) ?_
                          refine zO 9 (some 76) (bm 12 1023) ?_
                          refine zP 10 (some 77) (bm 12 2047) ?_
                          refine zP 11 (some 10) (bm 12 4095) ?_
                          refine done_ (by kernel_rfl) ?_
                          go_wp2
                          go_roundg (k - (i + 1))
                          case measure => have := HI.out; have := HE.out; omega
                          case rel => exact ⟨_, i + 1, rfl, by rw [← HWi.out], ⟨by have := HE.out; omega⟩, ⟨H.out.sel [0, 1, 2, 3, 4, 5, 6] _ (by decide) rfl⟩⟩
                        | true =>
                          go_wp2
                          refine start_ (n := 12) (S := fun w' => Hq w0.heap.size w w' [.box g9 (#[.int .i64 y40.f0, .int .i64 y40.f1, .slice A40 y40.f2.length d40]) 29, .set S9 wo9, .box g7 (#[.string s7, .slice (some ⟨gB, 0, none⟩) 3 cB]) 65]) (ds := []) (bm 12 0) (by kernel_rfl) rfl rfl (H.out.drew.sel [0, 1, 2] _ (by decide) rfl) (fun hHeld => ?_)
                          have H1 := Az.mk H.out.drew
                          clear H; have H := H1; clear H1
                          generalize World.drew wr = wd20 at hHeld H ⊢
                          refine zP 0 (some 67) (bm 12 1) ?_
                          refine zP 1 (some 68) (bm 12 3) ?_
                          refine zqt (i := 2) (N := some 69) (v := .agg (#[.int .i64 y40.f0, .int .i64 y40.f1, .slice A40 y40.f2.length d40])) (a' := ?_) (bm 12 7) rfl rfl (by kernel_rfl) (fun _ _ _ h => h) (Or.inl ⟨by rfl, fun w' s0 => s0.run_row 0 rfl rfl rfl Try.underlying29 rfl hs29⟩) hHeld ?_ ?_
                          rotate_left
                          · simp only [Act.put, zs1, zs2, zs3, i64_w, i32_w]
                            rfl
                          refine zP 3 (some 70) (bm 12 15) ?_
                          refine zqt (i := 4) (N := some 71) (v := .slice (some ⟨gB, 0, none⟩) 3 cB) (a' := ?_) (bm 12 31) rfl rfl (by kernel_rfl) (fun _ _ _ h => h) (Or.inl ⟨by rfl, fun w' s0 => s0.run_cell 2 rfl 1 rfl rfl rfl Try.underlying63 rfl⟩) hHeld ?_ ?_
                          rotate_left
                          · simp only [Act.put, zs1, zs2, zs3, i64_w, i32_w]
                            rfl
                          refine zP 5 (some 72) (bm 12 63) ?_
                          refine zP 6 (some 73) (bm 12 127) ?_
                          refine zqt (i := 7) (N := some 74) (v := .agg #[.int .i64 z.f0, .int .i64 z.f1, .slice A74 z.f2.length d74]) (a' := ?_) (bm 12 255) rfl rfl (by kernel_rfl) (fun _ _ _ h => h) (Or.inl ⟨by rfl, fun w' s0 => run_ld29 (s0.cell 1 rfl hs74.out hx0.out) (s0.cell 1 rfl hs74.out hx1.out) (s0.cell 1 rfl hs74.out hx2.out) rfl rfl⟩) hHeld ?_ ?_
                          rotate_left
                          · simp only [Act.put, zs1, zs2, zs3, i64_w, i32_w]
                            rfl
                          refine one_ (i := 8) (N := some 75) (bm 12 511) rfl rfl (by kernel_rfl) (by decide) (fun K hK => ?_)
                          refine goes_ Try.func87 (by kernel_rfl) rfl #[.agg (#[.int .i64 y40.f0, .int .i64 y40.f1, .slice A40 y40.f2.length d40]), .agg #[.int .i64 z.f0, .int .i64 z.f1, .slice A74 z.f2.length d74]] (by rfl) rfl rfl (by (try simp only [List.map_toArray, List.map_cons, List.map_nil]); first | done | rfl) ?_
                          refine (meet_callq H.out 1 rfl P9.out hq74.out HY.out hz5).mono ?_
                          rintro e w75 ⟨r75, rfl, hb⟩
                          refine ⟨_, rfl, ?_⟩
                          have H1 := Az.mk (H.out.step hb)
                          clear hb
                          clear H; have H := H1; clear H1
                          refine hK.out _ _ (H.out.sel [0, 1, 2] _ (by decide) rfl) (fun hHeld => ?_)
                          clear hK K
                          refine norm_ (a' := ?_) ?_ ?_
                          rotate_left
                          · show Act.put _ (some 75) _ = _
                            simp only [Act.put, zs1, zs2, zs3, i64_w, i32_w]
                            rfl
                          refine zP 9 (some 76) (bm 12 1023) ?_
                          refine zP 10 (some 77) (bm 12 2047) ?_
                          refine zP 11 (some 10) (bm 12 4095) ?_
                          refine done_ (by kernel_rfl) ?_
                          go_wp2
                          go_roundg (k - (i + 1))
                          case measure => have := HI.out; have := HE.out; omega
                          case rel => exact ⟨_, i + 1, rfl, by rw [← HWi.out], ⟨by have := HE.out; omega⟩, ⟨H.out.sel [0, 1, 2, 3, 4, 5, 6] _ (by decide) rfl⟩⟩
                      · have c64 : decide ((i : Int) < (k : Int)) = false := decide_eq_false (by omega)
                        have c64n : decide (i < k) = false := decide_eq_false (by omega)
                        clear hi HI
                        have HWk : Az (wrap64 ((k : Int) + 1) = ((k + 1 : Nat) : Int)) := ⟨by have := HK3.out; rw [wrap_ok (by omega)]; omega⟩
                        have tk0 : True := trivial
                        have p1 := eq_true (show (0 : Int) ≤ (k : Int) by omega)
                        have q1 := eq_true (show (k : Int) < (3 : Int) by have := HK3.out; omega)
                        have HG8 := Az.mk HK.out
                        cases q with
                        | true =>
                          go_wp2_with (first | ((with_reducible refine zqg (N := 80) rfl ?_); refine H.out.ld_cell 2 rfl 1 (v := .slice (some ⟨gB, 0, none⟩) 3 cB) rfl rfl rfl rfl Try.underlying63 rfl ?_; (try simp only [Act.put, zs1, zs2, zs3])) | ((with_reducible refine zqg (N := 82) rfl ?_); refine H.out.ld_row 0 rfl rfl rfl rfl Try.underlying29 rfl hs29 ?_; (try simp only [Act.put, zs1, zs2, zs3])) | ((with_reducible refine gate_store (t := 29) (p := 83) rfl ?_); refine H.out.st29 1 rfl O.out HD.out V.out HL.out HK3.out (q29_mkM (x := y40) P9.out) HY.out rfl rfl (x := .tmp 83) (z := .tmp 82) rfl rfl rfl ?_; intro D9 l9 w9 H1 O1 V1 e1 HD1 HL1; have HDN1 := Az.mk (e1.out.trans HDN.out); have HLE1 := Az.mk (show D9.length + n6 ≤ 4 by rw [e1.out]; exact HLE.out); clear e1 AL P9; clear H O V HD HL HDN HLE; have H := H1; have O := O1; have V := V1; have HD := HD1; have HL := HL1; have HDN := HDN1; have HLE := HLE1; clear H1 O1 V1 HD1 HL1 HDN1 HLE1))
                          go_wp2
                          go_roundg (3 - (k + 1))
                          case measure => have := HK.out; have := HK3.out; omega
                          case rel => exact ⟨k + 1, D9, l9, _, _, _, by rw [← HWk.out], ⟨by have := HK3.out; omega⟩, HLE, HDN, HD, HL, ⟨HR.out.less (by have := HK3.out; omega)⟩, O, V, ⟨H.out.sel [2, 1, 3, 4, 5, 6] _ (by decide) rfl⟩⟩
                        | false =>
                          by_cases y86 : 0 < (ptrs D).length
                          · skip
                            have y86d : decide (0 < (ptrs D).length) = true := decide_eq_true y86
                            have y86i : decide (0 < ((ptrs D).length : Int)) = true := decide_eq_true (by omega)
                            have HLP := Az.mk y86
                            clear y86
                            go_upto_if 91 with (first | (go_at_call 65; have _tk := tk0; refine (pick_callq (m := m + 500 * (n6 - 1) + 100 * (2 - k) + 8) HB.out H.out 5 rfl (HR.out.less (by omega)) (2) (by omega)).mono ?_; rintro e w89 ⟨r89, c89, rfl, hr89, hrd, h1⟩; have HR1 := Az.mk hrd; have H1 := Az.mk h1; have hz89 := eq_true (Int.natCast_nonneg r89); clear hrd h1; clear H HR; have H := H1; have HR := HR1; clear H1 HR1; clear tk0 _tk; have tk1 : True := trivial))
                            (try simp only [Act.put, zs1, zs2, zs3])
                            by_cases y89 : (r89 : Int) = 0
                            · skip
                              have y89a : ((r89 : Int) == 0) = true := beq_iff_eq.mpr y89
                              have y89b : decide ((r89 : Int) = 0) = true := decide_eq_true y89
                              clear y89
                              go_wp2
                              refine start_ (n := 12) (S := fun w' => Hq w0.heap.size w w' [.set S9 wo9, .box g7 (#[.string s7, .slice (some ⟨gB, 0, none⟩) 3 cB]) 65]) (ds := [11]) (bm 12 0) (by kernel_rfl) rfl rfl (H.out.drew.sel [1, 2] _ (by decide) rfl) (fun hHeld => ?_)
                              have H1 := Az.mk H.out.drew
                              clear H; have H := H1; clear H1
                              generalize World.drew w89 = wd24 at hHeld H ⊢
                              refine zP 0 (some 92) (bm 12 1) ?_
                              refine zqt (i := 1) (N := some 93) (v := .slice (some ⟨gB, 0, none⟩) 3 cB) (a' := ?_) (bm 12 3) rfl rfl (by kernel_rfl) (fun _ _ _ h => h) (Or.inl ⟨by rfl, fun w' s0 => s0.run_cell 1 rfl 1 rfl rfl rfl Try.underlying63 rfl⟩) hHeld ?_ ?_
                              rotate_left
                              · simp only [Act.put, zs1, zs2, zs3, i64_w, i32_w]
                                rfl
                              refine zP 2 (some 94) (bm 12 7) ?_
                              refine zP 3 (some 95) (bm 12 15) ?_
                              refine zP 4 (some 96) (bm 12 31) ?_
                              refine zP 5 (some 97) (bm 12 63) ?_
                              refine zP 6 (some 98) (bm 12 127) ?_
                              refine one_ (i := 7) (N := some 99) (bm 12 255) rfl rfl (by kernel_rfl) (by decide) (fun K hK => ?_)
                              refine goes_ Try.func65 (by kernel_rfl) rfl #[.pointer (some ⟨g, 0, none⟩), .int .i64 ((ptrs D).length : Int)] (by rfl) rfl rfl (by (try simp only [List.map_toArray, List.map_cons, List.map_nil]); first | done | rfl) ?_
                              refine (pick_callq (m := m + 500 * (n6 - 1) + 100 * (2 - k) + 7) HB.out H.out 5 rfl (HR.out.less (by omega)) (((ptrs D).length : Int)) (by have := HLP.out; have := ptrs_small HD.out; have := HLE.out; omega)).mono ?_
                              rintro e w99 ⟨r99, c99, rfl, hr99, hrd, h1⟩
                              refine ⟨_, rfl, ?_⟩
                              have HR1 := Az.mk hrd
                              have H1 := Az.mk h1
                              have hz99 := eq_true (Int.natCast_nonneg r99)
                              clear hrd h1
                              clear H HR; have H := H1; have HR := HR1; clear H1 HR1
                              refine hK.out _ _ (H.out.sel [1, 2] _ (by decide) rfl) (fun hHeld => ?_)
                              clear hK K
                              refine norm_ (a' := ?_) ?_ ?_
                              rotate_left
                              · show Act.put _ (some 99) _ = _
                                simp only [Act.put, zs1, zs2, zs3, i64_w, i32_w]
                                rfl
                              have q99 := eq_true hr99
                              obtain ⟨ga, A101, d101, eA, hs1, hx0, hx1, hx2, hq1⟩ := elem29 AL.out (i := r99) (by omega)
                              cases eA
                              obtain ⟨z, hz⟩ : ∃ z, z = (ptrs D).getD r99 z29 := ⟨_, rfl⟩
                              rw [← hz] at hx0 hx1 hx2 hq1
                              have hz5 : z.f2.length ≤ 5 := by rw [hz]; exact ptrs_five HD.out (by omega)
                              have hs1 := Az.mk hs1
                              have hx0 := Az.mk hx0
                              have hx1 := Az.mk hx1
                              have hx2 := Az.mk hx2
                              have hq1 := Az.mk hq1
                              clear hz
                              refine zP 8 (some 100) (bm 12 511) ?_
                              refine zqt (i := 9) (N := some 101) (v := .agg #[.int .i64 z.f0, .int .i64 z.f1, .slice A101 z.f2.length d101]) (a' := ?_) (bm 12 1023) rfl rfl (by kernel_rfl) (fun _ _ _ h => h) (Or.inl ⟨by rfl, fun w' s0 => run_ld29 (s0.cell 0 rfl hs1.out hx0.out) (s0.cell 0 rfl hs1.out hx1.out) (s0.cell 0 rfl hs1.out hx2.out) rfl rfl⟩) hHeld ?_ ?_
                              rotate_left
                              · simp only [Act.put, zs1, zs2, zs3, i64_w, i32_w]
                                rfl
                              refine zP 10 (some 102) (bm 12 2047) ?_
                              refine last_ (i := 11) (N := none) (bm 12 4095) rfl rfl (by kernel_rfl) (by decide) (fun K hK => ?_)
                              refine H.out.st29_ 1 rfl O.out HD.out V.out HL.out HK3.out (q29_mkM (x := z) hq1.out) hz5 (by rfl) rfl (x := .tmp 102) (z := .tmp 101) rfl rfl rfl ?_
                              intro D9 l9 w9 H1 O1 V1 e1 HD1 HL1
                              have HDN1 := Az.mk (e1.out.trans HDN.out)
                              have HLE1 := Az.mk (show D9.length + n6 ≤ 4 by rw [e1.out]; exact HLE.out)
                              clear e1 AL P9
                              clear H O V HD HL HDN HLE; have H := H1; have O := O1; have V := V1; have HD := HD1; have HL := HL1; have HDN := HDN1; have HLE := HLE1; clear H1 O1 V1 HD1 HL1 HDN1 HLE1
                              refine hK.out _ _ ?_
                              clear hK K
                              refine norm_ (a' := ?_) ?_ ?_
                              rotate_left
                              · rfl
                              refine done_ (by kernel_rfl) ?_
                              go_wp2
                              go_roundg (3 - (k + 1))
                              case measure => have := HK.out; have := HK3.out; omega
                              case rel => exact ⟨k + 1, D9, l9, _, _, _, by rw [← HWk.out], ⟨by have := HK3.out; omega⟩, HLE, HDN, HD, HL, ⟨HR.out.less (by have := HK3.out; omega)⟩, O, V, ⟨H.out.sel [2, 1, 3, 4, 5, 6] _ (by decide) rfl⟩⟩
                            · skip
                              have y89a : ((r89 : Int) == 0) = false := beq_eq_false_iff_ne.mpr y89
                              have y89b : decide ((r89 : Int) = 0) = false := decide_eq_false y89
                              clear y89
                              go_wp2
                              go_roundg (3 - (k + 1))
                              case measure => have := HK.out; have := HK3.out; omega
                              case rel => exact ⟨k + 1, D, l, _, _, _, by rw [← HWk.out], ⟨by have := HK3.out; omega⟩, HLE, HDN, HD, HL, ⟨HR.out.less (by have := HK3.out; omega)⟩, O, V, ⟨H.out.sel [2, 1, 3, 4, 5, 6] _ (by decide) rfl⟩⟩
                          · skip
                            have y86d : decide (0 < (ptrs D).length) = false := decide_eq_false y86
                            have y86i : decide (0 < ((ptrs D).length : Int)) = false := decide_eq_false (by omega)
                            clear y86
                            go_wp2
                            go_roundg (3 - (k + 1))
                            case measure => have := HK.out; have := HK3.out; omega
                            case rel => exact ⟨k + 1, D, l, _, _, _, by rw [← HWk.out], ⟨by have := HK3.out; omega⟩, HLE, HDN, HD, HL, ⟨HR.out.less (by have := HK3.out; omega)⟩, O, V, ⟨H.out.sel [2, 1, 3, 4, 5, 6] _ (by decide) rfl⟩⟩
              · have c35 : decide ((k : Int) < 3) = false := decide_eq_false hk
                have c35n : decide (k < 3) = false := decide_eq_false (by omega)
                clear hk
                go_wp2_with (first | ((with_reducible refine zqg (N := 104) rfl ?_); refine H.out.ld_cell 2 rfl 1 (v := .slice A5 dn c5) rfl rfl rfl rfl Try.underlying55 rfl ?_; (try simp only [Act.put, zs1, zs2, zs3])) | ((with_reducible refine zqg (N := 105) rfl ?_); refine H.out.ld_row 0 rfl rfl rfl rfl Try.underlying65 rfl hs65 ?_; (try simp only [Act.put, zs1, zs2, zs3])) | ((with_reducible refine zqg (N := 106) rfl ?_); refine lit65 (.string s7) (.slice (some ⟨gB, 0, none⟩) 3 cB) rfl ?hr ?_; (case hr => first | (go_simp; done) | (go_simp; rfl)); (try simp only [Act.put, zs1, zs2, zs3])) | ((with_reducible refine gate_builtin (b := .append) (xs := #[.tmp 104, .tmp 106]) rfl ?_); at_builtin; refine H.out.app65 1 rfl O.out V.out (s := s7) (by have := HLE.out; omega) rfl (.tmp 104) (.tmp 106) rfl rfl rfl ?_; intro A107 c107 w107 q107 HQ H1 O1; clear H O; have H := H1; have O := O1; clear H1 O1; (try simp only [Act.put, zs1, zs2, zs3])) | ((with_reducible refine gate_store (t := 55) (p := 108) rfl ?_); refine H.out.stb 2 rfl 1 (.slice A107 q107.length c107) rfl rfl size55q rfl rfl rfl rfl rfl ?_; intro ws25 H1; clear H; have H := H1; clear H1))
                go_roundg k1
                case measure => omega
                case rel => exact ⟨n6 - 1, A107, c107, q107.length, q107, _, _, c, by have := HP.out; have := HN.out; rw [wrap_ok (by omega)]; congr 1; omega, ⟨by have := HP.out; have := HN.out; omega⟩, ⟨by have := HLE.out; have := HP.out; rw [HQ.out, List.length_append, List.length_singleton]; omega⟩, ⟨rfl⟩, ⟨gv_snoc HQ.out HD.out HL.out⟩, ⟨HR.out.less (by omega)⟩, O, ⟨H.out.sel [2, 1, 3, 4, 5] _ (by decide) rfl⟩⟩
      · have c21 : decide (0 < (n6 : Int)) = false := decide_eq_false hn
        have c21n : decide (0 < n6) = false := decide_eq_false (by omega)
        obtain rfl := HDN.out
        clear hn
        go_wp2_with (first | ((with_reducible refine zqg (N := 109) rfl ?_); refine H.out.ld_row 0 rfl rfl rfl rfl Try.underlying57 rfl hs57 ?_; (try simp only [Act.put, zs1, zs2, zs3])) | ((with_reducible refine gate_store (t := 57) (p := 4) rfl ?_); refine H.out.st_row 2 rfl rfl (x := .tmp 4) (y := .tmp 109) rfl rfl rfl (#[.int .i64 (r15 : Int), .slice A5 D.length c5]) rfl hs57 rfl (by simp [Value.oneCell']) ?_; intro ws26 H1; clear H; have H := H1; clear H1))
        exact bodyPost_ret (results_cell_row rfl _ _ g4 57 _ (0, 0) _ rfl (H.out.box 2 rfl) Try.underlying57 rfl (by kernel_rfl)) rfl ⟨(r15 : Int), (A5, c5), D, c, rfl, HD.out, by have := HLE.out; omega, Kd.R_mono (H.out.rr 1 rfl O.out) (own_in H.out 3 4 1 rfl rfl rfl (by decide) (by decide)), HR.out.less (by omega), H.out.box 3 rfl, H.out.bel, kept_in H.out 4 rfl⟩
end Go.Proofs.Ytkoimmeghdbodaa.Hq
namespace Go.Proofs.Ytkoimmeghdbodaa.Hq
open Go.RowKit Go.Proofs.Ytkoimmeghdbodaa.Print Go.Proofs.YtkoimmeghdbodaaW.PrintWords Go.Proofs.YtkoimmeghdbodaaW.PrintLast Go.Proofs.YtkoimmeghdbodaaW.PrintMore Go.Proofs.Ytkoimmeghdbodaa.Pure Go.Proofs.Ytkoimmeghdbodaa.Hd
def litT (r : Nat) : Int := ([-1, 100000, 100001] : List Int).getD r 0
theorem litT_get {r : Nat} (h : (r : Int) < 3) : (#[.int .i64 (-1), .int .i64 100000, .int .i64 100001] : Array Value)[r]? = some (.int .i64 (litT r)) := by
  have : r = 0 ∨ r = 1 ∨ r = 2 := by omega
  rcases this with rfl | rfl | rfl <;> rfl
theorem Hq.drawn {base : Nat} {ws w w' : World} {L : List Part} (H : Hq base ws w L) (i : Nat) {g : Nat} {cs cs' : Array Value} (e : L[i]? = some (.box g cs 113)) (hbox : w'.heap[g]? = some (.cells cs' 113 (0, 0))) (hb : Below base w w') (hk : ∀ k, k < w.heap.size → k ≠ g → w'.heap[k]? = w.heap[k]?) : Hq base ws w' (.set (fun k => w.heap.size ≤ k ∧ k < w'.heap.size) w' :: L.set i (.box g cs' 113)) := by
  have H1 := H.put_box i e hbox hb hk
  refine ⟨H1.bel, H1.ge, fun q hq => ?_, List.pairwise_cons.2 ⟨fun q hq k h1 h2 => ?_, H1.dis⟩⟩
  · rcases List.mem_cons.1 hq with rfl | hq
    · exact ⟨fun k hk => ⟨Nat.le_trans H.ge hk.1, hk.2⟩, fun _ _ => rfl⟩
    · exact H1.all q hq
  · have h3 : k < w.heap.size := by
      rcases List.mem_or_eq_of_mem_set hq with hq | rfl
      · exact ((H.all q hq).1 k h2).2
      · obtain rfl : k = g := h2
        exact blk_lt (H.box i e)
    have := h1.1
    omega
theorem root_callq {w0 ws w : World} {L : List Part} {b : List Int} {g m : Nat} {n : Int} {cs : Array Value} (hn : 3 ≤ n ∧ n ≤ 4) (hB : Below w0.heap.size w0 ws) (H : Hq w0.heap.size ws w L) (i : Nat) (e : L[i]? = some (.box g cs 113)) (hr : Rdr w0 b (m + 2500) cs) :
    Calls Try.prog 89 #[.pointer (some ⟨g, 0, none⟩), .int .i64 n] w fun e w' => ∃ (tx : Int) (A : Option Addr) (c : Nat) (D : List S65) (cs' : Array Value), e = .returned (.agg #[.int .i64 tx, .slice A D.length c]) ∧ GV D ∧ D.length ≤ 4 ∧ r65.R 65 w' w0.heap.size (fun k => w.heap.size ≤ k ∧ k < w'.heap.size) (.slice A D.length c) D ∧ Rdr w0 b m cs' ∧ Hq w0.heap.size ws w' (.set (fun k => w.heap.size ≤ k ∧ k < w'.heap.size) w' :: L.set i (.box g cs' 113)) := by
  refine (l71Root_calls (m := m) hn (hB.trans H.bel) (H.box i e) (H.box_ge i e) hr).mono fun e' w' h => ?_
  obtain ⟨tx, M, D, cs', he, h1, h2, h3, h4, h5, h6, h7⟩ := h
  exact ⟨tx, M.1, M.2, D, cs', he, h1, h2, h3, h4, H.drawn i e h5 h6 h7⟩
theorem Hq.back {base : Nat} {ws w : World} {L : List Part} (H : Hq base ws w L) (j : Nat) {S S' : Nat → Prop} {wo w' : World} (ej : L[j]? = some (.set S' w')) (hup : ∀ k, S k → S' k ∧ w'.heap[k]? = wo.heap[k]?) : Hq base ws w (L.set j (.set S wo)) := by
  have hs := off_set (p' := .set S wo) H.dis ej (fun q hq ho k h1 h2 => ho k (hup k h1).1 h2)
  refine ⟨H.bel, H.ge, fun q hq => ?_, hs.1⟩
  rcases hs.2 q hq with rfl | ⟨h1, _⟩
  · exact ⟨fun k hk => H.set_in j ej k (hup k hk).1, fun k hk => (H.same j ej k (hup k hk).1).trans (hup k hk).2⟩
  · exact H.all q h1
theorem vol0 {wo : World} {b : Nat} {S : Nat → Prop} {A : Option Addr} {n c : Nat} {D : List S65} (hD : GV D) (O : r65.R 65 wo b S (.slice A n c) D) (hn : 0 < n) :
    ∃ (gv gB cB : Nat) (x : S65), A = some ⟨gv, 0, none⟩ ∧ S gv ∧ x ∈ D ∧ D.length = n ∧ wo.cell? ⟨gv, 0, none⟩ = some (.string x.f0) ∧ wo.cell? ⟨gv, 1, none⟩ = some (.slice (some ⟨gB, 0, none⟩) 3 cB) ∧ 3 ≤ cB ∧ q29.R 29 wo b S (.slice (some ⟨gB, 0, none⟩) 3 cB) x.f1 ∧ D.getD 0 z65 = x := by
  have hl := (Kd.R_reads' O).1
  obtain ⟨gv, cap, e, _⟩ := Kd.R_form O (by omega)
  injection e with e1 e2 e3
  subst e1 e3
  obtain ⟨cs, hcl, hM, hcc, _⟩ := Kd.R_elem O z65 0 (by omega) (by omega)
  obtain ⟨v1, rfl, hR⟩ := r65_openM hM
  have hx : D.getD (Int.toNat 0) z65 ∈ D := getD_mem (by show 0 < D.length; omega)
  have h3 := (hD _ hx).1
  obtain ⟨gB, cB, rfl, _⟩ := Kd.R_form hR (by omega)
  have hcap := (Kd.R_reads' hR).2.1
  rw [h3] at hcc hR hcap
  refine ⟨gv, gB, cB, _, rfl, O.1 gv (by simp [Value.ownBlock]), hx, hl.symm, ?_, ?_, by omega, Kd.R_mono hR fun k hk => hk.1, rfl⟩
  · have := hcc 0 _ rfl
    simpa using this
  · have := hcc 1 _ rfl
    simpa using this
section
variable {o : Oper} {a : Act}
theorem run_ld65 {w : World} {g f : Nat} {u0 u1 : Value} (h0 : w.cell? ⟨g, f, none⟩ = some u0) (h1 : w.cell? ⟨g, f + 1, none⟩ = some u1) {x : Operand} (ho : o.op = .load 65 x) (hx : a.eval x = .pointer (some ⟨g, f, none⟩)) :
    (execOp a.eval o).run Try.prog w = .ok (.value (.agg #[u0, u1])) w := by
  have hr := run_loadVar_mid (P := Try.prog) w g f 65 [u0, u1] _ (fun j v hv => by
    match j with
    | 0 => cases hv; exact h0
    | 1 => cases hv; exact h1
    | j + 2 => simp at hv) Try.underlying65 rfl (by kernel_rfl)
  unfold execOp
  simp only [ho, hx, Instr.loadAt, Instr.sureAddr, Sem.run_bind, Sem.run_pure, Result.andThen_ok, hr]
theorem elem63 : Try.prog.underlying 63 = some (.slice (Try.prog.elem 63)) := by
  have h := Try.underlying63
  have : Try.prog.elem 63 = 29 := by simp [Program.elem, h]
  rw [this]
  exact h
theorem run_cut {x : Operand} {gB cB : Nat} (w : World) (ho : o.op = .slice 63 x (some (.const (.int .i64 1))) none none) (hx : a.eval x = .slice (some ⟨gB, 0, none⟩) 3 cB) (hc : 3 ≤ cB) :
    (execOp a.eval o).run Try.prog w = .ok (.value (.slice (some ⟨gB, 3, none⟩) 2 (cB - 1))) w := by
  cases hq : Try.prog.info? 29 with
  | none => have := size29q; rw [hq] at this; simp at this
  | some i =>
    have hs : i.size = 3 := by have := size29q; rw [hq] at this; simpa using this
    have h := cut_from (P := Try.prog) 63 29 .i64 (i := i) Try.underlying63 hq 3 hs (some ⟨gB, 0, none⟩) 3 cB 1 (by omega) (by omega) w
    have hne : ¬ cB = Int.toNat 1 := by show ¬ cB = 1; omega
    rw [if_neg hne, Option.map_some] at h
    unfold execOp
    simp only [ho, hx, Option.map_some, Option.map_none]
    rw [show a.eval (Operand.const (.int .i64 1)) = .int .i64 1 from rfl, Sem.run_bind, run_sliceAt_slice (h := elem63), h]
    rfl
end
structure FV (D : List S65) : Prop where
  len : D.length ≤ 5
  vol : ∀ x ∈ D, x.f1.length ≤ 3 ∧ ∀ y ∈ x.f1, y.f2.length ≤ 5
theorem FV.fit {D : List S65} (h : FV D) : FitM D := ⟨by have := h.len; omega, fun x hx => by have := (h.vol x hx).1; omega, fun x hx y hy => by have := (h.vol x hx).2 y hy; omega⟩
theorem FV.of {D : List S65} (h : GV D) (hl : D.length ≤ 5) : FV D := ⟨hl, fun x hx => ⟨Nat.le_of_eq (h x hx).1, (h x hx).2⟩⟩
theorem cut0 {w : World} {b : Nat} {S : Nat → Prop} {gv n c gB cB : Nat} {D : List S65} (hD : GV D) (hl : D.length ≤ 5) (O : r65.R 65 w b S (.slice (some ⟨gv, 0, none⟩) n c) D) (hn : 0 < n) (hc1 : w.cell? ⟨gv, 1, none⟩ = some (.slice (some ⟨gB, 0, none⟩) 3 cB)) :
    ∃ D', q65.R 65 (w.setCell ⟨gv, 1, none⟩ (.slice (some ⟨gB, 3, none⟩) 2 (cB - 1))) b S (.slice (some ⟨gv, 0, none⟩) n c) D' ∧ FV D' ∧ D'.length = D.length ∧ w.grownBy (w.setCell ⟨gv, 1, none⟩ (.slice (some ⟨gB, 3, none⟩) 2 (cB - 1))) (some gv) := by
  have hl' := (Kd.R_reads' O).1
  obtain ⟨cs, hcl, hM, hcc, _⟩ := Kd.R_elem O z65 0 (by omega) (by omega)
  obtain ⟨v1, rfl, hR⟩ := r65_openM hM
  have hx : D.getD (Int.toNat 0) z65 ∈ D := getD_mem (by show 0 < D.length; omega)
  have h3 := hD _ hx
  have h1 := hcc 1 _ rfl
  have e1 : v1 = .slice (some ⟨gB, 0, none⟩) 3 cB := by
    have h1' : w.cell? ⟨gv, 1, none⟩ = some v1 := by simpa using h1
    rw [hc1] at h1'
    exact (Option.some.inj h1').symm
  subst e1
  have hcb := (Kd.R_reads' hR).2.1
  have hQ := Kd.Q_drop (k := 1) (Kd.Q_of_R hR) (by omega)
  rw [if_neg (show ¬ cB = 1 by omega)] at hQ
  have hQ' : q29.Q 29 w b (fun k => S k ∧ k ≠ gv) (.slice (some ⟨gB, 3, none⟩) 2 (cB - 1)) ((D.getD (Int.toNat 0) z65).f1.drop 1) := hQ
  have O' := R_q65 O
  have hs := Kd.R_seg O' 0 (by omega) (by omega) (c := [.string (D.getD (Int.toNat 0) z65).f0, .slice (some ⟨gB, 0, none⟩) 3 cB]) (seg := [.slice (some ⟨gB, 3, none⟩) 2 (cB - 1)]) (j := 1) rfl hcc (Nat.le_refl _) (x' := ⟨(D.getD (Int.toNat 0) z65).f0, (D.getD (Int.toNat 0) z65).f1.drop 1⟩) (okp := fun k => S k ∧ k ≠ gv) (q65_mkM (x := ⟨(D.getD (Int.toNat 0) z65).f0, (D.getD (Int.toNat 0) z65).f1.drop 1⟩) hQ') (fun k hk => hk)
  refine ⟨_, hs.1, ⟨by rw [List.length_set]; exact hl, fun y hy => ?_⟩, by rw [List.length_set], hs.2⟩
  rcases List.mem_or_eq_of_mem_set hy with h | h
  · exact ⟨Nat.le_of_eq (hD y h).1, (hD y h).2⟩
  · rw [h]
    refine ⟨by rw [List.length_drop]; omega, fun z hz => h3.2 z (List.mem_of_mem_drop hz)⟩
def DrawsOff (w0 : World) (b : List Int) (g m : Nat) (w : World) (e : Ending) (w' : World) : Prop := ∃ (tx : Int) (M : AC) (D : List S65) (cs' : Array Value), e = .returned (.agg (cR M (tx, D))) ∧ FV D ∧ q65.R 65 w' w0.heap.size (fun k => w.heap.size ≤ k ∧ k < w'.heap.size) (.slice M.1 D.length M.2) D ∧ Rdr w0 b m cs' ∧ w'.heap[g]? = some (.cells cs' 113 (0, 0)) ∧ Below w0.heap.size w w' ∧ ∀ k, k < w.heap.size → k ≠ g → w'.heap[k]? = w.heap[k]?
theorem off_of {w0 w w' wo : World} {b : List Int} {g m : Nat} {L : List Part} {cs' : Array Value} {S : Nat → Prop} {tx : Int} {A : Option Addr} {dn c : Nat} {D : List S65} (H : Hq w0.heap.size w w' L) (ig ir io : Nat) (eg : L[ig]? = some (.box g cs' 113)) (er : L[ir]? = some (.set (fun k => k ≠ g ∧ w0.heap.size ≤ k ∧ k < w.heap.size) w)) (eo : L[io]? = some (.set S wo)) (n1 : io ≠ ig) (n2 : io ≠ ir) (hr : Rdr w0 b m cs') (hn : D.length = dn) (O : q65.R 65 wo w0.heap.size S (.slice A dn c) D) (hf : FV D) : DrawsOff w0 b g m w (.returned (.agg #[.int .i64 tx, .slice A dn c])) w' := by
  subst hn
  exact ⟨tx, (A, c), D, cs', rfl, hf, Kd.R_mono (H.rr io eo O) (own_in H ig ir io eg er eo n1 n2), hr, H.box ig eg, H.bel, kept_in H ir er⟩
end Go.Proofs.Ytkoimmeghdbodaa.Hq
