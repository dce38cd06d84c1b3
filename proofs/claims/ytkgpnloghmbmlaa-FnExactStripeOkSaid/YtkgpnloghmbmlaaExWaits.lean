/- Proved: what the writes are that wait on a drive: a list of the call's own; the drive is as it was. Conditions: at most forty wait. -/
import Derived.Test.YtkgpnloghmbmlaaExRead1
namespace Go.Proofs.Ytkgpnloghmbmlaa.Print
open Go.RowKit Go.Proofs.YtkgpnloghmbmlaaW.PrintWords Go.Proofs.YtkgpnloghmbmlaaW.PrintLast Go.Proofs.YtkgpnloghmbmlaaW.PrintMore Go.Proofs.Ytkgpnloghmbmlaa.Drv
set_option linter.unusedVariables false
set_option linter.unusedSimpArgs false

set_option maxHeartbeats 4000000 in
set_option maxRecDepth 100000 in
theorem waits_calls (g : Nat) (st : Int) (sp : List Bool) (sl rg : List ByteArray) (ns : List (Nat × Pt)) (w : World) (hD : Drv w g st sp sl rg ns) (hn : ns.length ≤ 40) :
    Calls Try.prog 90 #[.pointer (some ⟨g, 0, none⟩)] w fun e w' => ∃ v : Value, e = .returned v ∧ Kd.R k54 54 w' w.heap.size (fun _ => True) v (ns.map (·.2)) ∧ Below w.heap.size w w' := by
  have hu80 := Try.underlying80
  have hu54 := Try.underlying54
  have hu112 := Try.underlying112
  have HD := Aside0.mk hD
  have HN := Aside0.mk hn
  have hfi : w.cell? ⟨g, 27, none⟩ = some (toN ns (.pointer none)) := (blk_cell hD.blk 27).trans (dc_fi hD.lsp hD.lsl hD.lrg)
  obtain ⟨fi, hfi0⟩ : ∃ v, v = toN ns (.pointer none) := ⟨_, rfl⟩
  rw [← hfi0] at hfi
  have HFI := Aside0.mk hfi0
  clear hD hn hfi0
  have HB := Aside0.mk (Below.refl w.heap.size w)
  go_enter Try.func90, Try.ntmps90
  go_wp2
  go_loopg [3, 4] ns.length (fun kq v3 v4 w' => ∃ (dn rs : List (Nat × Pt)), Aside0 (v4 = toN rs (.pointer none)) ∧ Aside0 (ns = dn ++ rs) ∧ Aside0 (rs.length = kq) ∧ Aside0 (Kd.R k54 54 w' w.heap.size (fun _ => True) v3 (dn.map (·.2))) ∧ Aside0 (Below w.heap.size w w'))
  case atStart => exact ⟨[], ns, ⟨HFI.out⟩, ⟨rfl⟩, ⟨rfl⟩, ⟨Kd.R_nil _ _ _ _ _⟩, ⟨(by repeat (first | (with_reducible first | exact HB.out | apply below_alloc | apply pw_below_drewN | apply below_drew1) | exact HB.out))⟩⟩
  case round =>
    clear hfi
    obtain ⟨dn, rs, HV, HE, HI, HO, HB⟩ := hrel
    cases rs with
    | nil =>
      have hv := HV.out
      simp only [toN] at hv
      subst hv
      have HE2 : Aside0 (dn.map (·.2) = ns.map (·.2)) := ⟨by rw [HE.out, List.append_nil]⟩
      go_wp2
      go_ret
      exact ⟨_, rfl, HE2.out ▸ (by (with_reducible repeat (first | apply Kd.R_alloc | apply Kd.R_drewN | apply Kd.R_drew)); exact HO.out), (by repeat (first | (with_reducible first | exact HB.out | apply below_alloc | apply pw_below_drewN | apply below_drew1) | exact HB.out))⟩
    | cons x rs =>
      obtain ⟨b, p⟩ := x
      have hv := HV.out
      simp only [toN] at hv
      subst hv
      have hs := (Seg.append.1 (HE.out ▸ HD.out.seg : Seg w g (dn ++ (b, p) :: rs) _)).2
      have hnd : w.heap[b]? = some (.cells #[.bool p.f0, .int .i64 p.f1, .string p.f2, toN rs (.pointer none)] 112 (0, 0)) := hs.2.1
      obtain ⟨nx, hnx⟩ : ∃ v, v = toN rs (.pointer none) := ⟨_, rfl⟩
      rw [← hnx] at hnd
      have HNX := Aside0.mk hnx
      have HBL := Aside0.mk (blk_lt hnd)
      have hc_0 := (HB.out.cell (p := ⟨b, 0, none⟩) HBL.out).trans (blk_cell hnd 0)
      have hc_1 := (HB.out.cell (p := ⟨b, 1, none⟩) HBL.out).trans (blk_cell hnd 1)
      have hc_2 := (HB.out.cell (p := ⟨b, 2, none⟩) HBL.out).trans (blk_cell hnd 2)
      have HN3 : Aside0 (w.cell? ⟨b, 3, none⟩ = some nx) := ⟨(blk_cell hnd 3).trans rfl⟩
      replace hc_0 : wr.cell? ⟨b, 0, none⟩ = some (.bool p.f0) := hc_0.trans rfl
      replace hc_1 : wr.cell? ⟨b, 1, none⟩ = some (.int .i64 p.f1) := hc_1.trans rfl
      replace hc_2 : wr.cell? ⟨b, 2, none⟩ = some (.string p.f2) := hc_2.trans rfl
      have HLEN : Aside0 (dn.length ≤ 40) := ⟨by have h1 := HN.out; have h2 := congrArg List.length HE.out; rw [List.length_append] at h2; omega⟩
      clear hs hnd hnx
      go_wp2_with (first | ((with_reducible refine gate_builtin (b := .append) (xs := #[.tmp 15, .tmp 20]) rfl ?_); at_builtin; refine Kd.R_append k54 (w0 := w) w.heap.size rfl (.tmp 15) (.tmp 20) 26 54 (.agg #[(.bool false), (.int .i64 0), (.string ⟨#[]⟩)]) 32 rfl Try.underlying26 info54 rfl (by decide) (by omega) u3 (dn.map (·.2)) p [.bool p.f0, .int .i64 p.f1, .string p.f2] (fun _ => True) (fun _ => False) rfl rfl ?aP (fun _ hk => hk.elim) ?aF ?aO ?aB ?aS ?aL ?_; (case aP => exact k54_mkM _ _ _ p); (case aB => exact (by repeat (first | (with_reducible first | exact HB.out | apply below_alloc | apply pw_below_drewN | apply below_drew1) | exact HB.out))); (case aF => exact (fun _ _ => trivial)); (case aO => exact (by (with_reducible repeat (first | apply Kd.R_alloc | apply Kd.R_drewN | apply Kd.R_drew)); exact HO.out)); (case aS => exact (below_size (by repeat (first | (with_reducible first | exact HB.out | apply below_alloc | apply pw_below_drewN | apply below_drew1) | exact HB.out)))); (case aL => have := HLEN.out; rw [List.length_map]; omega); intro v320 w5 ho hb hg hat; have n1_ := Aside0.mk (hb); have n2_ := Aside0.mk (ho); have hn_3 : w5.cell? ⟨b, 3, none⟩ = some nx := (hb.cell HBL.out).trans HN3.out; clear HB HO; have HB := n1_; have HO := n2_; clear n1_ n2_; clear ho hb hg hat))
      go_roundg (gk - 1)
      case measure => have := HI.out; simp only [List.length_cons] at this; omega
      case rel => exact ⟨dn ++ [(b, p)], rs, ⟨HNX.out⟩, ⟨by rw [HE.out, List.append_assoc]; rfl⟩, ⟨by have := HI.out; simp only [List.length_cons] at this; omega⟩, ⟨by rw [List.map_append]; (with_reducible repeat (first | apply Kd.R_alloc | apply Kd.R_drewN | apply Kd.R_drew)); exact HO.out⟩, ⟨(by repeat (first | (with_reducible first | exact HB.out | apply below_alloc | apply pw_below_drewN | apply below_drew1) | exact HB.out))⟩⟩
end Go.Proofs.Ytkgpnloghmbmlaa.Print
