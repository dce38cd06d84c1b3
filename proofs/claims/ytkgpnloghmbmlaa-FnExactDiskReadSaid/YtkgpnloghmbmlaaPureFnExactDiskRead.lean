/- Proved: the law FnExactDiskRead answers true. Conditions: those of the statement's row alone. -/
import Derived.Test.YtkgpnloghmbmlaaDRead
import Derived.Test.YtkgpnloghmbmlaaPrint14
namespace Go.Proofs.Ytkgpnloghmbmlaa.Pure
open Go.RowKit Go.Proofs.Ytkgpnloghmbmlaa.Print Go.Proofs.YtkgpnloghmbmlaaW.PrintWords

theorem FnExactDiskRead (st : Int) (l1 l2 : List ByteArray) (l3 : List Bool) (l4 : List S65) (a : Int) (hw : Take.W39 ⟨st, l1, l2, l3, l4⟩) (_ : (Lit.int .i64 a).wf = true) : ∃ k, laws_FnExactDiskRead.f k st l1 l2 l3 l4 a = some true := by
  apply Ev.rounds
  obtain ⟨t, _, ht, hf⟩ := szDisk_ev st l1 l2 l3 l4 1048576 (by omega) hw
  unfold laws_FnExactDiskRead.f
  refine Ev.bind ht ?_
  by_cases h : t < 0
  · exact Ev.pos h (Ev.ret rfl)
  · have hf := hf h
    have hf2 : Fits l1 l2 l3 (pts l4).length := by rw [pts_length]; exact hf
    have hd := toDisk_ev st l1 l2 l3 l4 hf
    obtain ⟨r, hr, hs⟩ := implRead_eq st l1 l2 l3 (pts l4) a
    refine Ev.neg h (Ev.bind hd (Ev.bind (hs hf2.h4) (Ev.bind hd (Ev.take hr (Ev.pos rfl (Ev.next ?_))))))
    simp only [laws_FnExactDiskRead.j0]
    exact Ev.neg (by simp) (Ev.bind hd (Ev.bind (eqDisk_ev st l1 l2 l3 (pts l4) hf2) (Ev.pos rfl (Ev.ret rfl))))
end Go.Proofs.Ytkgpnloghmbmlaa.Pure
