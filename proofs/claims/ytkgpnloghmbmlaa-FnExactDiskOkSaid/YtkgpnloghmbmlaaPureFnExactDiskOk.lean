/- Proved: the law FnExactDiskOk answers true. Conditions: those of the statement's row alone. -/
import Derived.Test.YtkgpnloghmbmlaaDSpec
import Derived.Test.YtkgpnloghmbmlaaPrint11
namespace Go.Proofs.Ytkgpnloghmbmlaa.Pure
open Go.RowKit Go.Proofs.Ytkgpnloghmbmlaa.Print Go.Proofs.YtkgpnloghmbmlaaW.PrintWords

theorem FnExactDiskOk (st : Int) (l1 l2 : List ByteArray) (l3 : List Bool) (l4 : List S65) (hw : Take.W39 ⟨st, l1, l2, l3, l4⟩) : ∃ k, laws_FnExactDiskOk.f k st l1 l2 l3 l4 = some true := by
  apply Ev.rounds
  obtain ⟨t, _, ht, hf⟩ := szDisk_ev st l1 l2 l3 l4 1048576 (by omega) hw
  unfold laws_FnExactDiskOk.f
  refine Ev.bind ht ?_
  by_cases h : t < 0
  · exact Ev.pos h (Ev.ret rfl)
  · have hf := hf h
    have hf2 : Fits l1 l2 l3 (pts l4).length := by rw [pts_length]; exact hf
    have hd := toDisk_ev st l1 l2 l3 l4 hf
    exact Ev.neg h (Ev.bind hd (Ev.bind (specDiskOk_ev st l1 l2 l3 (pts l4) hf2.h4) (Ev.bind hd (Ev.take (a := goodB st l1 l2 l3 (pts l4)) rfl (Ev.neg (by simp) (Ev.bind hd (Ev.bind (eqDisk_ev st l1 l2 l3 (pts l4) hf2) (Ev.pos rfl (Ev.ret rfl)))))))))
end Go.Proofs.Ytkgpnloghmbmlaa.Pure
