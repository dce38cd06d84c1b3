/- An argument's cells, opened kind by kind: as a number, a text, a list, a structure. Conditions: those named in each lemma (a type's form and size in the program). -/
import Derived.Test.YtmfehjkcefpeoaaPrint0
namespace Go.Proofs.Ytmfehjkcefpeoaa.Take
open Go.RowKit Go.Proofs.YtmfehjkcefpeoaaW.PrintWords

/-- What lies at this type can be told by this kind, and is as Wf says. -/
structure Opens {α : Type} (P : Program) (t : TypeId) (d : Kd α) (Wf : α → Prop) : Prop where
  sz : P.cellsOf t = d.sz
  opens : ∀ (H : Type) (enc : TypeId × Value → H) (w : World) (base : Nat) (spare : Nat → Bool) (held : Bool) (fuel : Nat) (cs : List Value) (x : DataW H × List MemPlace), DataW.trod enc P w base spare held fuel t cs = some x → ∃ y : α, d.K w y cs ∧ Wf y

theorem list_of {α : Type} {p : Nat → α → Prop} (n : Nat) (h : ∀ i, i < n → ∃ y, p i y) : ∃ l : List α, l.length = n ∧ ∀ i y, l[i]? = some y → p i y := by
  induction n with
  | zero => exact ⟨[], rfl, fun i y hy => by simp at hy⟩
  | succ n ih =>
    obtain ⟨l, hl, hp⟩ := ih (fun i hi => h i (by omega))
    obtain ⟨z, hz⟩ := h n (by omega)
    refine ⟨l ++ [z], by simp [hl], fun i y hy => ?_⟩
    by_cases hi : i < l.length
    · rw [List.getElem?_append_left hi] at hy
      exact hp i y hy
    · have hin : i = n := by
        have h1 := (List.getElem?_eq_some_iff.1 hy).1
        simp at h1
        omega
      subst hin
      rw [List.getElem?_append_right (by omega)] at hy
      have : z = y := by simpa [hl] using hy
      rw [← this]
      exact hz
theorem addr_add (a : Addr) (i j : Nat) : (a.add i).add j = a.add (i + j) := by
  unfold Addr.add
  by_cases hi : i = 0 <;> by_cases hj : j = 0 <;> simp [hi, hj, Nat.add_assoc]

section
variable {P : Program} {t e : TypeId}
theorem Opens.int {k : IntKind} (ht : P.underlying t = some (.int k)) (hs : P.cellsOf t = 1) : Opens P t (Kd.int k) (fun x => (Lit.int k x).wf = true) := ⟨hs, by
  intro H enc w base spare held fuel cs x h
  obtain ⟨n, rfl, _, hw⟩ := DataW.trod_int ht h
  exact ⟨n, rfl, hw⟩⟩
theorem Opens.bool (ht : P.underlying t = some .bool) (hs : P.cellsOf t = 1) : Opens P t Kd.bool (fun _ => True) := ⟨hs, by
  intro H enc w base spare held fuel cs x h
  obtain ⟨b, rfl, _⟩ := DataW.trod_bool ht h
  exact ⟨b, rfl, trivial⟩⟩
theorem Opens.string (ht : P.underlying t = some .string) (hs : P.cellsOf t = 1) : Opens P t Kd.string (fun s => s.size ≤ maxLen) := ⟨hs, by
  intro H enc w base spare held fuel cs x h
  obtain ⟨s, rfl, _, hw⟩ := DataW.trod_string ht h
  exact ⟨s, rfl, hw⟩⟩
theorem Opens.slice {α : Type} {d : Kd α} {Wf : α → Prop} (ht : P.underlying t = some (.slice e)) (hs : P.cellsOf t = 1) (he : Opens P e d Wf) :
    Opens P t (Kd.slice e d) (fun l => l.length ≤ maxLen ∧ ∀ x ∈ l, Wf x) := ⟨hs, by
  intro H enc w base spare held fuel cs x h
  rcases DataW.trod_slice ht h with ⟨rfl, _⟩ | ⟨a, len, cap, elems, rest, n, _, rfl, _, _, hl, hm, hlen, hel, _⟩
  · exact ⟨[], ⟨none, 0, rfl, Nat.le_refl _, Kd.C_nil d w⟩, Nat.zero_le _, fun x hx => by simp at hx⟩
  · obtain ⟨l, hll, hp⟩ := list_of (p := fun i y => Wf y ∧ ∃ c, c.length = d.sz ∧ d.K w y c ∧ ∀ j u, c[j]? = some u → w.cell? (a.add (i * d.sz + j)) = some u) len (fun i hi => by
      have h1 := hel i hi
      rw [List.getElem?_eq_getElem (by omega)] at h1
      obtain ⟨cs', h2, h3⟩ := Option.bind_eq_some_iff.1 h1
      obtain ⟨_, h4, h5⟩ := World.cells?_some h2
      obtain ⟨y, hy, hw⟩ := he.opens H enc w base spare held n cs' _ h3
      refine ⟨y, hw, cs', h4.trans he.sz, hy, fun j u hu => ?_⟩
      have hj : j < P.cellsOf e := by
        have := (List.getElem?_eq_some_iff.1 hu).1
        omega
      have h6 := h5 j hj
      rw [addr_add, he.sz] at h6
      rw [h6, hu])
    refine ⟨l, ⟨some a, cap, by rw [hll], by omega, ?_⟩, by omega, fun x hx => ?_⟩
    · refine ⟨rfl, by have : maxLen = 9223372036854775807 := by decide
                      omega, fun _ => ⟨a, rfl, fun j p hj => (hp j p hj).2⟩⟩
    · obtain ⟨i, hi⟩ := List.getElem?_of_mem hx
      exact (hp i x hi).1⟩
/-- A structure's fields, from one on. -/
structure Tail {α : Type} (P : Program) (fs : Array Field) (i o : Nat) (d : Kd α) (Wf : α → Prop) : Prop where
  opens : ∀ (H : Type) (enc : TypeId × Value → H) (w : World) (base : Nat) (spare : Nat → Bool) (held : Bool) (n : Nat) (cs : List Value) (xs : List (DataW H × List MemPlace)), xs.length = fs.size → cs.length = o + d.sz →
    (∀ (j : Nat) (f : Field), fs[j]? = some f → DataW.trod enc P w base spare held n f.type ((cs.drop f.offset).take (P.cellsOf f.type)) = xs[j]?) → ∃ y : α, d.K w y (cs.drop o) ∧ Wf y
theorem Tail.last {α : Type} {fs : Array Field} {i o : Nat} {d : Kd α} {Wf : α → Prop} (f : Field) (hf : fs[i]? = some f) (ho : f.offset = o) (h : Opens P f.type d Wf) : Tail P fs i o d Wf := ⟨by
  intro H enc w base spare held n cs xs hx hl he
  have h1 := he i f hf
  have hi : i < xs.length := by
    have := (Array.getElem?_eq_some_iff.1 hf).1
    omega
  rw [ho, h.sz, List.take_of_length_le (by rw [List.length_drop]; omega), List.getElem?_eq_getElem hi] at h1
  exact h.opens H enc w base spare held n _ _ h1⟩
theorem Tail.cons {α β : Type} {fs : Array Field} {i o : Nat} {d : Kd α} {d' : Kd β} {Wf : α → Prop} {Wf' : β → Prop} (f : Field) (hf : fs[i]? = some f) (ho : f.offset = o) (h : Opens P f.type d Wf) (k : Tail P fs (i + 1) (o + d.sz) d' Wf') :
    Tail P fs i o (Kd.pair d d') (fun p => Wf p.1 ∧ Wf' p.2) := ⟨by
  intro H enc w base spare held n cs xs hx hl he
  have h1 := he i f hf
  have hi : i < xs.length := by
    have := (Array.getElem?_eq_some_iff.1 hf).1
    omega
  rw [ho, h.sz, List.getElem?_eq_getElem hi] at h1
  obtain ⟨y, hy, hw⟩ := h.opens H enc w base spare held n _ _ h1
  have hl' : cs.length = o + (d.sz + d'.sz) := hl
  obtain ⟨z, hz, hw'⟩ := k.opens H enc w base spare held n cs xs hx (by omega) he
  exact ⟨(y, z), ⟨_, _, by rw [← List.drop_drop]; exact (List.take_append_drop d.sz (cs.drop o)).symm, hy, hz⟩, hw, hw'⟩⟩
theorem Opens.struct {α : Type} {d : Kd α} {Wf : α → Prop} {fs : Array Field} (ht : P.underlying t = some (.struct fs)) (hs : P.cellsOf t = d.sz) (k : Tail P fs 0 0 d Wf) : Opens P t d Wf := ⟨hs, by
  intro H enc w base spare held fuel cs x h
  obtain ⟨xs, n, _, _, hl, hx, he⟩ := DataW.trod_struct ht h
  obtain ⟨y, hy, hw⟩ := k.opens H enc w base spare held n cs xs hx (by omega) he
  exact ⟨y, by simpa using hy, hw⟩⟩
theorem Opens.iso {α β : Type} {d : Kd α} {Wf : α → Prop} (f : β → α) (mk : α → β) (hf : ∀ a, f (mk a) = a) (h : Opens P t d Wf) : Opens P t (Kd.iso d f) (fun y => Wf (f y)) := ⟨h.sz, by
  intro H enc w base spare held fuel cs x hx
  obtain ⟨y, hy, hw⟩ := h.opens H enc w base spare held fuel cs x hx
  exact ⟨mk y, by show d.K w (f (mk y)) cs; rw [hf]; exact hy, by rw [hf]; exact hw⟩⟩
/-- A list that came as an argument. -/
theorem Opens.arg {α : Type} {d : Kd α} {Wf : List α → Prop} {H : Type} {enc : TypeId × Value → H} {w : World} {base : Nat} {spare : Nat → Bool} {held : Bool} {v : Value} {x : DataW H} {p : List MemPlace} (h : Opens P t (Kd.slice e d) Wf)
    (hv : v.cells.toList = [v]) (ht : DataW.Trod enc P w base spare held t v x p) : ∃ (A : Option Addr) (c : Nat) (l : List α), v = .slice A l.length c ∧ d.C w A l.length l ∧ l.length ≤ c ∧ Wf l := by
  obtain ⟨fuel, hf⟩ := ht
  rw [hv] at hf
  obtain ⟨l, ⟨A, c, hc, hl, hC⟩, hw⟩ := h.opens H enc w base spare held fuel _ _ hf
  exact ⟨A, c, l, by simpa using hc, hC, hl, hw⟩
end
end Go.Proofs.Ytmfehjkcefpeoaa.Take
