import Derived.Test.YtlpcpkgdojpleaaDoorWMore
import Derived.Deep.Slices
import Derived.ChangeArms
/- What comes in, of whatever kind: its reading gives a Lean value of that kind. -/
namespace Go.Proofs.YtlpcpkgdojpleaaDoorW.Open
open Go.RowKit Go.Deep Go.Proofs.YtlpcpkgdojpleaaDoorW.PrintWords
set_option linter.unusedVariables false
structure Opens {α : Type} (P : Program) (t : TypeId) (d : Kd α) (wf : α → Prop) : Prop where
  sz : P.cellsOf t = d.sz
  opens : ∀ {H : Type} {enc : TypeId × Value → H} {w : World} {base : Nat} {spare : Nat → Bool} {held : Bool} {fuel : Nat} {cs : List Value} {x : DataW H × List MemPlace},
    DataW.trod enc P w base spare held fuel t cs = some x → ∃ v, d.K w v cs ∧ wf v
theorem Opens.int {P : Program} {t : TypeId} {k : IntKind} (ht : P.underlying t = some (.int k)) (hc : P.cellsOf t = 1) : Opens P t (Kd.int k) (fun n => (Lit.int k n).wf = true) :=
  ⟨hc, fun h => by
    obtain ⟨n, rfl, _, hw⟩ := DataW.trod_int ht h
    exact ⟨n, rfl, hw⟩⟩
theorem Opens.bool {P : Program} {t : TypeId} (ht : P.underlying t = some .bool) (hc : P.cellsOf t = 1) : Opens P t Kd.bool (fun _ => True) :=
  ⟨hc, fun h => by
    obtain ⟨b, rfl, _⟩ := DataW.trod_bool ht h
    exact ⟨b, rfl, trivial⟩⟩
theorem Opens.string {P : Program} {t : TypeId} (ht : P.underlying t = some .string) (hc : P.cellsOf t = 1) : Opens P t Kd.string (fun s => s.size ≤ maxLen) :=
  ⟨hc, fun h => by
    obtain ⟨s, rfl, _, hs⟩ := DataW.trod_string ht h
    exact ⟨s, rfl, hs⟩⟩
theorem cells_at {w : World} {base n : Nat} {a : Addr} {cs : List Value} (h : w.cells? base a n = some cs) : cs.length = n ∧ ∀ i u, cs[i]? = some u → w.cell? (a.add i) = some u := by
  unfold World.cells? at h
  split at h
  · refine ⟨by simpa using mapM_some_length h, fun i u hu => ?_⟩
    have hi : i < n := by
      have h1 := (List.getElem?_eq_some_iff.1 hu).1
      have h2 : cs.length = n := by simpa using mapM_some_length h
      omega
    have := mapM_some_get h i i (by simp [hi])
    rw [this, hu]
  · cases h
theorem Opens.slice {α : Type} [Inhabited α] {P : Program} {t e : TypeId} {d : Kd α} {wf : α → Prop} (ht : P.underlying t = some (.slice e)) (hc : P.cellsOf t = 1) (he : Opens P e d wf) :
    Opens P t (Kd.slice e d) (fun l => l.length ≤ maxLen ∧ ∀ x ∈ l, wf x) :=
  ⟨hc, fun {H enc w base spare held fuel cs x} h => by
    rcases open_slice ht h with ⟨rfl, _⟩ | ⟨a, len, cap, m, n, D, Pl, rfl, hb, hl, hm, hmm, _, hel⟩
    · exact ⟨[], ⟨none, 0, rfl, Nat.le_refl _, rfl, by simp, fun h => absurd h (by simp)⟩, by simp [maxLen], by simp⟩
    · have hlm : len ≤ m := by rw [hmm]; split <;> omega
      obtain ⟨f, hf⟩ := choose_lt (n := len) (p := fun i v => (∃ cs', w.cells? base (a.add (i * P.cellsOf e)) (P.cellsOf e) = some cs' ∧ d.K w v cs') ∧ wf v) (fun i hi => by
        obtain ⟨cs', h1, h2⟩ := hel i (by omega)
        obtain ⟨v, h3, h4⟩ := he.opens h2
        exact ⟨v, ⟨cs', h1, h3⟩, h4⟩)
      have hlen : ((List.range len).map f).length = len := by simp
      refine ⟨(List.range len).map f, ⟨some a, cap, by rw [hlen], by rw [hlen]; exact hl, ?_⟩, by rw [hlen]; omega, ?_⟩
      · refine ⟨rfl, by rw [hlen]; unfold maxLen at hm; omega, fun _ => ⟨a, rfl, fun j p hp => ?_⟩⟩
        have hj : j < len := by
          have h1 := (List.getElem?_eq_some_iff.1 hp).1
          omega
        have hp' : f j = p := by simpa [hj] using hp
        subst hp'
        obtain ⟨⟨cs', h1, h2⟩, _⟩ := hf j hj
        refine ⟨cs', d.K_len h2, h2, fun i u hu => ?_⟩
        have := (cells_at h1).2 i u hu
        rw [Go.Deep.add_add, he.sz] at this
        exact this
      · intro x hx
        obtain ⟨i, hi, rfl⟩ := List.mem_map.1 hx
        exact (hf i (by simpa using hi)).2⟩
structure FieldsOpen {α : Type} (P : Program) (total : Nat) (fs : List Field) (off : Nat) (d : Kd α) (wf : α → Prop) : Prop where
  opens : ∀ {H : Type} {enc : TypeId × Value → H} {w : World} {base : Nat} {spare : Nat → Bool} {held : Bool} {fuel : Nat} {cs : List Value}, cs.length = total →
    (∀ f ∈ fs, ∃ x : DataW H × List MemPlace, DataW.trod enc P w base spare held fuel f.type ((cs.drop f.offset).take (P.cellsOf f.type)) = some x) → ∃ v, d.K w v (cs.drop off) ∧ wf v
theorem FieldsOpen.one {α : Type} {P : Program} {total off : Nat} {f : Field} {d : Kd α} {wf : α → Prop} (ho : f.offset = off) (h : Opens P f.type d wf) (ht : off + d.sz = total) : FieldsOpen P total [f] off d wf := by
  refine ⟨fun {H enc w base spare held fuel cs} hl hx => ?_⟩
  obtain ⟨x, hx⟩ := hx f (List.mem_singleton.2 rfl)
  rw [ho, h.sz, List.take_of_length_le (by rw [List.length_drop]; omega)] at hx
  exact h.opens hx
theorem FieldsOpen.cons {α β : Type} {P : Program} {total off : Nat} {f : Field} {fs : List Field} {a : Kd α} {b : Kd β} {wa : α → Prop} {wb : β → Prop} (ho : f.offset = off) (h : Opens P f.type a wa) (r : FieldsOpen P total fs (off + a.sz) b wb) :
    FieldsOpen P total (f :: fs) off (Kd.pair a b) (fun v => wa v.1 ∧ wb v.2) := by
  refine ⟨fun {H enc w base spare held fuel cs} hl hx => ?_⟩
  obtain ⟨x, h1⟩ := hx f (List.mem_cons_self ..)
  rw [ho, h.sz] at h1
  obtain ⟨v, h2, h3⟩ := h.opens h1
  obtain ⟨u, h4, h5⟩ := r.opens (H := H) (enc := enc) hl (fun g hg => hx g (List.mem_cons_of_mem _ hg))
  refine ⟨(v, u), ⟨_, _, ?_, h2, h4⟩, h3, h5⟩
  rw [← List.drop_drop, List.take_append_drop]
theorem Opens.struct {α β : Type} {P : Program} {t : TypeId} {fs : Array Field} {d : Kd α} {wf : α → Prop} (f : β → α) (g : α → β) (hfg : ∀ x, f (g x) = x) (ht : P.underlying t = some (.struct fs)) (hc : P.cellsOf t = d.sz) (h : FieldsOpen P d.sz fs.toList 0 d wf) :
    Opens P t (Kd.iso d f) (fun y => wf (f y)) :=
  ⟨hc, fun {H enc w base spare held fuel cs x} hx => by
    obtain ⟨xs, n, _, _, hl, hn, hel⟩ := DataW.trod_struct ht hx
    obtain ⟨v, h1, h2⟩ := h.opens (H := H) (enc := enc) (cs := cs) (w := w) (base := base) (spare := spare) (held := held) (fuel := n) (by rw [hl, hc]) (fun f hf => by
      obtain ⟨i, hi, rfl⟩ := List.getElem_of_mem hf
      have hi' : i < xs.length := by rw [hn]; simpa using hi
      exact ⟨xs[i], by rw [hel i _ (by simp), List.getElem?_eq_getElem hi']⟩)
    exact ⟨g v, by show d.K w (f (g v)) cs; rw [hfg]; simpa using h1, by simpa only [hfg] using h2⟩⟩
theorem Opens.imp {α : Type} {P : Program} {t : TypeId} {d : Kd α} {wf wf' : α → Prop} (h : Opens P t d wf) (hw : ∀ x, wf x → wf' x) : Opens P t d wf' :=
  ⟨h.sz, fun hx => by
    obtain ⟨v, h1, h2⟩ := h.opens hx
    exact ⟨v, h1, hw v h2⟩⟩
end Go.Proofs.YtlpcpkgdojpleaaDoorW.Open
