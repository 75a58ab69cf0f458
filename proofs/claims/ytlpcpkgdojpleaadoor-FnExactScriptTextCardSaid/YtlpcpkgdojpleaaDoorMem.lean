import Derived.Test.YtlpcpkgdojpleaaDoorWMore
import Derived.Test.YtlpcpkgdojpleaaDoorWTab
import Derived.Laws.CopyRow
import Derived.Laws.Tables
/- What is known of memory since a call began: variables (boxes) and rows of the call's own, no two of which share a block. -/
namespace Go.Proofs.YtlpcpkgdojpleaaDoorW.Mem
open Go.RowKit Go.Proofs.YtlpcpkgdojpleaaDoorW.PrintWords Go.Proofs.YtlpcpkgdojpleaaDoorW.PrintLast Go.Proofs.YtlpcpkgdojpleaaDoorW.PrintMore
set_option linter.unusedVariables false
theorem bsz (a : Array UInt8) : (⟨a⟩ : ByteArray).size = a.size := rfl
/-- A row: one that begins at its block's head, or (true) one that may begin inside it. -/
def RQ {α : Type} (q : Bool) (d : Kd α) (e : Nat) (w : World) (base : Nat) (ok : Nat → Prop) (v : Value) (xs : List α) : Prop := match q with
  | true => d.Q e w base ok v xs
  | false => d.R e w base ok v xs
namespace RQ
variable {α : Type} {q : Bool} {d : Kd α} {e base base' : Nat} {w w1 : World} {ok ok' : Nat → Prop} {v : Value} {xs : List α}
theorem mono (h : RQ q d e w base ok v xs) (hok : ∀ k, ok k → ok' k) : RQ q d e w base ok' v xs := by cases q with | false => exact Kd.R_mono h hok | true => exact Kd.Q_mono h hok
theorem bound (h : RQ q d e w base ok v xs) : RQ q d e w base (fun k => ok k ∧ base ≤ k ∧ k < w.heap.size ∧ ∃ q, q ∈ e :: d.E ∧ ∃ cells, w.heap[k]? = some (.cells cells q (0, 0))) v xs := by cases q with | false => exact Kd.R_bound h | true => exact Kd.Q_bound h
theorem step (h : RQ q d e w base ok v xs) (hm : ∀ k, ok k → k < w.heap.size → w1.heap[k]? = w.heap[k]?) : RQ q d e w1 base ok v xs := by cases q with | false => exact Kd.R_step h hm | true => exact Kd.Q_step h hm
theorem lower (h : RQ q d e w base ok v xs) (hb : base' ≤ base) : RQ q d e w base' ok v xs := by cases q with | false => exact Kd.R_lower h hb | true => exact Kd.Q_lower h hb
theorem slice (h : RQ q d e w base ok v xs) : ∃ A c, v = .slice A xs.length c := by
  cases q
  · exact Kd.R_slice h
  · obtain ⟨A, c, e, _⟩ := Kd.Q_slice h
    exact ⟨A, c, e⟩
theorem reads {A : Option Addr} {n c : Nat} (h : RQ q d e w base ok (.slice A n c) xs) : n = xs.length ∧ n ≤ c ∧ d.C w A xs.length xs := by cases q with | false => exact Kd.R_reads' h | true => exact Kd.Q_reads' h
theorem tight (hE : d.E = []) (h : RQ q d e w base ok v xs) : RQ q d e w base (fun k => some k = v.ownBlock ∧ ok k) v xs := by
  have h1 : ∀ k, v.ownBlock = some k → ok k := by cases q <;> exact h.1
  have h2 : RQ q d e w base (fun k => some k = v.ownBlock) v xs := by cases q with | false => exact Kd.R_tight hE h | true => exact Kd.Q_tight hE h
  exact h2.mono (fun k hk => ⟨hk, h1 k hk.symm⟩)
theorem head (h : RQ q d e w base ok v xs) (k : Nat) (hk : some k = v.ownBlock) : ok k := by cases q <;> exact h.1 k hk.symm
theorem typed (h : RQ q d e w base ok v xs) : ∀ k, v.ownBlock = some k → ∃ cells, w.heap[k]? = some (.cells cells e (0, 0)) := by cases q with | false => exact Kd.R_typed h | true => exact Kd.Q_typed h
theorem toQ (h : RQ q d e w base ok v xs) : d.Q e w base ok v xs := by cases q with | false => exact Kd.Q_of_R h | true => exact h
/-- Blocks of other types. -/
theorem apart {β : Type} {q2 : Bool} {d2 : Kd β} {e2 : Nat} {base2 : Nat} {ok2 : Nat → Prop} {v2 : Value} {ys : List β} (h : RQ q d e w base ok v xs) (h2 : RQ q2 d2 e2 w base2 ok2 v2 ys) (ht : ∀ q, q ∈ e :: d.E → q ≠ e2) : RQ q d e w base (fun k => ok k ∧ some k ≠ v2.ownBlock) v xs :=
  h.bound.mono (fun k hk => ⟨hk.1, fun e_ => by
    obtain ⟨_, _, _, q', hq, cells', hc⟩ := hk
    obtain ⟨cells, hc2⟩ := h2.typed k e_.symm
    rw [hc] at hc2
    injection hc2 with hc2
    injection hc2 with _ hc2
    exact ht q' hq hc2⟩)
end RQ
inductive Ent : Type 1 where
  | box (g t : Nat) (cs : Array Value)
  | row {α : Type} (q : Bool) (d : Kd α) (e : Nat) (A : Option Addr) (c : Nat) (xs : List α)
def Ent.In (w0 w : World) (ok : Nat → Prop) : Ent → Prop
  | .box g t cs => w.heap[g]? = some (.cells cs t (0, 0)) ∧ w0.heap.size ≤ g ∧ ok g
  | .row q d e A c xs => RQ q d e w w0.heap.size ok (.slice A xs.length c) xs
section
variable {w0 w w1 : World} {L : List Ent} {e : Ent} {ok ok' : Nat → Prop}
theorem Ent.In.mono (h : e.In w0 w ok) (hk : ∀ k, ok k → ok' k) : e.In w0 w ok' := by
  cases e with
  | box g t cs => exact ⟨h.1, h.2.1, hk _ h.2.2⟩
  | row q d e A c xs => exact RQ.mono h hk
theorem Ent.In.bound (h : e.In w0 w ok) : e.In w0 w (fun k => ok k ∧ w0.heap.size ≤ k ∧ k < w.heap.size) := by
  cases e with
  | box g t cs => exact ⟨h.1, h.2.1, h.2.2, h.2.1, blk_lt h.1⟩
  | row q d e A c xs => exact RQ.mono (RQ.bound h) (fun k hk => ⟨hk.1, hk.2.1, hk.2.2.1⟩)
theorem Ent.In.step (h : e.In w0 w ok) (hm : ∀ k, ok k → k < w.heap.size → w1.heap[k]? = w.heap[k]?) : e.In w0 w1 ok := by
  cases e with
  | box g t cs => exact ⟨(hm g h.2.2 (blk_lt h.1)).trans h.1, h.2⟩
  | row q d e A c xs => exact RQ.step h hm
theorem Ent.In.lower {w00 : World} (h : e.In w0 w ok) (hb : w00.heap.size ≤ w0.heap.size) : e.In w00 w ok := by
  cases e with
  | box g t cs => exact ⟨h.1, Nat.le_trans hb h.2.1, h.2.2⟩
  | row q d e A c xs => exact RQ.lower h hb
structure Mem (w0 w : World) (L : List Ent) : Prop where
  bel : Below w0.heap.size w0 w
  own : ∃ o : Nat → Nat, ∀ i (e : Ent), L[i]? = some e → e.In w0 w (fun b => o b = i)
theorem Mem.start (w : World) : Mem w w [] := ⟨Below.refl _ _, fun _ => 0, fun i e h => by simp at h⟩
theorem Mem.next (M : Mem w0 w L) (hb : Below w.heap.size w w1) : Mem w0 w1 L := by
  obtain ⟨hB, o, ho⟩ := M
  exact ⟨below_step hB hb, o, fun i e h => (ho i e h).step (fun k _ hk => hb.block k hk)⟩
theorem Mem.drew (M : Mem w0 w L) : Mem w0 w.drew L := M.next (below_drew1 (Below.refl _ _))
theorem Mem.drewN (M : Mem w0 w L) (n : Nat) : Mem w0 (w.drewN n) L := M.next (pw_below_drewN (Below.refl _ _) n)
theorem Mem.drawn (M : Mem w0 w L) (h : Drawn0 w w1) : Mem w0 w1 L := M.next h.below
theorem Mem.add (M : Mem w0 w L) (hb : Below w.heap.size w w1) (Ls : List Ent) (o' : Nat → Nat) (h : ∀ i (e : Ent), Ls[i]? = some e → e.In w w1 (fun b => o' b = i)) : Mem w0 w1 (Ls ++ L) := by
  obtain ⟨hB, o, ho⟩ := M
  refine ⟨below_step hB hb, fun b => if b < w.heap.size then o b + Ls.length else o' b, fun i e he => ?_⟩
  rw [List.getElem?_append] at he
  split at he
  · refine ((h i e he).bound.mono (fun k hk => ?_)).lower hB.size
    simp only [if_neg (Nat.not_lt.2 hk.2.1)]
    exact hk.1
  · rename_i hi
    refine ((ho _ e he).bound.mono (fun k hk => ?_)).step (fun k hk hlt => hb.block k hlt)
    simp only [if_pos hk.2.2]
    have := hk.1
    omega
theorem Mem.add1 (M : Mem w0 w L) (hb : Below w.heap.size w w1) (h : e.In w w1 (fun _ => True)) : Mem w0 w1 (e :: L) :=
  M.add hb [e] (fun _ => 0) (fun i e' he => by
    cases i with
    | zero => simp only [List.getElem?_cons_zero, Option.some.injEq] at he; subst he; exact h.mono (fun _ _ => rfl)
    | succ n => simp at he)
theorem Mem.box (M : Mem w0 w L) {g t : Nat} {cs : Array Value} (hg : g = w.heap.size) (hx : w1.heap[g]? = some (.cells cs t (0, 0))) (hb : Below w.heap.size w w1) : Mem w0 w1 (.box g t cs :: L) :=
  M.add1 hb ⟨hx, Nat.le_of_eq hg.symm, trivial⟩
section
variable {α β γ : Type} {q q2 q3 : Bool} {d : Kd α} {d2 : Kd β} {d3 : Kd γ} {t t2 t3 : Nat} {A A2 A3 : Option Addr} {n n2 n3 c c2 c3 : Nat} {xs : List α} {ys : List β} {zs : List γ} {v v2 v3 : Value}
theorem Mem.row (q : Bool) (M : Mem w0 w L) (h : RQ q d t w1 w.heap.size ok v xs) (hb : Below w.heap.size w w1) : ∃ A c, v = .slice A xs.length c ∧ Mem w0 w1 (.row q d t A c xs :: L) := by
  obtain ⟨A, c, rfl⟩ := RQ.slice h
  exact ⟨A, c, rfl, M.add1 hb (RQ.mono h (fun _ _ => trivial))⟩
/-- Two rows of one call's making, the second flat, told apart by the first one's 'ok'. -/
theorem Mem.row2 (q q2 : Bool) (M : Mem w0 w L) (hE2 : d2.E = []) (h : RQ q d t w1 w.heap.size ok v xs) (h2 : RQ q2 d2 t2 w1 w.heap.size ok' v2 ys) (hok : ∀ k, ok k → some k ≠ v2.ownBlock) (hb : Below w.heap.size w w1) :
    ∃ A c A2 c2, v = .slice A xs.length c ∧ v2 = .slice A2 ys.length c2 ∧ Mem w0 w1 (.row q d t A c xs :: .row q2 d2 t2 A2 c2 ys :: L) := by
  obtain ⟨A, c, rfl⟩ := RQ.slice h
  obtain ⟨A2, c2, rfl⟩ := RQ.slice h2
  refine ⟨A, c, A2, c2, rfl, rfl, M.add hb [.row q d t A c xs, .row q2 d2 t2 A2 c2 ys] (fun k => if some k = (Value.slice A2 ys.length c2).ownBlock then 1 else 0) (fun i e' he => ?_)⟩
  match i with
  | 0 =>
    simp only [List.getElem?_cons_zero, Option.some.injEq] at he; subst he
    exact RQ.mono h (fun k hk => by simp only [if_neg (hok k hk)])
  | 1 =>
    simp only [List.getElem?_cons_succ, List.getElem?_cons_zero, Option.some.injEq] at he; subst he
    exact RQ.mono (RQ.tight hE2 h2) (fun k hk => by simp only [if_pos hk.1])
  | n + 2 => simp at he
/-- Three rows, the last two flat, told apart: the first from both, the second from the third. -/
theorem Mem.row3 (q q2 q3 : Bool) (M : Mem w0 w L) (hE2 : d2.E = []) (hE3 : d3.E = []) {ok'' : Nat → Prop} (h : RQ q d t w1 w.heap.size ok v xs) (h2 : RQ q2 d2 t2 w1 w.heap.size ok' v2 ys) (h3 : RQ q3 d3 t3 w1 w.heap.size ok'' v3 zs)
    (hok1 : ∀ k, ok k → some k ≠ v2.ownBlock ∧ some k ≠ v3.ownBlock) (hok : ∀ k, ok' k → some k ≠ v3.ownBlock) (hb : Below w.heap.size w w1) :
    ∃ A c A2 c2 A3 c3, v = .slice A xs.length c ∧ v2 = .slice A2 ys.length c2 ∧ v3 = .slice A3 zs.length c3 ∧ Mem w0 w1 (.row q d t A c xs :: .row q2 d2 t2 A2 c2 ys :: .row q3 d3 t3 A3 c3 zs :: L) := by
  obtain ⟨A, c, rfl⟩ := RQ.slice h
  obtain ⟨A2, c2, rfl⟩ := RQ.slice h2
  obtain ⟨A3, c3, rfl⟩ := RQ.slice h3
  refine ⟨A, c, A2, c2, A3, c3, rfl, rfl, rfl, M.add hb [.row q d t A c xs, .row q2 d2 t2 A2 c2 ys, .row q3 d3 t3 A3 c3 zs] (fun k => if some k = (Value.slice A3 zs.length c3).ownBlock then 2 else if some k = (Value.slice A2 ys.length c2).ownBlock then 1 else 0) (fun i e' he => ?_)⟩
  match i with
  | 0 =>
    simp only [List.getElem?_cons_zero, Option.some.injEq] at he; subst he
    exact RQ.mono h (fun k hk => by simp only [if_neg (hok1 k hk).1, if_neg (hok1 k hk).2])
  | 1 =>
    simp only [List.getElem?_cons_succ, List.getElem?_cons_zero, Option.some.injEq] at he; subst he
    refine RQ.mono (RQ.tight hE2 h2) (fun k hk => ?_)
    simp only [if_pos hk.1, if_neg (hok k hk.2)]
  | 2 =>
    simp only [List.getElem?_cons_succ, List.getElem?_cons_zero, Option.some.injEq] at he; subst he
    exact RQ.mono (RQ.tight hE3 h3) (fun k hk => by simp only [if_pos hk.1])
  | n + 3 => simp at he
theorem Mem.read (M : Mem w0 w L) (h : d.C w0 A n xs) : d.C w A n xs := Kd.C_below h M.bel
theorem Mem.reads (M : Mem w0 w L) (i : Nat) (h : L[i]? = some (.row q d t A c xs)) : d.C w A xs.length xs := by
  obtain ⟨_, o, ho⟩ := M
  exact (RQ.reads (ho i _ h)).2.2
theorem Mem.room (M : Mem w0 w L) (i : Nat) (h : L[i]? = some (.row q d t A c xs)) : xs.length ≤ c := by
  obtain ⟨_, o, ho⟩ := M
  exact (RQ.reads (ho i _ h)).2.1
/-- A row of one's own, handed back, told apart from others. -/
theorem Mem.outO (M : Mem w0 w L) (i : Nat) (h : L[i]? = some (.row q d t A c xs)) {ok : Nat → Prop} (hok : ∀ o : Nat → Nat, (∀ i e, L[i]? = some e → Ent.In w0 w (fun b => o b = i) e) → ∀ k, o k = i → ok k) : RQ q d t w w0.heap.size ok (.slice A xs.length c) xs := by
  obtain ⟨_, o, ho⟩ := M
  exact RQ.mono (ho i _ h) (fun k hk => hok o ho k hk)
theorem Mem.own_row {o : Nat → Nat} {j : Nat} (hj : (Ent.row q2 d2 t2 A2 c2 ys).In w0 w (fun b => o b = j)) (k : Nat) (hk : some k = (Value.slice A2 ys.length c2).ownBlock) : o k = j := RQ.head hj k hk
end
theorem Mem.blk (M : Mem w0 w L) (i : Nat) {g t : Nat} {cs : Array Value} (h : L[i]? = some (.box g t cs)) : w.heap[g]? = some (.cells cs t (0, 0)) := by
  obtain ⟨_, o, ho⟩ := M
  exact (ho i _ h).1
def cellFacts (w : World) : List Ent → Prop
  | [] => True
  | .box g _ cs :: L => (∀ j, w.cell? ⟨g, j, none⟩ = cs[j]?) ∧ cellFacts w L
  | .row .. :: L => cellFacts w L
theorem cellFacts_of (L : List Ent) (h : ∀ (i g t : Nat) (cs : Array Value), L[i]? = some (Ent.box g t cs) → w.heap[g]? = some (Obj.cells cs t (0, 0))) : cellFacts w L := by
  induction L with
  | nil => trivial
  | cons e L ih =>
    have ih' := ih (fun i g t cs he => h (i + 1) g t cs (by simpa using he))
    cases e with
    | box g t cs => exact ⟨fun j => blk_cell (h 0 g t cs (by simp)) j, ih'⟩
    | row => exact ih'
theorem Mem.cells (M : Mem w0 w L) : cellFacts w L := cellFacts_of L (fun i _ _ _ h => M.blk i h)
/-- A variable is stored into. -/
theorem Mem.put (M : Mem w0 w L) (i : Nat) {g t : Nat} {cs cs' : Array Value} (h : L[i]? = some (.box g t cs)) (hx : w1.heap[g]? = some (.cells cs' t (0, 0))) (ho : ∀ k, k ≠ g → w1.heap[k]? = w.heap[k]?) (h1 : w1.os = w.os) (h2 : w1.tape = w.tape) (h3 : w1.output = w.output) (hs : w1.heap.size = w.heap.size) :
    Mem w0 w1 (L.set i (.box g t cs')) := by
  obtain ⟨hB, o, hh⟩ := M
  have hi := hh i _ h
  refine ⟨hB.trans ⟨h1, h2, h3, by omega, fun k hk => ho k (by have := hi.2.1; omega)⟩, o, fun j e he => ?_⟩
  rw [List.getElem?_set] at he
  split at he
  · rename_i hij
    subst hij
    split at he
    · simp only [Option.some.injEq] at he
      subst he
      exact ⟨hx, hi.2.1, hi.2.2⟩
    · cases he
  · rename_i hij
    refine (hh j e he).step (fun k hk _ => ho k (fun e_ => hij ?_))
    subst e_
    have h5 : o k = j := hk
    have h6 : o k = i := hi.2.2
    omega
end

def puts (cs : Array Value) (j : Nat) (vs : Array Value) : Array Value := (cs.toList.take j ++ vs.toList ++ cs.toList.drop (j + vs.size)).toArray
section
variable {P : Program} {ops : Array Oper} {rest : List Oper} {o : Oper} {a : Act} {Q : Exit → Act → World → Prop} {w0 W : World} {L : List Ent}
theorem Mem.ev_box (M : Mem w0 W L) (hgd : o.guard = none) {cs : Array Value} {t : TypeId}
    (hrun : (execOp a.eval o).run P W = .ok (.value (.pointer (some ⟨W.heap.size, 0, none⟩))) (W.alloc (.cells cs t (0, 0))))
    (h : ∀ g w1, Mem w0 w1 (.box g t cs :: L) → wpList P ops Q rest (a.put o.dst (.pointer (some ⟨g, 0, none⟩))) w1) : wpList P ops Q (o :: rest) a W :=
  Kd.event_run hgd hrun (h _ _ (M.box rfl (blk_new W _) (below_alloc (Below.refl _ _) _)))
theorem run_storeVar_at (w : World) (g j : Nat) (t ty : TypeId) (old : Array Value) (v : Value) (hg : w.heap[g]? = some (.cells old t (0, 0))) (hi : (P.info? ty).map (·.size) = some v.cells.size)
    (hfit : j + v.cells.size ≤ old.size) (h1 : v.cells.all (·.oneCell') = true) : (storeVar ty ⟨g, j, none⟩ v).run P w = .ok () (w.setRow g (puts old j v.cells)) := by
  have := run_storeCells_at P g j t v.cells.toList 0 old w hg (by simp; omega) (fun x hx => (Array.all_eq_true_iff_forall_mem.1 h1) x (by simpa using hx))
  cases hq : P.info? ty with
  | none => simp [hq] at hi
  | some i =>
    have hs : v.cells.size = i.size := by simp [hq] at hi; omega
    simp [storeVar, sizeOf, typeInfo, hq, hs, puts] at this ⊢
    exact this
theorem run_put {ty : TypeId} {x y : Operand} (ho : o.op = .store ty x y) {g t j : Nat} {cs : Array Value} {v : Value} (hg : W.heap[g]? = some (.cells cs t (0, 0))) (hx : a.eval x = .pointer (some ⟨g, j, none⟩)) (hy : a.eval y = v)
    (hi : (P.info? ty).map (·.size) = some v.cells.size) (hfit : j + v.cells.size ≤ cs.size) (h1 : v.cells.all (·.oneCell') = true) : (execOp a.eval o).run P W = .ok .skip (W.setRow g (puts cs j v.cells)) := by
  unfold execOp
  simp only [ho, hx, hy, Instr.storeAt, Instr.sureAddr, Sem.run_bind, Sem.run_pure, Result.andThen_ok, run_storeVar_at W g j t ty cs v hg hi hfit h1]
theorem Mem.putRow (M : Mem w0 W L) (i : Nat) {g t : Nat} {cs cs' : Array Value} (hL : L[i]? = some (.box g t cs)) : Mem w0 (W.setRow g cs') (L.set i (.box g t cs')) :=
  M.put i hL (setRow_heap W g _ _ t _ (M.blk i hL)) (fun k hk => setRow_other W g k _ hk) rfl rfl rfl (setRow_size W g _)
/-- A store into a variable: one cell of it, or several. -/
theorem Mem.ev_put (M : Mem w0 W L) (i : Nat) (hgd : o.guard = none) {ty : TypeId} {x y : Operand} (ho : o.op = .store ty x y) (hN : o.dst = none) {g t j : Nat} {cs : Array Value} {v : Value} (hL : L[i]? = some (.box g t cs))
    (hx : a.eval x = .pointer (some ⟨g, j, none⟩)) (hy : a.eval y = v) (hi : (P.info? ty).map (·.size) = some v.cells.size) (hfit : j + v.cells.size ≤ cs.size) (h1 : v.cells.all (·.oneCell') = true)
    (h : ∀ w1, Mem w0 w1 (L.set i (.box g t (puts cs j v.cells))) → wpList P ops Q rest a w1) : wpList P ops Q (o :: rest) a W :=
  by
  refine wpList_plain hgd fun K hK => ?_
  unfold Oper.wp
  rw [run_put ho (M.blk i hL) hx hy hi hfit h1]
  show K (a.put o.dst undef) _
  rw [hN]
  exact hK _ _ (h _ (M.putRow i hL))
end

section
variable {P : Program} {ops : Array Oper} {rest : List Oper} {o : Oper} {a : Act} {Q : Exit → Act → World → Prop} {w0 W : World} {L : List Ent}
theorem run_boxed {ty : TypeId} {x : Operand} {v : Value} (ho : o.op = .box ty x) (hx : a.eval x = v) : (execOp a.eval o).run P W = .ok (.value (.pointer (some ⟨W.heap.size, 0, none⟩))) (W.alloc (.cells v.cells ty (0, 0))) := by
  subst hx
  unfold execOp
  simp [ho, go_sem]
theorem Mem.ev_boxed (M : Mem w0 W L) (hgd : o.guard = none) {ty : TypeId} {x : Operand} {v : Value} (ho : o.op = .box ty x) (hx : a.eval x = v)
    (h : ∀ g w1, Mem w0 w1 (.box g ty v.cells :: L) → wpList P ops Q rest (a.put o.dst (.pointer (some ⟨g, 0, none⟩))) w1) : wpList P ops Q (o :: rest) a W :=
  M.ev_box hgd (run_boxed ho hx) h
theorem run_zeroed {ty : TypeId} {z : Value} (ho : o.op = .alloc ty) (hz : (P.info? ty).map (·.zero) = some (some z)) : (execOp a.eval o).run P W = .ok (.value (.pointer (some ⟨W.heap.size, 0, none⟩))) (W.alloc (.cells z.cells ty (0, 0))) := by
  unfold execOp
  cases hq : P.info? ty with
  | none => simp [hq] at hz
  | some i =>
    simp [hq] at hz
    simp [ho, go_sem, zeroValue, typeInfo, hq, hz]
theorem Mem.ev_zeroed (M : Mem w0 W L) (hgd : o.guard = none) {ty : TypeId} {z : Value} (ho : o.op = .alloc ty) (hz : (P.info? ty).map (·.zero) = some (some z))
    (h : ∀ g w1, Mem w0 w1 (.box g ty z.cells :: L) → wpList P ops Q rest (a.put o.dst (.pointer (some ⟨g, 0, none⟩))) w1) : wpList P ops Q (o :: rest) a W :=
  M.ev_box hgd (run_zeroed ho hz) h
end

/-! ### regions that draw their order -/
section
variable {P : Program} {ops : Array Oper} {Q : Exit → Act → World → Prop} {S : World → Prop} {ds : List Nat} {T : Bool × List (List Nat × List Nat)} {B : List Nat} {fuel : Nat} {l : Array Bool} {a a' : Act} {w : World} {i : Nat} {is : List (Nat × Option Tmp)} {oi : Oper} {v : Value} {N : Option Tmp}
theorem Mem.tail {w0 : World} {L : List Ent} {e : Ent} (M : Mem w0 w (e :: L)) : Mem w0 w L := by
  obtain ⟨hB, o, ho⟩ := M
  refine ⟨hB, fun b => o b - 1, fun i e' he => (ho (i + 1) e' (by simpa using he)).mono (fun k hk => ?_)⟩
  have : o k = i + 1 := hk
  show o k - 1 = i
  omega
/-- Operations that only yield, one behind the other. -/
def Tks (P : Program) (ops : Array Oper) (Q : Exit → Act → World → Prop) (S : World → Prop) (ds : List Nat) (is : List (Nat × Option Tmp)) (fuel : Nat) (l : Array Bool) (a : Act) (w : World) : Prop := wpAnyLast P .any ops Q S ds fuel l a w
theorem tks (is : List (Nat × Option Tmp)) (h : Tks P ops Q S ds is fuel l a w) : wpAnyLast P .any ops Q S ds fuel l a w := h
theorem tks_done (h : wpAnyLast P .any ops Q S ds fuel l a w) : Tks P ops Q S ds [] fuel l a w := h
theorem tks_take (HT : Aside0 (rtab .any ops = T)) (HW : Aside0 (waitsOk T.2 B = true)) (hc : takeW T B ds l.toList (l.setIfInBounds i true).toList i = true) (hi : ops[i]? = some oi) (hN : oi.dst = N) (hw : Region.wanted oi (yielded ops a.tmps) = true)
    (hQ : ∀ c a w, Q (.panic c) (a.put oi.dst v) w → Q (.panic c) a w) (hS : S w) (hr : ∀ w', S w' → (execOp a.eval oi).run P w' = .ok (.value v) w') (ha : a.put N v = a')
    (h : Tks P ops Q S ds is fuel (l.setIfInBounds i true) a' w) : Tks P ops Q S ds ((i, N) :: is) (fuel + 1) l a w :=
  take_ (l.setIfInBounds i true) hi hN (take_ofW HT.out HW.out hc) hQ (.inl ⟨hw, hr⟩) hS ha h
theorem tks_pure (HT : Aside0 (rtab .any ops = T)) (hc : anyT T l.toList (l.setIfInBounds i true).toList i = true) (hi : ops[i]? = some oi) (hN : oi.dst = N) (hw : Region.wanted oi (yielded ops a.tmps) = true)
    (hQ : ∀ c a w, Q (.panic c) (a.put oi.dst v) w → Q (.panic c) a w) (hr : ∀ w', (execOp a.eval oi).run P w' = .ok (.value v) w') (ha : a.put N v = a')
    (h : Tks P ops Q S ds is fuel (l.setIfInBounds i true) a' w) : Tks P ops Q S ds ((i, N) :: is) (fuel + 1) l a w :=
  pure_ (l.setIfInBounds i true) hi hN (any_of HT.out hc) hQ (.inl ⟨hw, hr⟩) ha h
theorem tks_off (HT : Aside0 (rtab .any ops = T)) (hc : anyT T l.toList (l.setIfInBounds i true).toList i = true) (hi : ops[i]? = some oi) (hN : oi.dst = N) (hw : Region.wanted oi (yielded ops a.tmps) = false)
    (hQ : ∀ c a w, Q (.panic c) (a.put oi.dst undef) w → Q (.panic c) a w) (ha : a.put N undef = a')
    (h : Tks P ops Q S ds is fuel (l.setIfInBounds i true) a' w) : Tks P ops Q S ds ((i, N) :: is) (fuel + 1) l a w :=
  pure_ (v := undef) (l.setIfInBounds i true) hi hN (any_of HT.out hc) hQ (.inr ⟨hw, rfl⟩) ha h
theorem ready_of (HT : Aside0 (rtab .any ops = T)) (hc : (readyT T.2 l.toList == [i]) = true) : readyB .any ops l (l.setIfInBounds i true) i = true :=
  one_of HT.out (by rw [hc]; simp)
/-- A call: the one operation that may come up. -/
theorem rcall (i : Nat) (HT : Aside0 (rtab .any ops = T)) (hc : (readyT T.2 l.toList == [i]) = true) (hi : ops[i]? = some oi) (hN : oi.dst = N) (hd : i ∉ ds) {f : FuncId} {fn : Func} {as : Array Operand} {ts : Array TypeId} {args : Array Value} (hf : P.funcs[f]? = some fn) (hname : (fn.name == "runtime.NumGoroutine") = false) (hb : fn.body.isSome = true)
    (hw : Region.wanted oi (yielded ops a.tmps) = true) (hop : oi.op = .call { callee := .value (.func f), args := as, argTypes := ts }) (hargs : as.map a.eval = args)
    (h : Calls P f args w fun e w' => ∃ v, e = .returned v ∧ S w' ∧ (S w' → wpAnyLast P .any ops Q S ds fuel (l.setIfInBounds i true) (a.put N v) w')) : wpAnyLast P .any ops Q S ds (fuel + 1) l a w :=
  one_ (l.setIfInBounds i true) hi hN (ready_of HT hc) hd (fun K hK => goes_ hf hname hb args hw hN hop hargs (h.mono fun e w' hh => by
    obtain ⟨v, rfl, hs, hk⟩ := hh
    exact ⟨v, rfl, hK.out _ _ hs hk⟩))
/-- A store into a variable, behind which nothing of S is asked. -/
theorem rput {w0 : World} {L : List Ent} (M : Mem w0 w L) (j : Nat) (i : Nat) (HT : Aside0 (rtab .any ops = T)) (hc : (readyT T.2 l.toList == [i]) = true) (hi : ops[i]? = some oi) (hd : i ∈ ds) (hw : Region.wanted oi (yielded ops a.tmps) = true) {ty : TypeId} {x y : Operand} (ho : oi.op = .store ty x y) (hN : oi.dst = none)
    {g t k : Nat} {cs : Array Value} {v : Value} (hL : L[j]? = some (.box g t cs)) (hx : a.eval x = .pointer (some ⟨g, k, none⟩)) (hy : a.eval y = v) (hz : (P.info? ty).map (·.size) = some v.cells.size) (hfit : k + v.cells.size ≤ cs.size) (h1 : v.cells.all (·.oneCell') = true)
    (h : ∀ w1, Mem w0 w1 (L.set j (.box g t (puts cs k v.cells))) → wpAnyLast P .any ops Q S ds fuel (l.setIfInBounds i true) a w1) : wpAnyLast P .any ops Q S ds (fuel + 1) l a w :=
  last_ (l.setIfInBounds i true) hi hN (ready_of HT hc) hd (fun K hK => skip_ hw hN (run_put ho (M.blk j hL) hx hy hz hfit h1) (hK.out _ _ (h _ (M.putRow j hL))))
end

/-! ### what a walk asks -/
theorem bind_some {α β : Type} {x : Option α} {f : α → Option β} {r : β} (h : x.bind f = some r) : ∃ t, Aside0 (x = some t) ∧ f t = some r := by
  obtain ⟨t, h1, h2⟩ := Option.bind_eq_some_iff.mp h
  exact ⟨t, ⟨h1⟩, h2⟩
theorem ite_some {α : Type} {p : Prop} [Decidable p] {a b : Option α} {r : α} (h : (if p then a else b) = some r) : (p ∧ a = some r) ∨ (¬ p ∧ b = some r) := by
  by_cases hp : p
  · exact .inl ⟨hp, by rw [← h, if_pos hp]⟩
  · exact .inr ⟨hp, by rw [← h, if_neg hp]⟩
theorem eqs {α : Type} [BEq α] [LawfulBEq α] {a b : α} (h : a = b) : (a == b) = true ∧ (a != b) = false := ⟨by simp [h], by simp [h]⟩
theorem nes {α : Type} [BEq α] [LawfulBEq α] {a b : α} (h : ¬ a = b) : (a == b) = false ∧ (a != b) = true := ⟨by simp [h], by simp [h]⟩
/-- A row in the list, by its address. -/
class RowIn (A : Option Addr) (L : List Ent) (α : outParam Type) (q : outParam Bool) (d : outParam (Kd α)) (t c : outParam Nat) (xs : outParam (List α)) (i : outParam Nat) : Prop where h : L[i]? = some (.row q d t A c xs)
instance rowIn_head {α : Type} {q : Bool} {d : Kd α} {t c : Nat} {A : Option Addr} {xs : List α} {L : List Ent} : RowIn A (.row q d t A c xs :: L) α q d t c xs 0 := ⟨rfl⟩
instance (priority := low) rowIn_tail {α : Type} {q : Bool} {d : Kd α} {t c i : Nat} {A : Option Addr} {xs : List α} {e : Ent} {L : List Ent} [r : RowIn A L α q d t c xs i] : RowIn A (e :: L) α q d t c xs (i + 1) := ⟨by simpa using r.h⟩
class BoxIn (g : Nat) (L : List Ent) (t : outParam Nat) (cs : outParam (Array Value)) (i : outParam Nat) : Prop where h : L[i]? = some (.box g t cs)
instance boxIn_head {g t : Nat} {cs : Array Value} {L : List Ent} : BoxIn g (.box g t cs :: L) t cs 0 := ⟨rfl⟩
instance (priority := low) boxIn_tail {g t i : Nat} {cs : Array Value} {e : Ent} {L : List Ent} [r : BoxIn g L t cs i] : BoxIn g (e :: L) t cs (i + 1) := ⟨by simpa using r.h⟩
class RoomIn {α : Type} (xs : List α) (c : Nat) (L : List Ent) : Prop where h : ∃ (i : Nat) (q : Bool) (d : Kd α) (t : Nat) (A : Option Addr), L[i]? = some (.row q d t A c xs)
instance roomIn_head {α : Type} {q : Bool} {d : Kd α} {t c : Nat} {A : Option Addr} {xs : List α} {L : List Ent} : RoomIn xs c (.row q d t A c xs :: L) := ⟨0, q, d, t, A, rfl⟩
instance (priority := low) roomIn_tail {α : Type} {c : Nat} {xs : List α} {e : Ent} {L : List Ent} [r : RoomIn xs c L] : RoomIn xs c (e :: L) := by
  obtain ⟨i, q, d, t, A, h⟩ := r.h
  exact ⟨i + 1, q, d, t, A, by simpa using h⟩
class NeI (i j : Nat) : Prop where h : i ≠ j
section
variable {α β γ : Type} {q q2 q3 : Bool} {d : Kd α} {d2 : Kd β} {d3 : Kd γ} {t t2 t3 c c2 c3 i j j3 g : Nat} {A A2 A3 : Option Addr} {xs : List α} {ys : List β} {zs : List γ} {L : List Ent} {w0 w : World} {cs : Array Value}
theorem Mem.rd (M : Mem w0 w L) [r : RowIn A L α q d t c xs i] : d.C w A xs.length xs := M.reads i r.h
theorem Mem.rm (M : Mem w0 w L) [r : RoomIn xs c L] : xs.length ≤ c := by
  obtain ⟨i, q, d, t, A, h⟩ := r.h
  exact M.room i h
theorem Mem.rq (M : Mem w0 w L) [r : RowIn A L α q d t c xs i] : RQ q d t w w0.heap.size (fun _ => True) (.slice A xs.length c) xs := M.outO i r.h (fun _ _ _ _ => trivial)
theorem Mem.rq2 (M : Mem w0 w L) [r : RowIn A L α q d t c xs i] [r2 : RowIn A2 L β q2 d2 t2 c2 ys j] (h : (i == j) = false) : RQ q d t w w0.heap.size (fun k => some k ≠ (Value.slice A2 ys.length c2).ownBlock) (.slice A xs.length c) xs :=
  M.outO i r.h (fun o ho k hk e => by have := Mem.own_row (ho j _ r2.h) k e; simp at h; omega)
theorem Mem.rq3 (M : Mem w0 w L) [r : RowIn A L α q d t c xs i] [r2 : RowIn A2 L β q2 d2 t2 c2 ys j] [r3 : RowIn A3 L γ q3 d3 t3 c3 zs j3] (h : (i == j || i == j3) = false) : RQ q d t w w0.heap.size (fun k => some k ≠ (Value.slice A2 ys.length c2).ownBlock ∧ some k ≠ (Value.slice A3 zs.length c3).ownBlock) (.slice A xs.length c) xs :=
  M.outO i r.h (fun o ho k hk => ⟨fun e => by have := Mem.own_row (ho j _ r2.h) k e; simp at h; omega, fun e => by have := Mem.own_row (ho j3 _ r3.h) k e; simp at h; omega⟩)
theorem Mem.ro (M : Mem w0 w L) [r : RowIn A L α false d t c xs i] : d.R t w w0.heap.size (fun _ => True) (.slice A xs.length c) xs := Mem.rq (q := false) (d := d) (t := t) (c := c) (A := A) (xs := xs) (i := i) M
theorem Mem.ro2 (M : Mem w0 w L) [r : RowIn A L α false d t c xs i] [r2 : RowIn A2 L β q2 d2 t2 c2 ys j] (h : (i == j) = false) : d.R t w w0.heap.size (fun k => some k ≠ (Value.slice A2 ys.length c2).ownBlock) (.slice A xs.length c) xs := Mem.rq2 (q := false) (d := d) (t := t) (c := c) (A := A) (xs := xs) (i := i) (d2 := d2) (A2 := A2) (ys := ys) (j := j) M h
theorem Mem.ro3 (M : Mem w0 w L) [r : RowIn A L α false d t c xs i] [r2 : RowIn A2 L β q2 d2 t2 c2 ys j] [r3 : RowIn A3 L γ q3 d3 t3 c3 zs j3] (h : (i == j || i == j3) = false) : d.R t w w0.heap.size (fun k => some k ≠ (Value.slice A2 ys.length c2).ownBlock ∧ some k ≠ (Value.slice A3 zs.length c3).ownBlock) (.slice A xs.length c) xs := Mem.rq3 (q := false) (d := d) (t := t) (c := c) (A := A) (xs := xs) (i := i) (d2 := d2) (A2 := A2) (ys := ys) (j := j) (d3 := d3) (A3 := A3) (zs := zs) (j3 := j3) M h
theorem Mem.qo (M : Mem w0 w L) [r : RowIn A L α q d t c xs i] : d.Q t w w0.heap.size (fun _ => True) (.slice A xs.length c) xs := RQ.toQ M.rq
theorem Mem.qo2 (M : Mem w0 w L) [r : RowIn A L α q d t c xs i] [r2 : RowIn A2 L β q2 d2 t2 c2 ys j] (h : (i == j) = false) : d.Q t w w0.heap.size (fun k => some k ≠ (Value.slice A2 ys.length c2).ownBlock) (.slice A xs.length c) xs := RQ.toQ (M.rq2 h)
theorem Mem.qo3 (M : Mem w0 w L) [r : RowIn A L α q d t c xs i] [r2 : RowIn A2 L β q2 d2 t2 c2 ys j] [r3 : RowIn A3 L γ q3 d3 t3 c3 zs j3] (h : (i == j || i == j3) = false) : d.Q t w w0.heap.size (fun k => some k ≠ (Value.slice A2 ys.length c2).ownBlock ∧ some k ≠ (Value.slice A3 zs.length c3).ownBlock) (.slice A xs.length c) xs := RQ.toQ (M.rq3 h)
theorem Mem.bk (M : Mem w0 w L) [r : BoxIn g L t cs i] : w.heap[g]? = some (.cells cs t (0, 0)) := M.blk i r.h
end
section
variable {P : Program} {ops : Array Oper} {rest : List Oper} {o : Oper} {a : Act} {Q : Exit → Act → World → Prop} {w0 W : World} {L : List Ent}
theorem Mem.callL {N : Option Tmp} (hd : o.dst = N) (hg : o.guard = none) {f : FuncId} {fn : Func} {as : Array Operand} {ts : Array TypeId} {args : Array Value} (hf : P.funcs[f]? = some fn) (hname : (fn.name == "runtime.NumGoroutine") = false) (hb : fn.body.isSome = true)
    (hop : o.op = .call { callee := .value (.func f), args := as, argTypes := ts }) (hargs : as.map a.eval = args) (h : Calls P f args W fun e w' => ∃ v, e = .returned v ∧ wpList P ops Q rest (a.put N v) w') : wpList P ops Q (o :: rest) a W :=
  goesL_ N hd hg hf hname hb args hop hargs h
/-- A store into a variable, by its address alone. -/
theorem Mem.putL (M : Mem w0 W L) (hgd : o.guard = none) {ty : TypeId} {x y : Operand} (ho : o.op = .store ty x y) (hN : o.dst = none) {g t i : Nat} {cs : Array Value} {v : Value} (j : Nat)
    (hx : a.eval x = .pointer (some ⟨g, j, none⟩)) (hy : a.eval y = v) [r : BoxIn g L t cs i] (hi : (P.info? ty).map (·.size) = some v.cells.size) (hfit : Nat.ble (j + v.cells.size) cs.size = true) (h1 : v.cells.all (·.oneCell') = true)
    (h : ∀ w1, Mem w0 w1 (L.set i (.box g t (puts cs j v.cells))) → wpList P ops Q rest a w1) : wpList P ops Q (o :: rest) a W :=
  M.ev_put i hgd ho hN r.h hx hy hi (Nat.le_of_ble_eq_true hfit) h1 h
end
section
variable {P : Program} {ops : Array Oper} {Q : Exit → Act → World → Prop} {S : World → Prop} {ds : List Nat} {T : Bool × List (List Nat × List Nat)} {fuel : Nat} {l : Array Bool} {a : Act} {w : World} {oi : Oper} {N : Option Tmp}
theorem rputM {w0 : World} {L : List Ent} (M : Mem w0 w L) (i : Nat) (HT : Aside0 (rtab .any ops = T)) (hc : (readyT T.2 l.toList == [i]) = true) (hi : ops[i]? = some oi) (hd : i ∈ ds) (hw : Region.wanted oi (yielded ops a.tmps) = true) {ty : TypeId} {x y : Operand} (ho : oi.op = .store ty x y) (hN : oi.dst = none)
    {g t j : Nat} {cs : Array Value} {v : Value} (k : Nat) (hx : a.eval x = .pointer (some ⟨g, k, none⟩)) (hy : a.eval y = v) [r : BoxIn g L t cs j] (hz : (P.info? ty).map (·.size) = some v.cells.size) (hfit : Nat.ble (k + v.cells.size) cs.size = true) (h1 : v.cells.all (·.oneCell') = true)
    (h : ∀ w1, Mem w0 w1 (L.set j (.box g t (puts cs k v.cells))) → wpAnyLast P .any ops Q S ds fuel (l.setIfInBounds i true) a w1) : wpAnyLast P .any ops Q S ds (fuel + 1) l a w :=
  rput M j i HT hc hi hd hw ho hN r.h hx hy hz (Nat.le_of_ble_eq_true hfit) h1 h
/-- Something of a region that yields nothing new but is asked no order: the assignment of a register. -/
theorem rval (i : Nat) (HT : Aside0 (rtab .any ops = T)) (hc : (readyT T.2 l.toList == [i]) = true) (hi : ops[i]? = some oi) (hN : oi.dst = N) (hd : i ∈ ds) {v : Value} (hw : Region.wanted oi (yielded ops a.tmps) = true) (hr : (execOp a.eval oi).run P w = .ok (.value v) w)
    (h : wpAnyLast P .any ops Q S ds fuel (l.setIfInBounds i true) (a.put N v) w) : wpAnyLast P .any ops Q S ds (fuel + 1) l a w :=
  last_ (l.setIfInBounds i true) hi hN (ready_of HT hc) hd (fun K hK => value_ hw hN hr (hK.out _ _ h))
end

theorem Mem.erase {w0 w : World} {L : List Ent} (M : Mem w0 w L) (i : Nat) : Mem w0 w (L.eraseIdx i) := by
  obtain ⟨hB, o, ho⟩ := M
  refine ⟨hB, fun b => if o b < i then o b else o b - 1, fun j e he => ?_⟩
  rw [List.getElem?_eraseIdx] at he
  split at he
  · rename_i hj
    refine (ho j e he).mono (fun k hk => ?_)
    have hk' : o k = j := hk
    simp only [hk', if_pos hj]
  · rename_i hj
    refine (ho (j + 1) e he).mono (fun k hk => ?_)
    have hk' : o k = j + 1 := hk
    simp only [hk', if_neg (show ¬ j + 1 < i by omega), Nat.add_sub_cancel]
theorem Mem.drop {w0 w : World} {L : List Ent} (M : Mem w0 w L) (g : Nat) {t i : Nat} {cs : Array Value} [r : BoxIn g L t cs i] : Mem w0 w (L.eraseIdx i) := M.erase i
section
variable {P : Program} {ops : Array Oper} {Q : Exit → Act → World → Prop} {S : World → Prop} {ds : List Nat} {T : Bool × List (List Nat × List Nat)} {fuel : Nat} {l : Array Bool} {a : Act} {w : World} {oi : Oper} {N : Option Tmp}
theorem rputS {w0 : World} {L : List Ent} (M : Mem w0 w L) (i : Nat) (HT : Aside0 (rtab .any ops = T)) (hc : (readyT T.2 l.toList == [i]) = true) (hi : ops[i]? = some oi) (hd : i ∉ ds) (hw : Region.wanted oi (yielded ops a.tmps) = true) {ty : TypeId} {x y : Operand} (ho : oi.op = .store ty x y) (hN : oi.dst = none)
    {g t j : Nat} {cs : Array Value} {v : Value} (k : Nat) (hx : a.eval x = .pointer (some ⟨g, k, none⟩)) (hy : a.eval y = v) [r : BoxIn g L t cs j] (hz : (P.info? ty).map (·.size) = some v.cells.size) (hfit : Nat.ble (k + v.cells.size) cs.size = true) (h1 : v.cells.all (·.oneCell') = true)
    (h : ∀ w1, Mem w0 w1 (L.set j (.box g t (puts cs k v.cells))) → S w1 ∧ (S w1 → wpAnyLast P .any ops Q S ds fuel (l.setIfInBounds i true) a w1)) : wpAnyLast P .any ops Q S ds (fuel + 1) l a w :=
  one_ (l.setIfInBounds i true) hi hN (ready_of HT hc) hd (fun K hK => skip_ hw hN (run_put ho (M.blk j r.h) hx hy hz (Nat.le_of_ble_eq_true hfit) h1) (hK.out _ _ (h _ (M.putRow j r.h)).1 (h _ (M.putRow j r.h)).2))
end
end Go.Proofs.YtlpcpkgdojpleaaDoorW.Mem
