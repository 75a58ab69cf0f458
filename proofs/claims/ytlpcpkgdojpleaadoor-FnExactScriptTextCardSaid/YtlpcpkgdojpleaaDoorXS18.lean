-- By the session's own program (wip/tools), out of the translation. Not trusted: Lean checks it.
import Derived.Test.YtlpcpkgdojpleaaDoorXS0
import Derived.Test.YtlpcpkgdojpleaaDoorXS17
namespace Go.Proofs.YtlpcpkgdojpleaaDoor.XS
open Go.RowKit Go.Proofs.YtlpcpkgdojpleaaDoorW.PrintWords Go.Proofs.YtlpcpkgdojpleaaDoorW.PrintLast Go.Proofs.YtlpcpkgdojpleaaDoorW.PrintMore Go.Proofs.YtlpcpkgdojpleaaDoorW.Mem
attribute [local go_sem] max2_int min2_int max_two min_two max_three min_three max_four min_four puts List.set_cons_zero List.set_cons_succ Value.cells List.take_succ_cons List.take_zero List.drop_succ_cons List.drop_zero List.cons_append List.nil_append   -- for this text's walks alone
set_option linter.unusedVariables false
set_option linter.unusedSimpArgs false

/-! ### impl_ScriptText: function 12 -/
def scriptTextG (k : Nat) : List S58 → List UInt8 → Option (ByteArray × Bool)
  | [], acc => some (⟨acc.toArray⟩, true)
  | a :: l, acc => (impl_FormatAct.f k a.f0 a.f1 a.f2 a.f3).bind fun t => if t.2 = true then (if t.1.size ≤ 1099511627776 then scriptTextG k l (acc ++ t.1.data.toList ++ [10]) else none) else some (⟨#[]⟩, false)
theorem scriptTextG.mono (k : Nat) : ∀ l acc, LeO (scriptTextG k l acc) (scriptTextG (k + 1) l acc)
  | [], _ => LeO.refl _
  | a :: l, acc => LeO.bind (impl_FormatAct.mono _ _ _ _ k) (fun t => LeO.ite (LeO.ite (scriptTextG.mono k l _) (LeO.none _)) (LeO.refl _))
def impl_ScriptText.f (k : Nat) (l0 : List (S58)) : Option (ByteArray × Bool) := if 40 < l0.length then some (⟨#[]⟩, false) else scriptTextG k l0 []
theorem impl_ScriptText.mono : ∀ a0 k, LeO (impl_ScriptText.f k a0) (impl_ScriptText.f (k + 1) a0) := by
  intro a0 k
  unfold impl_ScriptText.f
  exact LeO.ite (LeO.refl _) (scriptTextG.mono k _ _)
open Go
theorem builder_below {B b : Nat} {bs : List Value} {w w' : World} (h : Lib.IsBuilder 72 5 B b bs w) (hb : Below w.heap.size w w') : Lib.IsBuilder 72 5 B b bs w' := by
  have go : ∀ p, Lib.BuilderAt 72 5 B b p bs w → Lib.BuilderAt 72 5 B b p bs w' := fun p h => by
    have hl := h.lt
    obtain ⟨h1, v, h2, h3, h4⟩ := h
    refine ⟨h1, v, (hb.block b hl).trans h2, ⟨h3.1, ?_⟩, h4⟩
    rcases h3.2 with h5 | ⟨g, cap, cur, e1, e2, e3, e4⟩
    · exact .inl h5
    · exact .inr ⟨g, cap, cur, e1, e2, (hb.block g (by have := (h3.lt g (by rw [e1]; rfl)).2; exact this)).trans e3, e4⟩
  exact h.elim (fun h => .inl (go _ h)) (fun h => .inr (go _ h))
theorem G_step {k : Nat} {l0 : List S58} {i : Nat} (hi : i < l0.length) (acc : List UInt8) : scriptTextG k (l0.drop i) acc = (impl_FormatAct.f k (rd_T58 l0 i).f0 (rd_T58 l0 i).f1 (rd_T58 l0 i).f2 (rd_T58 l0 i).f3).bind fun t => if t.2 = true then (if t.1.size ≤ 1099511627776 then scriptTextG k (l0.drop (i + 1)) (acc ++ t.1.data.toList ++ [10]) else none) else some (⟨#[]⟩, false) := by
  rw [List.drop_eq_getElem_cons hi]
  have e : rd_T58 l0 i = l0[i] := by simp [rd_T58, hi]
  rw [e]
  rfl
set_option maxHeartbeats 8000000 in
set_option maxRecDepth 100000 in
theorem impl_ScriptText.calls (k : Nat) (A0 : Option Addr) (c0 : Nat) (l0 : List (S58)) (r1 : ByteArray) (r2 : Bool) (w : World) (hr0 : Kd.C k58 w A0 l0.length l0) (hc0 : l0.length ≤ c0) (h : impl_ScriptText.f k l0 = some (r1, r2)) (hT : Go.Proofs.YtlpcpkgdojpleaaDoor.Text.TabW w := by first | assumption | exact Go.Proofs.YtlpcpkgdojpleaaDoor.Text.TabW.mem (by assumption) (by assumption)) :
    Calls Tryd.prog 12 #[.slice A0 l0.length c0] w fun e w' => e = .returned (.tuple #[.string r1, .bool r2]) ∧ Below w.heap.size w w' := by
  unfold impl_ScriptText.f at h
  have u58 := Tryd.underlying58
  have u72 := Tryd.underlying72
  by_cases c1 : 40 < l0.length
  · rw [if_pos c1] at h
    simp only [Option.some.injEq, Prod.mk.injEq] at h
    obtain ⟨rfl, rfl⟩ := h
    have c1b : decide (40 < (l0.length : Int)) = true := decide_eq_true (by omega)
    have c1c : decide (40 < l0.length) = true := decide_eq_true c1
    go_enter Tryd.func12, Tryd.ntmps12
    go_wp2
    go_ret2
    exact ⟨rfl, Below.refl _ _⟩
  · rw [if_neg c1] at h
    have c1b : decide (40 < (l0.length : Int)) = false := decide_eq_false (by omega)
    have c1c : decide (40 < l0.length) = false := decide_eq_false c1
    have M := Mem.start w
    have H' := Aside0.mk h
    clear h
    go_enter Tryd.func12, Tryd.ntmps12
    go_wp2_with ((with_reducible refine gate_dst (N := 4) rfl ?_); refine Mem.ev_zeroed M rfl rfl Text.zero72 ?_; clear M; intro g4 w4 M; dsimp only [Value.cells] at M)
    have hbox := M.blk 0 rfl
    have hI4 : Lib.IsBuilder 72 5 w.heap.size g4 (Lib.byteCells []) w4 := .inl ⟨(M.own.elim fun o ho => (ho 0 _ rfl).2.1), .slice none 0 0, hbox, ⟨by simp [Value.ownBlock], .inl ⟨rfl, rfl⟩⟩, by simp [Value.ownBlock]⟩
    have hB4 := M.bel
    clear M hbox
    go_loopg [14] (l0.length + 1) (fun kq v14 w' => ∃ (i : Nat) (acc : List UInt8), v14 = .int .i64 (i : Int) ∧ kq + i = l0.length + 1 ∧ i ≤ l0.length ∧ acc.length ≤ i * 1099511627777 ∧ Aside0 (scriptTextG k (l0.drop i) acc = some (r1, r2)) ∧ Aside0 (Lib.IsBuilder 72 5 w.heap.size g4 (Lib.byteCells acc) w') ∧ Aside0 (Below w.heap.size w w'))
    case atStart => exact ⟨0, [], rfl, rfl, Nat.zero_le _, Nat.le_refl _, H', ⟨hI4⟩, ⟨hB4⟩⟩
    case round =>
      clear H' hI4 hB4
      obtain ⟨i, acc, rfl, hk, hi, hacc, HA, HI, HB⟩ := hrel
      by_cases c2 : i < l0.length
      · have H := HA.out
        clear HA
        rw [G_step c2] at H
        have c2b : decide ((i : Int) < (l0.length : Int)) = true := decide_eq_true (by omega)
        have c2c : decide (i < l0.length) = true := decide_eq_true c2
        obtain ⟨⟨t1, t2⟩, A, H⟩ := bind_some H
        dsimp only at H
        obtain ⟨ad, e, hx0, hx1, hx2, hx3⟩ := at_T58 hr0 (i : Int) (by omega) (by omega)
        cases e
        replace hx0 := (HB.out.cell (World.block_lt_of_cell? w _ hx0)).trans hx0
        replace hx1 := (HB.out.cell (World.block_lt_of_cell? w _ hx1)).trans hx1
        replace hx2 := (HB.out.cell (World.block_lt_of_cell? w _ hx2)).trans hx2
        replace hx3 := (HB.out.cell (World.block_lt_of_cell? w _ hx3)).trans hx3
        simp only [Int.toNat_natCast] at hx0 hx1 hx2 hx3
        have p0 : ((0 : Int) ≤ (i : Int)) = True := eq_true (by omega)
        have p1 : ((i : Int) < (l0.length : Int)) = True := eq_true (by omega)
        have M := Mem.start wr
        cases t2 with
        | false =>
          rw [if_neg (by simp)] at H
          simp only [Option.some.injEq, Prod.mk.injEq] at H
          obtain ⟨rfl, rfl⟩ := H
          go_wp2_with (first
          | ((with_reducible refine gate_dst (N := 6) rfl ?_); refine Mem.ev_zeroed M rfl rfl Text.zero58 ?_; clear M; intro g6 w6 M; dsimp only [Value.cells] at M; have C := M.cells; dsimp only [cellFacts, Value.cells] at C)
          | ((with_reducible refine gate_store (t := 58) (p := 6) rfl ?_); refine Mem.putL (v := ?_) M rfl rfl rfl 0 (by rfl) ?_ ?_ ?_ ?_ ?_; rotate_left; (· go_simp; with_reducible rfl); (· exact Text.size58); (· rfl); (· simp [Value.cells, Value.oneCell']); clear M; intro ws6 M; simp only [go_sem] at M; (try clear C); have C := M.cells; dsimp only [cellFacts, Value.cells] at C)
          | ((with_reducible refine gate_callee (f := 34) rfl ?_); refine Mem.callL (args := ?_) rfl rfl Tryd.func34 (by kernel_rfl) rfl rfl ?_ ?_; rotate_left; (· (try simp only [List.map_toArray, List.map_cons, List.map_nil]); rfl); refine (impl_FormatAct.calls _ _ _ _ _ _ _ _ (by exact A.out) ((hT.below HB.out).below M.bel)).mono ?_; rintro e wc20 ⟨rfl, hb_⟩; have M2 := M.next hb_; clear M hb_; have M := M2; clear M2; refine ⟨_, rfl, ?_⟩; (try clear C); have C := M.cells; dsimp only [cellFacts, Value.cells] at C))
          go_ret2
          exact ⟨rfl, below_step HB.out M.bel⟩
        | true =>
          rw [if_pos rfl] at H
          by_cases c3 : t1.size ≤ 1099511627776
          · rw [if_pos c3] at H
            have H' := Aside0.mk H
            clear H
            have c4 : (9223372036854775807 < t1.size + 1) = False := eq_false (by omega)
            go_wp2_with (first
          | ((with_reducible refine gate_dst (N := 6) rfl ?_); refine Mem.ev_zeroed M rfl rfl Text.zero58 ?_; clear M; intro g6 w6 M; dsimp only [Value.cells] at M; have C := M.cells; dsimp only [cellFacts, Value.cells] at C)
          | ((with_reducible refine gate_store (t := 58) (p := 6) rfl ?_); refine Mem.putL (v := ?_) M rfl rfl rfl 0 (by rfl) ?_ ?_ ?_ ?_ ?_; rotate_left; (· go_simp; with_reducible rfl); (· exact Text.size58); (· rfl); (· simp [Value.cells, Value.oneCell']); clear M; intro ws6 M; simp only [go_sem] at M; (try clear C); have C := M.cells; dsimp only [cellFacts, Value.cells] at C)
          | ((with_reducible refine gate_callee (f := 34) rfl ?_); refine Mem.callL (args := ?_) rfl rfl Tryd.func34 (by kernel_rfl) rfl rfl ?_ ?_; rotate_left; (· (try simp only [List.map_toArray, List.map_cons, List.map_nil]); rfl); refine (impl_FormatAct.calls _ _ _ _ _ _ _ _ (by exact A.out) ((hT.below HB.out).below M.bel)).mono ?_; rintro e wc20 ⟨rfl, hb_⟩; have M2 := M.next hb_; clear M hb_; have M := M2; clear M2; refine ⟨_, rfl, ?_⟩; (try clear C); have C := M.cells; dsimp only [cellFacts, Value.cells] at C)
          | ((with_reducible refine gate_callee (f := 37) rfl ?_); refine Mem.callL (args := ?_) rfl rfl Tryd.func37 (by kernel_rfl) rfl rfl ?_ ?_; rotate_left; (· (try simp only [List.map_toArray, List.map_cons, List.map_nil]); rfl); refine (Text.writeString w.heap.size g4 (Lib.byteCells acc) _ _ (builder_below HI.out M.bel) (by simp only [Lib.byteCells_length, ByteArray.size_append, bsz, List.size_toArray, List.length_cons, List.length_nil]; omega) (Nat.le_trans HB.out.size M.bel.size)).mono ?_; rintro e wc27 ⟨rfl, hI2, hb2⟩; refine ⟨_, rfl, ?_⟩))
            go_roundg (l0.length - i)
            case measure => omega
            case rel => exact ⟨i + 1, acc ++ t1.data.toList ++ [10], (by have e_ : wrap64 ((i : Int) + 1) = ((i + 1 : Nat) : Int) := by { unfold wrap64; omega }; first | rw [e_] | (simp only [i64_w]; rw [e_]) | simp [e_]), (by omega), (by omega), (by simp only [List.length_append, List.length_cons, List.length_nil, Array.length_toList]; have : t1.data.size = t1.size := rfl; omega), H', ⟨.inr (by simpa [Lib.byteCells, Lib.strCells] using hI2)⟩, ⟨(below_step HB.out M.bel).trans hb2⟩⟩
          · rw [if_neg c3] at H
            cases H
      · have H := HA.out
        clear HA
        rw [List.drop_eq_nil_of_le (by omega)] at H
        simp only [scriptTextG, Option.some.injEq, Prod.mk.injEq] at H
        obtain ⟨rfl, rfl⟩ := H
        have c2b : decide ((i : Int) < (l0.length : Int)) = false := decide_eq_false (by omega)
        have c2c : decide (i < l0.length) = false := decide_eq_false c2
        go_wp2_with (go_at_call 38; refine (Tryd.Builder_String_any w.heap.size g4 acc _ HI.out HB.out.size).mono ?_)
        rintro e w9 ⟨rfl, hb9⟩
        go_wp2
        go_ret2
        exact ⟨rfl, HB.out.trans hb9⟩

end Go.Proofs.YtlpcpkgdojpleaaDoor.XS
