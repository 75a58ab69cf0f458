-- By the session's own program (wip/tools), out of the translation. Not trusted: Lean checks it.
import Derived.Test.YtlpcpkgdojpleaaDoorXS0
import Derived.Test.YtlpcpkgdojpleaaDoorXS1
import Derived.Test.YtlpcpkgdojpleaaDoorXS9
import Derived.Test.YtlpcpkgdojpleaaDoorXS11
import Derived.Test.YtlpcpkgdojpleaaDoorXS18
import Derived.Test.YtlpcpkgdojpleaaDoorXS20
namespace Go.Proofs.YtlpcpkgdojpleaaDoor.XS
open Go.RowKit Go.Proofs.YtlpcpkgdojpleaaDoorW.PrintWords Go.Proofs.YtlpcpkgdojpleaaDoorW.PrintLast Go.Proofs.YtlpcpkgdojpleaaDoorW.PrintMore Go.Proofs.YtlpcpkgdojpleaaDoorW.Mem
attribute [local go_sem] max2_int min2_int max_two min_two max_three min_three max_four min_four puts List.set_cons_zero List.set_cons_succ Value.cells List.take_succ_cons List.take_zero List.drop_succ_cons List.drop_zero List.cons_append List.nil_append   -- for this text's walks alone
set_option linter.unusedVariables false
set_option linter.unusedSimpArgs false

/-! ### laws_FnExactScriptText: function 3 -/
def laws_FnExactScriptText.j0 : Nat → List (S69) → List (S58) → Bool → Option (Bool)
  | 0, _, _, _ => none
  | k + 1, x0, x6, x34 => if x34 = true then (some false) else ((laws_toActS.f k x0).bind fun t198 => ((laws_eqActS.f k x6 t198).bind fun t201 => (if t201 = true then (some true) else (some false))))
def laws_FnExactScriptText.f (k : Nat) (l0 : List (S69)) : Option (Bool) := (laws_szActS.f l0 1048576).bind fun t187 => (if t187 < 0 then (some true) else ((laws_toActS.f k l0).bind fun t188 => ((spec_ScriptText.f k t188).bind fun bt191 => ((laws_toActS.f k l0).bind fun t193 => ((impl_ScriptText.f k t193).bind fun bt196 => (if bt196.1.toList = bt191.1.toList then (laws_FnExactScriptText.j0 k l0 t193 (bt196.2 != bt191.2)) else (laws_FnExactScriptText.j0 k l0 t193 true)))))))
theorem laws_FnExactScriptText.mono_l : ∀ k, (∀ y0 y1 y2, LeO (laws_FnExactScriptText.j0 k y0 y1 y2) (laws_FnExactScriptText.j0 (k + 1) y0 y1 y2))
  | 0 => fun _ _ _ r h => by simp [laws_FnExactScriptText.j0] at h
  | k + 1 => by
    have ih0 := laws_FnExactScriptText.mono_l k
    · intro y0 y1 y2
      unfold laws_FnExactScriptText.j0
      repeat' first
      | (with_reducible exact ih0 _ _ _)
      | (with_reducible exact impl_ScriptText.mono _ _)
      | (with_reducible exact laws_eqActS.mono _ _ _)
      | (with_reducible exact laws_toActS.mono _ _)
      | (with_reducible exact spec_ScriptText.mono _ _)
      | (with_reducible exact LeO.refl _)
      | (with_reducible exact LeO.none _)
      | (with_reducible refine LeO.ite ?_ ?_)
      | (with_reducible refine LeO.bind ?_ (fun _ => ?_))
      | exact ih0 _ _ _
      | exact impl_ScriptText.mono _ _
      | exact laws_eqActS.mono _ _ _
      | exact laws_toActS.mono _ _
      | exact spec_ScriptText.mono _ _
      | exact LeO.none _
      | refine LeO.ite ?_ ?_
      | refine LeO.bind ?_ (fun _ => ?_)
theorem laws_FnExactScriptText.mono : ∀ a0 k, LeO (laws_FnExactScriptText.f k a0) (laws_FnExactScriptText.f (k + 1) a0) := by
  intro a0 k
  have ih0 := laws_FnExactScriptText.mono_l k
  unfold laws_FnExactScriptText.f
  repeat' first
      | (with_reducible exact ih0 _ _ _)
      | (with_reducible exact impl_ScriptText.mono _ _)
      | (with_reducible exact laws_eqActS.mono _ _ _)
      | (with_reducible exact laws_toActS.mono _ _)
      | (with_reducible exact spec_ScriptText.mono _ _)
      | (with_reducible exact LeO.refl _)
      | (with_reducible exact LeO.none _)
      | (with_reducible refine LeO.ite ?_ ?_)
      | (with_reducible refine LeO.bind ?_ (fun _ => ?_))
      | exact ih0 _ _ _
      | exact impl_ScriptText.mono _ _
      | exact laws_eqActS.mono _ _ _
      | exact laws_toActS.mono _ _
      | exact spec_ScriptText.mono _ _
      | exact LeO.none _
      | refine LeO.ite ?_ ?_
      | refine LeO.bind ?_ (fun _ => ?_)
set_option maxHeartbeats 8000000 in
set_option maxRecDepth 100000 in
theorem laws_FnExactScriptText.calls (k : Nat) (A0 : Option Addr) (c0 : Nat) (l0 : List (S69)) (r : Bool) (w : World) (hr0 : Kd.C k69 w A0 l0.length l0) (hc0 : l0.length ≤ c0) (h : laws_FnExactScriptText.f k l0 = some r) (hT : Go.Proofs.YtlpcpkgdojpleaaDoor.Text.TabW w := by first | assumption | exact Go.Proofs.YtlpcpkgdojpleaaDoor.Text.TabW.mem (by assumption) (by assumption)) :
    Calls Tryd.prog 3 #[.slice A0 l0.length c0] w fun e w' => e = .returned (.bool r) ∧ Below w.heap.size w w' := by
 have HR0 := Aside0.mk hr0; have HC0 := Aside0.mk hc0; clear hr0 hc0
 have M := Mem.start w; have H := h; clear h; unfold laws_FnExactScriptText.f at H
 obtain ⟨t187, A1, H⟩ := bind_some H; (try dsimp only at H)
 rcases ite_some H with ⟨c2, H⟩ | ⟨c2, H⟩
 focus
  have c2b0 : decide (t187 < 0) = true := decide_eq_true c2
  clear c2
  obtain rfl := Option.some.inj H
 rotate_left
 focus
  have c2b0 : decide (t187 < 0) = false := decide_eq_false c2
  clear c2
  obtain ⟨t188, A3, H⟩ := bind_some H; (try dsimp only at H)
  obtain ⟨⟨t191, t192⟩, A4, H⟩ := bind_some H; (try dsimp only at H)
  obtain ⟨t_6, A5, H⟩ := bind_some H; (try dsimp only at H); (first | have e_ := Option.some.inj (A3.out.symm.trans A5.out)); (try simp only [Prod.mk.injEq] at e_); obtain rfl := e_; clear A5
  obtain ⟨⟨t196, t197⟩, A7, H⟩ := bind_some H; (try dsimp only at H)
  rcases ite_some H with ⟨c8, H⟩ | ⟨c8, H⟩
  focus
   have c8b0 : (t196.toList == t191.toList) = true := beq_iff_eq.mpr c8
   have c8b1 : (t196.toList != t191.toList) = false := bne_eq_false_iff_eq.mpr c8
   clear c8
   rcases k with _ | k9
   focus exact absurd H (by simp [laws_FnExactScriptText.j0])
   simp only [laws_FnExactScriptText.j0] at H
   rcases ite_some H with ⟨c10, H⟩ | ⟨c10, H⟩
   focus
    have c10b0 : (t197 != t192) = true := c10
    (try (have c10b1 : decide (t197 = t192) = false := by simpa using c10))
    (try (have c10b2 : (t197 == t192) = false := by simpa using c10))
    (try (have c10b3 : ¬ (t197 = t192) := by simpa using c10))
    clear c10
    obtain rfl := Option.some.inj H
   rotate_left
   focus
    have c10b0 : (t197 != t192) = false := by simpa using c10
    (try (have c10b1 : decide (t197 = t192) = true := by simpa using c10))
    (try (have c10b2 : (t197 == t192) = true := by simpa using c10))
    clear c10
    obtain ⟨t_12, A11, H⟩ := bind_some H; (try dsimp only at H); (first | have e_ := Option.some.inj (A3.out.symm.trans A11.out) | have e_ := Option.some.inj (A3.out.symm.trans (laws_toActS.mono _ _ _ A11.out)) | have e_ := Option.some.inj (A3.out.symm.trans (laws_toActS.mono _ _ _ (laws_toActS.mono _ _ _ A11.out))) | have e_ := Option.some.inj (A3.out.symm.trans (laws_toActS.mono _ _ _ (laws_toActS.mono _ _ _ (laws_toActS.mono _ _ _ A11.out))))); (try simp only [Prod.mk.injEq] at e_); obtain rfl := e_; clear A11
    obtain ⟨t201, A13, H⟩ := bind_some H; (try dsimp only at H)
    rcases ite_some H with ⟨c14, H⟩ | ⟨c14, H⟩
    focus
     have c14b0 : t201 = true := c14
     clear c14
     obtain rfl := Option.some.inj H
    rotate_left
    focus
     have c14b0 : t201 = false := by simpa using c14
     clear c14
     obtain rfl := Option.some.inj H
  rotate_left 3
  focus
   have c8b0 : (t196.toList == t191.toList) = false := beq_eq_false_iff_ne.mpr c8
   have c8b1 : (t196.toList != t191.toList) = true := bne_iff_ne.mpr c8
   rcases k with _ | k15
   focus exact absurd H (by simp [laws_FnExactScriptText.j0])
   simp only [laws_FnExactScriptText.j0] at H
   rw [if_pos (by simp)] at H
   obtain rfl := Option.some.inj H
 all_goals go_enter Tryd.func3, Tryd.ntmps3
 all_goals (go_wp2_with (first | ((with_reducible refine gate_callee (f := 9) rfl ?_); refine Mem.callL (args := ?_) rfl rfl Tryd.func9 (by kernel_rfl) rfl rfl ?_ ?_; rotate_left; (· (try simp only [List.map_toArray, List.map_cons, List.map_nil]); rfl); refine (laws_szActS.calls _ _ _ _ _ _ (by first | exact M.rd | exact M.rm | exact M.read HR0.out | exact HC0.out | exact Kd.C_nil _ _ | exact Nat.le_refl _) (by first | exact M.rd | exact M.rm | exact M.read HR0.out | exact HC0.out | exact Kd.C_nil _ _ | exact Nat.le_refl _) (by first | exact A1.out)).mono ?_; rintro e wc11 ⟨rfl, hd_⟩; have M2 := M.drawn hd_; clear M hd_; have M := M2; clear M2; refine ⟨_, rfl, ?_⟩; (try clear C); have C := M.cells; dsimp only [cellFacts, Value.cells] at C) | ((with_reducible refine gate_callee (f := 11) rfl ?_); refine Mem.callL (args := ?_) rfl rfl Tryd.func11 (by kernel_rfl) rfl rfl ?_ ?_; rotate_left; (· (try simp only [List.map_toArray, List.map_cons, List.map_nil]); rfl); refine (laws_toActS.calls _ _ _ _ _ _ (by first | exact M.rd | exact M.rm | exact M.read HR0.out | exact HC0.out | exact Kd.C_nil _ _ | exact Nat.le_refl _) (by first | exact M.rd | exact M.rm | exact M.read HR0.out | exact HC0.out | exact Kd.C_nil _ _ | exact Nat.le_refl _) (by first | exact A3.out)).mono ?_; rintro e wc16 ⟨v0_, rfl, ho0_, hb_⟩; obtain ⟨_, _, rfl, M2⟩ := Mem.row false M ho0_ hb_; clear M hb_ ho0_; have M := M2; clear M2; refine ⟨_, rfl, ?_⟩; (try clear C); have C := M.cells; dsimp only [cellFacts, Value.cells] at C) | ((with_reducible refine gate_callee (f := 10) rfl ?_); refine Mem.callL (args := ?_) rfl rfl Tryd.func10 (by kernel_rfl) rfl rfl ?_ ?_; rotate_left; (· (try simp only [List.map_toArray, List.map_cons, List.map_nil]); rfl); refine (spec_ScriptText.calls _ _ _ _ _ _ _ (by first | exact M.rd | exact M.rm | exact M.read HR0.out | exact HC0.out | exact Kd.C_nil _ _ | exact Nat.le_refl _) (by first | exact M.rd | exact M.rm | exact M.read HR0.out | exact HC0.out | exact Kd.C_nil _ _ | exact Nat.le_refl _) (by first | exact A4.out)).mono ?_; rintro e wc17 ⟨rfl, hb_⟩; have M2 := M.next hb_; clear M hb_; have M := M2; clear M2; refine ⟨_, rfl, ?_⟩; (try clear C); have C := M.cells; dsimp only [cellFacts, Value.cells] at C) | ((with_reducible refine gate_callee (f := 11) rfl ?_); refine Mem.callL (args := ?_) rfl rfl Tryd.func11 (by kernel_rfl) rfl rfl ?_ ?_; rotate_left; (· (try simp only [List.map_toArray, List.map_cons, List.map_nil]); rfl); refine (laws_toActS.calls _ _ _ _ _ _ (by first | exact M.rd | exact M.rm | exact M.read HR0.out | exact HC0.out | exact Kd.C_nil _ _ | exact Nat.le_refl _) (by first | exact M.rd | exact M.rm | exact M.read HR0.out | exact HC0.out | exact Kd.C_nil _ _ | exact Nat.le_refl _) (by first | exact A3.out)).mono ?_; rintro e wc21 ⟨v0_, rfl, ho0_, hb_⟩; obtain ⟨_, _, rfl, M2⟩ := Mem.row false M ho0_ hb_; clear M hb_ ho0_; have M := M2; clear M2; refine ⟨_, rfl, ?_⟩; (try clear C); have C := M.cells; dsimp only [cellFacts, Value.cells] at C) | ((with_reducible refine gate_callee (f := 12) rfl ?_); refine Mem.callL (args := ?_) rfl rfl Tryd.func12 (by kernel_rfl) rfl rfl ?_ ?_; rotate_left; (· (try simp only [List.map_toArray, List.map_cons, List.map_nil]); rfl); refine (impl_ScriptText.calls _ _ _ _ _ _ _ (by first | exact M.rd | exact M.rm | exact M.read HR0.out | exact HC0.out | exact Kd.C_nil _ _ | exact Nat.le_refl _) (by first | exact M.rd | exact M.rm | exact M.read HR0.out | exact HC0.out | exact Kd.C_nil _ _ | exact Nat.le_refl _) (by first | exact A7.out)).mono ?_; rintro e wc24 ⟨rfl, hb_⟩; have M2 := M.next hb_; clear M hb_; have M := M2; clear M2; refine ⟨_, rfl, ?_⟩; (try clear C); have C := M.cells; dsimp only [cellFacts, Value.cells] at C) | ((with_reducible refine gate_callee (f := 11) rfl ?_); refine Mem.callL (args := ?_) rfl rfl Tryd.func11 (by kernel_rfl) rfl rfl ?_ ?_; rotate_left; (· (try simp only [List.map_toArray, List.map_cons, List.map_nil]); rfl); refine (laws_toActS.calls _ _ _ _ _ _ (by first | exact M.rd | exact M.rm | exact M.read HR0.out | exact HC0.out | exact Kd.C_nil _ _ | exact Nat.le_refl _) (by first | exact M.rd | exact M.rm | exact M.read HR0.out | exact HC0.out | exact Kd.C_nil _ _ | exact Nat.le_refl _) (by first | exact A3.out)).mono ?_; rintro e wc37 ⟨v0_, rfl, ho0_, hb_⟩; obtain ⟨_, _, rfl, M2⟩ := Mem.row false M ho0_ hb_; clear M hb_ ho0_; have M := M2; clear M2; refine ⟨_, rfl, ?_⟩; (try clear C); have C := M.cells; dsimp only [cellFacts, Value.cells] at C) | ((with_reducible refine gate_callee (f := 13) rfl ?_); refine Mem.callL (args := ?_) rfl rfl Tryd.func13 (by kernel_rfl) rfl rfl ?_ ?_; rotate_left; (· (try simp only [List.map_toArray, List.map_cons, List.map_nil]); rfl); refine (laws_eqActS.calls _ _ _ _ _ _ _ _ _ (by first | exact M.rd | exact M.rm | exact M.read HR0.out | exact HC0.out | exact Kd.C_nil _ _ | exact Nat.le_refl _) (by first | exact M.rd | exact M.rm | exact M.read HR0.out | exact HC0.out | exact Kd.C_nil _ _ | exact Nat.le_refl _) (by first | exact M.rd | exact M.rm | exact M.read HR0.out | exact HC0.out | exact Kd.C_nil _ _ | exact Nat.le_refl _) (by first | exact M.rd | exact M.rm | exact M.read HR0.out | exact HC0.out | exact Kd.C_nil _ _ | exact Nat.le_refl _) (by first | exact A13.out)).mono ?_; rintro e wc38 ⟨rfl, hb_⟩; have M2 := M.next hb_; clear M hb_; have M := M2; clear M2; refine ⟨_, rfl, ?_⟩; (try clear C); have C := M.cells; dsimp only [cellFacts, Value.cells] at C)))
 all_goals (go_ret)
 all_goals exact ⟨by first | rfl | (simp; done) | (simp [*]; done), M.bel⟩

end Go.Proofs.YtlpcpkgdojpleaaDoor.XS
