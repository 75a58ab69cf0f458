-- By the session's own program (wip/tools), out of the translation. Not trusted: Lean checks it.
import Derived.Test.YtlpcpkgdojpleaaDoorXS0
import Derived.Test.YtlpcpkgdojpleaaDoorXS12
import Derived.Test.YtlpcpkgdojpleaaDoorXS16
namespace Go.Proofs.YtlpcpkgdojpleaaDoor.XS
open Go.RowKit Go.Proofs.YtlpcpkgdojpleaaDoorW.PrintWords Go.Proofs.YtlpcpkgdojpleaaDoorW.PrintLast Go.Proofs.YtlpcpkgdojpleaaDoorW.PrintMore Go.Proofs.YtlpcpkgdojpleaaDoorW.Mem
attribute [local go_sem] max2_int min2_int max_two min_two max_three min_three max_four min_four puts List.set_cons_zero List.set_cons_succ Value.cells List.take_succ_cons List.take_zero List.drop_succ_cons List.drop_zero List.cons_append List.nil_append   -- for this text's walks alone
set_option linter.unusedVariables false
set_option linter.unusedSimpArgs false

/-! ### impl_FormatAct: function 34 -/
def impl_FormatAct.f (k : Nat) (a0_0 : Int) (a0_1 : Int) (a0_2 : Int) (a0_3 : Int) : Option (ByteArray × Bool) := (impl_ActOk.f k a0_0 a0_1 a0_2 a0_3).bind fun t176 => (if t176 = true then (if a0_0 = 1 then ((impl_FormatInt.f a0_1).bind fun t177 => (if 4 + t177.size ≤ 9223372036854775807 then (if ((⟨#[97, 100, 100, 32]⟩ : ByteArray) ++ t177).size + 1 ≤ 9223372036854775807 then ((impl_FormatInt.f a0_2).bind fun t178 => (if (((⟨#[97, 100, 100, 32]⟩ : ByteArray) ++ t177) ++ (⟨#[32]⟩ : ByteArray)).size + t178.size ≤ 9223372036854775807 then (if ((((⟨#[97, 100, 100, 32]⟩ : ByteArray) ++ t177) ++ (⟨#[32]⟩ : ByteArray)) ++ t178).size + 1 ≤ 9223372036854775807 then ((impl_FormatInt.f a0_3).bind fun t179 => (if (((((⟨#[97, 100, 100, 32]⟩ : ByteArray) ++ t177) ++ (⟨#[32]⟩ : ByteArray)) ++ t178) ++ (⟨#[32]⟩ : ByteArray)).size + t179.size ≤ 9223372036854775807 then (some ((((((⟨#[97, 100, 100, 32]⟩ : ByteArray) ++ t177) ++ (⟨#[32]⟩ : ByteArray)) ++ t178) ++ (⟨#[32]⟩ : ByteArray)) ++ t179, true)) else (none))) else (none)) else (none))) else (none)) else (none))) else (if a0_0 = 2 then (some ((⟨#[116, 97, 107, 101]⟩ : ByteArray), true)) else (if a0_0 = 3 then ((impl_FormatInt.f a0_1).bind fun t180 => (if 5 + t180.size ≤ 9223372036854775807 then (some ((⟨#[108, 105, 110, 101, 32]⟩ : ByteArray) ++ t180, true)) else (none))) else (if a0_0 = 4 then (some ((⟨#[102, 105, 110, 105, 115, 104]⟩ : ByteArray), true)) else ((impl_FormatInt.f a0_1).bind fun t181 => (if 8 + t181.size ≤ 9223372036854775807 then (some ((⟨#[114, 101, 108, 101, 97, 115, 101, 32]⟩ : ByteArray) ++ t181, true)) else (none))))))) else (some ((⟨#[]⟩ : ByteArray), false)))
theorem impl_FormatAct.mono : ∀ a0 a1 a2 a3 k, LeO (impl_FormatAct.f k a0 a1 a2 a3) (impl_FormatAct.f (k + 1) a0 a1 a2 a3) := by
  intro a0 a1 a2 a3 k
  unfold impl_FormatAct.f
  repeat' first
      | (with_reducible exact impl_ActOk.mono _ _ _ _ _)
      | (with_reducible exact LeO.refl _)
      | (with_reducible exact LeO.none _)
      | (with_reducible refine LeO.ite ?_ ?_)
      | (with_reducible refine LeO.bind ?_ (fun _ => ?_))
      | exact impl_ActOk.mono _ _ _ _ _
      | exact LeO.none _
      | refine LeO.ite ?_ ?_
      | refine LeO.bind ?_ (fun _ => ?_)
def impl_FormatAct.T5 : Bool × List (List Nat × List Nat) := (true, [([], []), ([0], [0]), ([1], [1]), ([2], [2]), ([3], [3]), ([], []), ([5], [5]), ([6, 2], [6]), ([4, 7], [4, 7]), ([8], [8]), ([], []), ([10], [10]), ([11, 7], [11]), ([9, 12], [9, 12]), ([13, 12, 0, 1, 2, 3, 4, 5, 6, 7, 8, 9, 10, 11, 12, 13], [13]), ([14, 0, 1, 2, 3, 4, 5, 6, 7, 8, 9, 10, 11, 12, 13, 14], [])])
def impl_FormatAct.B5 : List Nat := [0, 1, 3, 7, 15, 0, 32, 103, 255, 511, 0, 1024, 3303, 8191, 16383, 32767]
theorem impl_FormatAct.tab5 : rtab .any (opsOf Tryd.f34 5) = impl_FormatAct.T5 := by kernel_rfl
theorem impl_FormatAct.bits5 : waitsOk impl_FormatAct.T5.2 impl_FormatAct.B5 = true := by kernel_rfl
set_option maxHeartbeats 8000000 in
set_option maxRecDepth 100000 in
theorem impl_FormatAct.calls (k : Nat) (a0_0 : Int) (a0_1 : Int) (a0_2 : Int) (a0_3 : Int) (r1 : ByteArray) (r2 : Bool) (w : World) (h : impl_FormatAct.f k a0_0 a0_1 a0_2 a0_3 = some (r1, r2)) (hT : Go.Proofs.YtlpcpkgdojpleaaDoor.Text.TabW w := by first | assumption | exact Go.Proofs.YtlpcpkgdojpleaaDoor.Text.TabW.mem (by assumption) (by assumption)) :
    Calls Tryd.prog 34 #[.agg #[.int .i64 a0_0, .int .i64 a0_1, .int .i64 a0_2, .int .i64 a0_3]] w fun e w' => e = .returned (.tuple #[.string r1, .bool r2]) ∧ Below w.heap.size w w' := by
 have hu58 := Tryd.underlying58
 have M := Mem.start w; have H := h; clear h; unfold impl_FormatAct.f at H
 obtain ⟨t176, A1, H⟩ := bind_some H; (try dsimp only at H)
 rcases ite_some H with ⟨c2, H⟩ | ⟨c2, H⟩
 focus
  have c2b0 : t176 = true := c2
  clear c2
  rcases ite_some H with ⟨c3, H⟩ | ⟨c3, H⟩
  focus
   have c3b0 : (a0_0 == 1) = true := beq_iff_eq.mpr c3
   have c3b1 : (a0_0 != 1) = false := bne_eq_false_iff_eq.mpr c3
   clear c3
   obtain ⟨t177, A4, H⟩ := bind_some H; (try dsimp only at H)
   rcases ite_some H with ⟨c5, H⟩ | ⟨c5, H⟩
   focus
    have c5b0 : ((4 + t177.size ≤ 9223372036854775807) = True) := eq_true c5
    have c5b1 : decide (4 + t177.size ≤ 9223372036854775807) = true := decide_eq_true c5
    (try (have c5b2 : (9223372036854775807 < 4 + t177.size) = False := eq_false (Nat.not_lt.2 c5)))
    clear c5
    rcases ite_some H with ⟨c6, H⟩ | ⟨c6, H⟩
    focus
     have c6b0 : ((((⟨#[97, 100, 100, 32]⟩ : ByteArray) ++ t177).size + 1 ≤ 9223372036854775807) = True) := eq_true c6
     have c6b1 : decide (((⟨#[97, 100, 100, 32]⟩ : ByteArray) ++ t177).size + 1 ≤ 9223372036854775807) = true := decide_eq_true c6
     (try (have c6b2 : (9223372036854775807 < ((⟨#[97, 100, 100, 32]⟩ : ByteArray) ++ t177).size + 1) = False := eq_false (Nat.not_lt.2 c6)))
     (try (have c6b3 := c6b2; simp only [ByteArray.size_append, bsz, List.size_toArray, List.length_cons, List.length_nil, Nat.zero_add, Nat.reduceAdd] at c6b3))
     clear c6
     obtain ⟨t178, A7, H⟩ := bind_some H; (try dsimp only at H)
     rcases ite_some H with ⟨c8, H⟩ | ⟨c8, H⟩
     focus
      have c8b0 : (((((⟨#[97, 100, 100, 32]⟩ : ByteArray) ++ t177) ++ (⟨#[32]⟩ : ByteArray)).size + t178.size ≤ 9223372036854775807) = True) := eq_true c8
      have c8b1 : decide ((((⟨#[97, 100, 100, 32]⟩ : ByteArray) ++ t177) ++ (⟨#[32]⟩ : ByteArray)).size + t178.size ≤ 9223372036854775807) = true := decide_eq_true c8
      (try (have c8b2 : (9223372036854775807 < (((⟨#[97, 100, 100, 32]⟩ : ByteArray) ++ t177) ++ (⟨#[32]⟩ : ByteArray)).size + t178.size) = False := eq_false (Nat.not_lt.2 c8)))
      (try (have c8b3 := c8b2; simp only [ByteArray.size_append, bsz, List.size_toArray, List.length_cons, List.length_nil, Nat.zero_add, Nat.reduceAdd] at c8b3))
      clear c8
      rcases ite_some H with ⟨c9, H⟩ | ⟨c9, H⟩
      focus
       have c9b0 : ((((((⟨#[97, 100, 100, 32]⟩ : ByteArray) ++ t177) ++ (⟨#[32]⟩ : ByteArray)) ++ t178).size + 1 ≤ 9223372036854775807) = True) := eq_true c9
       have c9b1 : decide (((((⟨#[97, 100, 100, 32]⟩ : ByteArray) ++ t177) ++ (⟨#[32]⟩ : ByteArray)) ++ t178).size + 1 ≤ 9223372036854775807) = true := decide_eq_true c9
       (try (have c9b2 : (9223372036854775807 < ((((⟨#[97, 100, 100, 32]⟩ : ByteArray) ++ t177) ++ (⟨#[32]⟩ : ByteArray)) ++ t178).size + 1) = False := eq_false (Nat.not_lt.2 c9)))
       (try (have c9b3 := c9b2; simp only [ByteArray.size_append, bsz, List.size_toArray, List.length_cons, List.length_nil, Nat.zero_add, Nat.reduceAdd] at c9b3))
       clear c9
       obtain ⟨t179, A10, H⟩ := bind_some H; (try dsimp only at H)
       rcases ite_some H with ⟨c11, H⟩ | ⟨c11, H⟩
       focus
        have c11b0 : (((((((⟨#[97, 100, 100, 32]⟩ : ByteArray) ++ t177) ++ (⟨#[32]⟩ : ByteArray)) ++ t178) ++ (⟨#[32]⟩ : ByteArray)).size + t179.size ≤ 9223372036854775807) = True) := eq_true c11
        have c11b1 : decide ((((((⟨#[97, 100, 100, 32]⟩ : ByteArray) ++ t177) ++ (⟨#[32]⟩ : ByteArray)) ++ t178) ++ (⟨#[32]⟩ : ByteArray)).size + t179.size ≤ 9223372036854775807) = true := decide_eq_true c11
        (try (have c11b2 : (9223372036854775807 < (((((⟨#[97, 100, 100, 32]⟩ : ByteArray) ++ t177) ++ (⟨#[32]⟩ : ByteArray)) ++ t178) ++ (⟨#[32]⟩ : ByteArray)).size + t179.size) = False := eq_false (Nat.not_lt.2 c11)))
        (try (have c11b3 := c11b2; simp only [ByteArray.size_append, bsz, List.size_toArray, List.length_cons, List.length_nil, Nat.zero_add, Nat.reduceAdd] at c11b3))
        clear c11
        simp only [Option.some.injEq, Prod.mk.injEq] at H; obtain ⟨rfl, rfl⟩ := H
       rotate_left
       focus cases H
      rotate_left
      focus cases H
     rotate_left
     focus cases H
    rotate_left
    focus cases H
   rotate_left
   focus cases H
  rotate_left
  focus
   have c3b0 : (a0_0 == 1) = false := beq_eq_false_iff_ne.mpr c3
   have c3b1 : (a0_0 != 1) = true := bne_iff_ne.mpr c3
   rcases ite_some H with ⟨c12, H⟩ | ⟨c12, H⟩
   focus
    have c12b0 : (a0_0 == 2) = true := beq_iff_eq.mpr c12
    have c12b1 : (a0_0 != 2) = false := bne_eq_false_iff_eq.mpr c12
    clear c12
    simp only [Option.some.injEq, Prod.mk.injEq] at H; obtain ⟨rfl, rfl⟩ := H
   rotate_left
   focus
    have c12b0 : (a0_0 == 2) = false := beq_eq_false_iff_ne.mpr c12
    have c12b1 : (a0_0 != 2) = true := bne_iff_ne.mpr c12
    rcases ite_some H with ⟨c13, H⟩ | ⟨c13, H⟩
    focus
     have c13b0 : (a0_0 == 3) = true := beq_iff_eq.mpr c13
     have c13b1 : (a0_0 != 3) = false := bne_eq_false_iff_eq.mpr c13
     clear c13
     obtain ⟨t180, A14, H⟩ := bind_some H; (try dsimp only at H)
     rcases ite_some H with ⟨c15, H⟩ | ⟨c15, H⟩
     focus
      have c15b0 : ((5 + t180.size ≤ 9223372036854775807) = True) := eq_true c15
      have c15b1 : decide (5 + t180.size ≤ 9223372036854775807) = true := decide_eq_true c15
      (try (have c15b2 : (9223372036854775807 < 5 + t180.size) = False := eq_false (Nat.not_lt.2 c15)))
      clear c15
      simp only [Option.some.injEq, Prod.mk.injEq] at H; obtain ⟨rfl, rfl⟩ := H
     rotate_left
     focus cases H
    rotate_left
    focus
     have c13b0 : (a0_0 == 3) = false := beq_eq_false_iff_ne.mpr c13
     have c13b1 : (a0_0 != 3) = true := bne_iff_ne.mpr c13
     rcases ite_some H with ⟨c16, H⟩ | ⟨c16, H⟩
     focus
      have c16b0 : (a0_0 == 4) = true := beq_iff_eq.mpr c16
      have c16b1 : (a0_0 != 4) = false := bne_eq_false_iff_eq.mpr c16
      clear c16
      simp only [Option.some.injEq, Prod.mk.injEq] at H; obtain ⟨rfl, rfl⟩ := H
     rotate_left
     focus
      have c16b0 : (a0_0 == 4) = false := beq_eq_false_iff_ne.mpr c16
      have c16b1 : (a0_0 != 4) = true := bne_iff_ne.mpr c16
      obtain ⟨t181, A17, H⟩ := bind_some H; (try dsimp only at H)
      rcases ite_some H with ⟨c18, H⟩ | ⟨c18, H⟩
      focus
       have c18b0 : ((8 + t181.size ≤ 9223372036854775807) = True) := eq_true c18
       have c18b1 : decide (8 + t181.size ≤ 9223372036854775807) = true := decide_eq_true c18
       (try (have c18b2 : (9223372036854775807 < 8 + t181.size) = False := eq_false (Nat.not_lt.2 c18)))
       clear c18
       simp only [Option.some.injEq, Prod.mk.injEq] at H; obtain ⟨rfl, rfl⟩ := H
      rotate_left
      focus cases H
 rotate_left 5
 focus
  have c2b0 : t176 = false := by simpa using c2
  clear c2
  simp only [Option.some.injEq, Prod.mk.injEq] at H; obtain ⟨rfl, rfl⟩ := H
 all_goals go_enter Tryd.func34, Tryd.ntmps34
 all_goals (iterate 2 ((try (first | (refine start_ (id := 5) (n := 16) (S := fun w' => Mem w w' _) (ds := []) _ (by kernel_rfl) rfl rfl M.drew (fun hS => ?_); refine with_tabW impl_FormatAct.tab5 impl_FormatAct.bits5 (fun HT_ HW_ => ?_); have M1 := M.drew; clear M; (try clear C); have M := M1; clear M1; refine tks [(0, some 11), (5, some 16), (10, some 21), (1, some 12), (6, some 17), (11, some 22)] ?_; (repeat (first | (refine tks_pure (v := ?_) (a' := ?_) HT_ (by kernel_rfl) rfl rfl (by rfl) (fun _ _ _ h => h) ?_ ?_ ?_; rotate_left 2; (· intro w'; go_simp; with_reducible rfl); (· simp only [Act.put, List.setIfInBounds_toArray, List.set_cons_zero, List.set_cons_succ, i64_w, i32_w]; rfl)) | (refine tks_take (v := ?_) (a' := ?_) HT_ HW_ (by kernel_rfl) rfl rfl (by rfl) (fun _ _ _ h => h) hS ?_ ?_ ?_; rotate_left 2; (· intro w' M; have C := M.cells; simp only [cellFacts, Value.cells, Nat.zero_add, Nat.reduceAdd, List.eraseIdx_cons_succ, List.eraseIdx_cons_zero] at C; go_simp; with_reducible rfl); (· simp only [Act.put, List.setIfInBounds_toArray, List.set_cons_zero, List.set_cons_succ, i64_w, i32_w]; rfl)))); refine tks_done ?_; (refine rcall (args := ?_) (N := some 13) 2 HT_ (by kernel_rfl) rfl rfl (by decide) Tryd.func17 (by kernel_rfl) rfl (by rfl) rfl ?_ ?_; rotate_left; (· (try simp only [List.map_toArray, List.map_cons, List.map_nil]); rfl); (try clear hS); refine (impl_FormatInt.calls _ _ _ (by first | exact A4.out | exact A7.out | exact A10.out | exact A14.out | exact A17.out)).mono ?_; rintro e wr13 ⟨rfl, hb_⟩; have M2 := M.next hb_; clear M hb_; have M := M2; clear M2; refine ⟨_, rfl, M, fun hS => ?_⟩; refine norm_ (a' := ?_) ?_ ?_; rotate_left; (· simp only [Act.put, List.setIfInBounds_toArray, List.set_cons_zero, List.set_cons_succ, i64_w, i32_w]; rfl)); refine tks [(3, some 14), (4, some 15)] ?_; (repeat (first | (refine tks_pure (v := ?_) (a' := ?_) HT_ (by kernel_rfl) rfl rfl (by rfl) (fun _ _ _ h => h) ?_ ?_ ?_; rotate_left 2; (· intro w'; go_simp; with_reducible rfl); (· simp only [Act.put, List.setIfInBounds_toArray, List.set_cons_zero, List.set_cons_succ, i64_w, i32_w]; rfl)))); refine tks_done ?_; (refine rcall (args := ?_) (N := some 18) 7 HT_ (by kernel_rfl) rfl rfl (by decide) Tryd.func17 (by kernel_rfl) rfl (by rfl) rfl ?_ ?_; rotate_left; (· (try simp only [List.map_toArray, List.map_cons, List.map_nil]); rfl); (try clear hS); refine (impl_FormatInt.calls _ _ _ (by first | exact A4.out | exact A7.out | exact A10.out | exact A14.out | exact A17.out)).mono ?_; rintro e wr18 ⟨rfl, hb_⟩; have M2 := M.next hb_; clear M hb_; have M := M2; clear M2; refine ⟨_, rfl, M, fun hS => ?_⟩; refine norm_ (a' := ?_) ?_ ?_; rotate_left; (· simp only [Act.put, List.setIfInBounds_toArray, List.set_cons_zero, List.set_cons_succ, i64_w, i32_w]; rfl)); refine tks [(8, some 19), (9, some 20)] ?_; (repeat (first | (refine tks_pure (v := ?_) (a' := ?_) HT_ (by kernel_rfl) rfl rfl (by rfl) (fun _ _ _ h => h) ?_ ?_ ?_; rotate_left 2; (· intro w'; go_simp; with_reducible rfl); (· simp only [Act.put, List.setIfInBounds_toArray, List.set_cons_zero, List.set_cons_succ, i64_w, i32_w]; rfl)))); refine tks_done ?_; (refine rcall (args := ?_) (N := some 23) 12 HT_ (by kernel_rfl) rfl rfl (by decide) Tryd.func17 (by kernel_rfl) rfl (by rfl) rfl ?_ ?_; rotate_left; (· (try simp only [List.map_toArray, List.map_cons, List.map_nil]); rfl); (try clear hS); refine (impl_FormatInt.calls _ _ _ (by first | exact A4.out | exact A7.out | exact A10.out | exact A14.out | exact A17.out)).mono ?_; rintro e wr23 ⟨rfl, hb_⟩; have M2 := M.next hb_; clear M hb_; have M := M2; clear M2; refine ⟨_, rfl, M, fun hS => ?_⟩; refine norm_ (a' := ?_) ?_ ?_; rotate_left; (· simp only [Act.put, List.setIfInBounds_toArray, List.set_cons_zero, List.set_cons_succ, i64_w, i32_w]; rfl)); refine tks [(13, some 24), (14, some 2), (15, some 3)] ?_; (repeat (first | (refine tks_pure (v := ?_) (a' := ?_) HT_ (by kernel_rfl) rfl rfl (by rfl) (fun _ _ _ h => h) ?_ ?_ ?_; rotate_left 2; (· intro w'; go_simp; with_reducible rfl); (· simp only [Act.put, List.setIfInBounds_toArray, List.set_cons_zero, List.set_cons_succ, i64_w, i32_w]; rfl)))); refine tks_done ?_; refine done_ (done_of HT_.out (by kernel_rfl)) ?_; (try clear C); have C := M.cells; dsimp only [cellFacts, Value.cells] at C))); (try go_wp2_with (first | ((with_reducible refine gate_dst (N := 1) rfl ?_); refine Mem.ev_boxed (v := ?_) M rfl rfl ?_ ?_; rotate_left; (· go_simp; with_reducible rfl); clear M; intro g1 w1 M; dsimp only [Value.cells] at M; (try clear C); have C := M.cells; dsimp only [cellFacts, Value.cells] at C) | ((with_reducible refine gate_callee (f := 68) rfl ?_); refine Mem.callL (args := ?_) rfl rfl Tryd.func68 (by kernel_rfl) rfl rfl ?_ ?_; rotate_left; (· (try simp only [List.map_toArray, List.map_cons, List.map_nil]); rfl); refine (impl_ActOk.calls _ _ _ _ _ _ _ (by first | exact A1.out)).mono ?_; rintro e wc5 ⟨rfl, hb_⟩; have M2 := M.next hb_; clear M hb_; have M := M2; clear M2; refine ⟨_, rfl, ?_⟩; (try clear C); have C := M.cells; dsimp only [cellFacts, Value.cells] at C) | ((with_reducible refine gate_callee (f := 17) rfl ?_); refine Mem.callL (args := ?_) rfl rfl Tryd.func17 (by kernel_rfl) rfl rfl ?_ ?_; rotate_left; (· (try simp only [List.map_toArray, List.map_cons, List.map_nil]); rfl); refine (impl_FormatInt.calls _ _ _ (by first | exact A4.out | exact A7.out | exact A10.out | exact A14.out | exact A17.out)).mono ?_; rintro e wc31 ⟨rfl, hb_⟩; have M2 := M.next hb_; clear M hb_; have M := M2; clear M2; refine ⟨_, rfl, ?_⟩; (try clear C); have C := M.cells; dsimp only [cellFacts, Value.cells] at C) | ((with_reducible refine gate_callee (f := 17) rfl ?_); refine Mem.callL (args := ?_) rfl rfl Tryd.func17 (by kernel_rfl) rfl rfl ?_ ?_; rotate_left; (· (try simp only [List.map_toArray, List.map_cons, List.map_nil]); rfl); refine (impl_FormatInt.calls _ _ _ (by first | exact A4.out | exact A7.out | exact A10.out | exact A14.out | exact A17.out)).mono ?_; rintro e wc37 ⟨rfl, hb_⟩; have M2 := M.next hb_; clear M hb_; have M := M2; clear M2; refine ⟨_, rfl, ?_⟩; (try clear C); have C := M.cells; dsimp only [cellFacts, Value.cells] at C)))))
 all_goals (go_ret2)
 all_goals exact ⟨by first | rfl | (simp; done) | (simp [*]; done), M.bel⟩

end Go.Proofs.YtlpcpkgdojpleaaDoor.XS
