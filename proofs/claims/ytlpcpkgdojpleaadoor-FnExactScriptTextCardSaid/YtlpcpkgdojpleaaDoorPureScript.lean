/- FnExactScriptText, with no program in sight. -/
import Derived.Test.YtlpcpkgdojpleaaDoorPureText
import Derived.Test.YtlpcpkgdojpleaaDoorLawScriptText
set_option linter.unusedVariables false
set_option linter.unusedSimpArgs false
namespace Go.Proofs.YtlpcpkgdojpleaaDoor.Pure
open Go.RowKit Go.Proofs.YtlpcpkgdojpleaaDoor.XS Go.Proofs.YtlpcpkgdojpleaaDoorW.PrintWords Go.Proofs.YtlpcpkgdojpleaaDoorW.PrintLast Go.Proofs.YtlpcpkgdojpleaaDoorW.PrintMore
def good (a : S58) : Prop := (Lit.int .i64 a.f0).wf = true ∧ (Lit.int .i64 a.f1).wf = true ∧ (Lit.int .i64 a.f2).wf = true ∧ (Lit.int .i64 a.f3).wf = true
def FA (a : S58) : ByteArray × Bool := actF a.f0 a.f1 a.f2 a.f3
def S : List S58 → List UInt8 → ByteArray × Bool
  | [], acc => (⟨acc.toArray⟩, true)
  | a :: l, acc => if (FA a).2 = true then S l (acc ++ (FA a).1.data.toList ++ [10]) else (⟨#[]⟩, false)
theorem FA_size {a : S58} (h : good a) : (FA a).1.size ≤ 100 := actF_size _ _ _ _ h.2.1 h.2.2.1 h.2.2.2
theorem impl_go (k : Nat) : ∀ (l : List S58) (acc : List UInt8), (∀ a ∈ l, good a) → scriptTextG (k + 1) l acc = some (S l acc)
  | [], acc, _ => rfl
  | a :: l, acc, h => by
    have ha := h a (List.mem_cons_self ..)
    rw [scriptTextG, S, actF_impl _ _ _ _ k ha.2.1 ha.2.2.1 ha.2.2.2]
    simp only [Option.bind_some]
    show (if (FA a).2 = true then if (FA a).1.size ≤ 1099511627776 then _ else _ else _) = _
    split
    · rw [if_pos (by have := FA_size ha; omega)]
      exact impl_go k l _ (fun b hb => h b (List.mem_cons_of_mem _ hb))
    · rfl
def nums (l : List UInt8) : List Int := l.map fun b => (b.toNat : Int)
theorem str_nums (l : List UInt8) : strOfNums (nums l) = ⟨l.toArray⟩ := by
  have : (nums l).map (fun n => UInt8.ofNat n.toNat) = l := by
    unfold nums
    rw [List.map_map]
    conv => rhs; rw [← List.map_id l]
    apply List.map_congr_left
    intro b _
    simp
  unfold strOfNums
  rw [this]
theorem rd_at {l : List S58} {i : Nat} (hi : i < l.length) : rd_T58 l (i : Int) = l[i] := by simp [rd_T58, hi]
theorem spec_go : ∀ (m i k : Nat) (l : List S58) (acc : List UInt8), i + m = l.length → l.length ≤ 40 → m + 22 ≤ k → acc.length ≤ 101 * i → (∀ a ∈ l, good a) →
    spec_ScriptText.l0 k l (nums acc) (i : Int) = some (S (l.drop i) acc)
  | 0, i, k, l, acc, hi, hl, hk, ha, hg => by
    rw [show k = (k - 1) + 1 by omega, spec_ScriptText.l0, if_neg (by omega), List.drop_eq_nil_of_le (by omega), S, str_nums]
  | m + 1, i, k, l, acc, hi, hl, hk, ha, hg => by
    have hlt : i < l.length := by omega
    have h1 := hg _ (List.getElem_mem hlt)
    have hs := FA_size h1
    rw [show k = (k - 1) + 1 by omega, spec_ScriptText.l0, if_pos (by omega), if_pos (by omega), rd_at hlt, actF_spec _ _ _ _ (k - 1) (by omega) h1.2.1 h1.2.2.1 h1.2.2.2, List.drop_eq_getElem_cons hlt, S]
    simp only [Option.bind_some]
    show (if (FA l[i]).2 = true then _ else _) = _
    split
    · rw [if_neg (by omega)]
      show (if (FA l[i]).1.size + 1 ≤ _ then if (nums acc).length + ((FA l[i]).1 ++ _).size < _ then _ else _ else _) = _
      have hn : (nums acc).length = acc.length := by simp [nums]
      rw [if_pos (by omega), if_pos (by rw [ByteArray.size_append, hn]; show acc.length + ((FA l[i]).1.size + 1) < _; omega), wrap_id _ (by omega) (by omega)]
      have e : nums acc ++ bytesOf ((FA l[i]).1 ++ (⟨#[10]⟩ : ByteArray)) = nums (acc ++ (FA l[i]).1.data.toList ++ [10]) := by
        simp [nums, bytesOf]
      have hd : ((FA l[i]).1.data.toList).length = (FA l[i]).1.size := by rw [Array.length_toList]; rfl
      have := spec_go m (i + 1) (k - 1) l (acc ++ (FA l[i]).1.data.toList ++ [10]) (by omega) hl (by omega) (by rw [List.length_append, List.length_append, hd]; simp only [List.length_singleton]; omega) hg
      rw [← e] at this
      exact this
    · rfl
theorem script_same (l : List S58) (hg : ∀ a ∈ l, good a) (k : Nat) (hk : 70 ≤ k) : ∃ r, spec_ScriptText.f k l = some r ∧ impl_ScriptText.f k l = some r := by
  by_cases hl : l.length ≤ 40
  · refine ⟨S l [], ?_, ?_⟩
    · exact spec_go l.length 0 k l [] (by omega) hl (by omega) (Nat.le_refl _) hg
    · unfold impl_ScriptText.f
      rw [if_neg (by omega), show k = (k - 1) + 1 by omega]
      exact impl_go _ l [] hg
  · refine ⟨(⟨#[]⟩, false), ?_, ?_⟩
    · have hlt : 0 < l.length := by omega
      have h1 := hg _ (List.getElem_mem hlt)
      unfold spec_ScriptText.f
      rw [show k = (k - 1) + 1 by omega, spec_ScriptText.l0, if_pos (by omega), if_pos (by omega), show (0 : Int) = ((0 : Nat) : Int) from rfl, rd_at hlt, actF_spec _ _ _ _ (k - 1) (by omega) h1.2.1 h1.2.2.1 h1.2.2.2]
      simp only [Option.bind_some]
      split
      · rw [if_pos (by omega)]
      · rfl
    · unfold impl_ScriptText.f
      rw [if_pos (by omega)]
def cv (x : S69) : S58 := ⟨x.f0, x.f1, x.f2, x.f3⟩
theorem rd_at9 {l : List S69} {i : Nat} (hi : i < l.length) : rd_T69 l (i : Int) = l[i] := by simp [rd_T69, hi]
theorem toActS_go : ∀ (m i k : Nat) (l : List S69), i + m = l.length → l.length ≤ 1048576 → m < k → laws_toActS.l0 k l ((l.map cv).take i ++ List.replicate m z58) (i : Int) = some (l.map cv)
  | 0, i, k, l, hi, hl, hk => by
    rw [show k = (k - 1) + 1 by omega, laws_toActS.l0, if_neg (by omega), List.take_of_length_le (by rw [List.length_map]; omega)]
    simp
  | m + 1, i, k, l, hi, hl, hk => by
    have hlt : i < l.length := by omega
    have hlen : ((l.map cv).take i ++ List.replicate (m + 1) z58).length = l.length := by simp; omega
    have e : ((l.map cv).take i ++ List.replicate (m + 1) z58).set i (cv l[i]) = (l.map cv).take (i + 1) ++ List.replicate m z58 := by
      rw [List.set_append_right _ _ (by simp; omega)]
      have e1 : i - ((l.map cv).take i).length = 0 := by simp; omega
      rw [e1, List.replicate_succ, List.set_cons_zero, List.take_add_one, List.getElem?_map, List.getElem?_eq_getElem hlt]
      simp
    rw [show k = (k - 1) + 1 by omega, laws_toActS.l0, if_pos (by omega), if_pos (by omega), rd_at9 hlt]
    unfold laws_toAct.f
    simp only [Option.bind_some]
    rw [if_pos (by rw [hlen]; omega), wrap_id _ (by omega) (by omega), Int.toNat_natCast]
    have := toActS_go m (i + 1) (k - 1) l (by omega) hl (by omega)
    rw [← e] at this
    exact this
theorem toActS (l : List S69) (hl : l.length ≤ 1048576) (k : Nat) (hk : l.length < k) : laws_toActS.f k l = some (l.map cv) := by
  unfold laws_toActS.f
  rw [if_pos (by omega), if_pos (by omega), Int.toNat_natCast]
  have := toActS_go l.length 0 k l (by omega) hl hk
  rw [List.take_zero, List.nil_append] at this
  exact this
theorem eqActS_go : ∀ (m i k : Nat) (l : List S58), i + m = l.length → l.length ≤ 1048576 → m < k → laws_eqActS.l0 k l l (i : Int) = some true
  | 0, i, k, l, hi, hl, hk => by rw [show k = (k - 1) + 1 by omega, laws_eqActS.l0, if_neg (by omega)]
  | m + 1, i, k, l, hi, hl, hk => by
    have hlt : i < l.length := by omega
    rw [show k = (k - 1) + 1 by omega, laws_eqActS.l0, if_pos (by omega), if_pos (by omega), if_pos (by omega), rd_at hlt]
    unfold laws_eqAct.f
    simp only [reduceIte, Option.bind_some]
    rw [wrap_id _ (by omega) (by omega)]
    exact eqActS_go m (i + 1) (k - 1) l (by omega) hl (by omega)
theorem eqActS (l : List S58) (hl : l.length ≤ 1048576) (k : Nat) (hk : l.length < k) : laws_eqActS.f k l l = some true := by
  unfold laws_eqActS.f
  rw [if_pos rfl]
  exact eqActS_go l.length 0 k l (by omega) hl hk
theorem scriptText : fnExactScriptText.Pure := by
  intro l ⟨hl, hg⟩
  have hm : l.length ≤ 9223372036854775807 := hl
  by_cases hs : l.length ≤ 1048576
  · refine ⟨l.length + 80, ?_⟩
    obtain ⟨r, h1, h2⟩ := script_same (l.map cv) (fun a ha => by
      obtain ⟨x, hx, rfl⟩ := List.mem_map.1 ha
      exact hg x hx) (l.length + 80) (by omega)
    unfold laws_FnExactScriptText.f laws_szActS.f
    rw [wrap_id _ (by omega) (by omega), if_neg (by omega)]
    simp only [Option.bind_some]
    rw [if_neg (by omega), toActS l hs _ (by omega)]
    simp only [Option.bind_some]
    rw [h1, h2]
    simp only [Option.bind_some, reduceIte, bne_self_eq_false]
    rw [laws_FnExactScriptText.j0, if_neg (by simp), toActS l hs _ (by omega)]
    simp only [Option.bind_some]
    rw [eqActS _ (by rw [List.length_map]; exact hs) _ (by rw [List.length_map]; omega)]
    simp
  · refine ⟨0, ?_⟩
    unfold laws_FnExactScriptText.f laws_szActS.f
    rw [wrap_id _ (by omega) (by omega), if_pos (by omega)]
    simp only [Option.bind_some]
    rw [if_pos (by omega)]
end Go.Proofs.YtlpcpkgdojpleaaDoor.Pure
