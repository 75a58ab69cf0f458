/- What the printed functions of acts and numbers compute: no program in sight. -/
import Derived.Test.YtlpcpkgdojpleaaDoorXS
import Derived.Lib.ItoaNum
import Derived.Lib.ItoaLen
import Derived.OpenShut
set_option linter.unusedVariables false
set_option linter.unusedSimpArgs false
namespace Go.Proofs.YtlpcpkgdojpleaaDoor.Pure
open Go.RowKit Go.Proofs.YtlpcpkgdojpleaaDoor.XS Go.Proofs.YtlpcpkgdojpleaaDoorW.PrintWords Go.Proofs.YtlpcpkgdojpleaaDoorW.PrintLast Go.Proofs.YtlpcpkgdojpleaaDoorW.PrintMore
/-! ### numbers -/
/-- The digits of n, none for 0. -/
def digs (n : Nat) : List UInt8 := if n = 0 then [] else Lib.decDigits n
theorem digs_step (n : Nat) (h : 0 < n) : digs n = digs (n / 10) ++ [UInt8.ofNat (48 + n % 10)] := by
  unfold digs
  rw [if_neg (by omega), Lib.decDigits]
  split
  · rename_i h1
    rw [if_pos (by omega), Nat.mod_eq_of_lt h1]
    rfl
  · rw [if_neg (by omega)]
theorem wrap_id (n : Int) (h0 : -9223372036854775808 ≤ n) (h1 : n ≤ 9223372036854775807) : wrap64 n = n := by unfold wrap64; omega
theorem digs_length : ∀ (k n : Nat), n < 10 ^ k → (digs n).length ≤ k
  | 0, n, h => by
    have : n = 0 := by simpa using h
    subst this
    simp [digs]
  | k + 1, n, h => by
    by_cases h0 : n = 0
    · subst h0
      simp [digs]
    · rw [digs_step n (by omega), List.length_append]
      have := digs_length k (n / 10) (by rw [Nat.pow_succ] at h; omega)
      simp only [List.length_singleton]
      omega
theorem figure (d : Int) (h0 : 0 ≤ d) (h1 : d < 10) : spec_l01Figure.f d = some (48 + d) := by
  unfold spec_l01Figure.f
  rw [if_pos h1, wrap_id _ (by omega) (by omega)]
  congr 1
  omega
theorem str_one (d : Nat) : strOfNums [48 + (d : Int)] = ⟨#[UInt8.ofNat (48 + d)]⟩ := by
  have : ((48 : Int) + (d : Int)).toNat = 48 + d := by omega
  simp [strOfNums, this]
theorem tmod_pos (n : Nat) : Int.tmod (n : Int) 10 = ((n % 10 : Nat) : Int) := rfl
theorem tdiv_pos (n : Nat) : Int.tdiv (n : Int) 10 = ((n / 10 : Nat) : Int) := rfl
theorem tmod_neg (n : Nat) : Int.tmod (-(n : Int)) 10 = -((n % 10 : Nat) : Int) := by rw [Int.neg_tmod]; rfl
theorem tdiv_neg (n : Nat) : Int.tdiv (-(n : Int)) 10 = -((n / 10 : Nat) : Int) := by rw [Int.neg_tdiv]; rfl
theorem bytes_snoc (l : List UInt8) (b : UInt8) (acc : ByteArray) : (⟨(l ++ [b]).toArray⟩ : ByteArray) ++ acc = ⟨l.toArray⟩ ++ ((⟨#[b]⟩ : ByteArray) ++ acc) := by
  rw [← ByteArray.append_assoc]
  congr 1
theorem size_mk (l : List UInt8) : (⟨l.toArray⟩ : ByteArray).size = l.length := by simp [ByteArray.size]
theorem loop (neg : Bool) : ∀ (k n : Nat) (x : Int) (acc : ByteArray), (x = (n : Int) ∨ x = -(n : Int)) → n < 10 ^ k → n ≤ 9223372036854775808 → acc.size + (digs n).length ≤ 1000 →
    spec_FormatInt.l0 (k + 1) x neg acc = some (if neg = true then (⟨#[45]⟩ : ByteArray) ++ ((⟨(digs n).toArray⟩ : ByteArray) ++ acc) else (⟨(digs n).toArray⟩ : ByteArray) ++ acc)
  | k, n, x, acc, hx, hk, hn, hs => by
    by_cases h0 : n = 0
    · subst h0
      have hx0 : x = 0 := by omega
      subst hx0
      have e : (⟨(digs 0).toArray⟩ : ByteArray) ++ acc = acc := by
        apply ByteArray.ext
        simp [digs]
      rw [spec_FormatInt.l0, if_pos rfl, e]
      split
      · rw [if_pos (by omega)]
      · rfl
    · have hd : (digs n).length = (digs (n / 10)).length + 1 := by rw [digs_step n (by omega), List.length_append]; rfl
      cases k with
      | zero => simp at hk; omega
      | succ k =>
        have hx0 : ¬ x = 0 := by omega
        have hk' : n / 10 < 10 ^ k := by rw [Nat.pow_succ] at hk; omega
        have fin : ∀ x', (x' = ((n / 10 : Nat) : Int) ∨ x' = -((n / 10 : Nat) : Int)) → spec_FormatInt.l0 (k + 1) x' neg (strOfNums [48 + ((n % 10 : Nat) : Int)] ++ acc) = some (if neg = true then (⟨#[45]⟩ : ByteArray) ++ ((⟨(digs n).toArray⟩ : ByteArray) ++ acc) else (⟨(digs n).toArray⟩ : ByteArray) ++ acc) := fun x' hx' => by
          rw [str_one, loop neg k (n / 10) x' _ hx' hk' (by omega) (by rw [ByteArray.size_append]; show 1 + acc.size + (digs (n / 10)).length ≤ 1000; omega), digs_step n (by omega), bytes_snoc]
        have hsz : (strOfNums [48 + ((n % 10 : Nat) : Int)]).size = 1 := by rw [str_one]; rfl
        rw [spec_FormatInt.l0, if_neg hx0]
        rcases hx with rfl | rfl
        · rw [tmod_pos, tdiv_pos, if_neg (by omega), figure _ (by omega) (by omega)]
          simp only [Option.bind_some]
          rw [hsz, if_pos (by omega), wrap_id _ (by omega) (by omega)]
          exact fin _ (.inl rfl)
        · rw [tmod_neg, tdiv_neg]
          by_cases h1 : n % 10 = 0
          · rw [if_neg (by omega), h1]
            have h2 := fin (-((n / 10 : Nat) : Int)) (.inr rfl)
            rw [h1] at h2 hsz
            simp only [Int.ofNat_zero, Int.natCast_zero, Int.neg_zero, Int.cast_ofNat_Int] at h2 hsz ⊢
            rw [figure 0 (by omega) (by omega)]
            simp only [Option.bind_some]
            rw [hsz, if_pos (by omega), wrap_id _ (by omega) (by omega)]
            exact h2
          · rw [if_pos (by omega), wrap_id _ (by omega) (by omega), Int.neg_neg, figure _ (by omega) (by omega)]
            simp only [Option.bind_some]
            rw [hsz, if_pos (by omega), wrap_id _ (by omega) (by omega)]
            exact fin _ (.inr rfl)
/-- Both ways of writing a number. -/
theorem formatInt (n : Int) (h0 : -9223372036854775808 ≤ n) (h1 : n ≤ 9223372036854775807) (k : Nat) (hk : 21 ≤ k) : spec_FormatInt.f k n = some ⟨(Lib.itoa n).toArray⟩ := by
  unfold spec_FormatInt.f
  by_cases hn : n = 0
  · subst hn
    rw [if_pos rfl, Lib.itoa, if_neg (by omega), Int.toNat_zero, Lib.decDigits, dif_pos (by omega)]
    rfl
  · rw [if_neg hn]
    have hd : digs n.natAbs = Lib.decDigits n.natAbs := if_neg (by omega)
    have hb : n.natAbs < 10 ^ 20 := by omega
    have hp : n.natAbs < 10 ^ (k - 1) := Nat.lt_of_lt_of_le hb (Nat.pow_le_pow_right (by omega) (by omega))
    have h := loop (decide (n < 0)) (k - 1) n.natAbs n ⟨#[]⟩ (by omega) hp (by omega) (by have := digs_length 20 _ hb; show 0 + _ ≤ 1000; omega)
    rw [show k - 1 + 1 = k by omega] at h
    rw [h]
    by_cases h0 : n < 0
    · rw [if_pos (decide_eq_true h0), Lib.itoa, if_pos h0, hd]
      congr 1
      apply ByteArray.ext
      simp
    · rw [if_neg (by simpa using h0), Lib.itoa, if_neg h0, hd, show n.toNat = n.natAbs by omega]
      congr 1
      apply ByteArray.ext
      simp
theorem formatInt_impl (n : Int) (h0 : -9223372036854775808 ≤ n) (h1 : n ≤ 9223372036854775807) : impl_FormatInt.f n = some ⟨(Lib.itoa n).toArray⟩ := by
  unfold impl_FormatInt.f
  rw [if_pos ⟨h0, h1⟩]
/-! ### acts -/
def inF (a l h : Int) : Bool := decide (l ≤ a) && decide (a ≤ h)
def actOkF (a b c d : Int) : Bool :=
  if a = 1 then inF b 1 9999 && inF c 1 64 && inF d 0 9 else if a = 2 ∨ a = 4 then b == 0 && c == 0 && d == 0 else if a = 3 then inF b 1 5 && c == 0 && d == 0 else if a = 5 then inF b 1 9999 && c == 0 && d == 0 else false
theorem within (a l h : Int) : impl_within.f a l h = some (inF a l h) := by
  unfold impl_within.f inF
  by_cases h1 : l ≤ a <;> simp [h1]
theorem l01In (a l h : Int) : spec_l01In.f a l h = some (inF a l h) := by
  unfold spec_l01In.f inF
  by_cases h1 : l ≤ a <;> simp [h1]
theorem actOk_impl (a b c d : Int) (k : Nat) : impl_ActOk.f (k + 1) a b c d = some (actOkF a b c d) := by
  unfold impl_ActOk.f impl_ActOk.j0 impl_jobOf.f impl_JobOk.f actOkF
  simp only [Option.bind_some, within]
  have h20 : inF 1 1 20 = true := by decide
  by_cases h1 : a = 1
  · subst h1
    cases inF b 1 9999 <;> cases inF c 1 64 <;> simp [h20]
  · by_cases h2 : a = 2
    · subst h2
      by_cases hb : b = 0 <;> by_cases hc : c = 0 <;> simp [hb, hc]
    · by_cases h4 : a = 4
      · subst h4
        by_cases hb : b = 0 <;> by_cases hc : c = 0 <;> simp [hb, hc]
      · by_cases h3 : a = 3
        · subst h3
          cases inF b 1 5 <;> by_cases hc : c = 0 <;> simp [hc]
        · by_cases h5 : a = 5
          · subst h5
            cases inF b 1 9999 <;> by_cases hc : c = 0 <;> simp [hc]
          · simp [h1, h2, h3, h4, h5]
theorem actOk_spec (a b c d : Int) (k : Nat) : spec_ActOk.f (k + 1) a b c d = some (actOkF a b c d) := by
  unfold spec_ActOk.f spec_ActOk.j0 spec_l39Job.f spec_JobOk.f actOkF
  simp only [Option.bind_some, l01In]
  have h20 : inF 1 1 20 = true := by decide
  by_cases h1 : a = 1
  · subst h1
    cases inF b 1 9999 <;> cases inF c 1 64 <;> simp [h20]
  · by_cases h2 : a = 2
    · subst h2
      by_cases hb : b = 0 <;> by_cases hc : c = 0 <;> simp [hb, hc]
    · by_cases h4 : a = 4
      · subst h4
        by_cases hb : b = 0 <;> by_cases hc : c = 0 <;> simp [hb, hc]
      · by_cases h3 : a = 3
        · subst h3
          cases inF b 1 5 <;> by_cases hc : c = 0 <;> simp [hc]
        · by_cases h5 : a = 5
          · subst h5
            cases inF b 1 9999 <;> by_cases hc : c = 0 <;> simp [hc]
          · simp [h1, h2, h3, h4, h5]
/-- A number's text. -/
def tx (n : Int) : ByteArray := ⟨(Lib.itoa n).toArray⟩
theorem tx_size (n : Int) (h0 : -9223372036854775808 ≤ n) (h1 : n ≤ 9223372036854775807) : (tx n).size ≤ 21 := by
  unfold tx
  rw [size_mk]
  exact Lib.itoa_length_le n h0 h1
/-- An act's text. -/
def actF (a b c d : Int) : ByteArray × Bool :=
  if actOkF a b c d = true then
    (if a = 1 then ((((((⟨#[97, 100, 100, 32]⟩ : ByteArray) ++ tx b) ++ (⟨#[32]⟩ : ByteArray)) ++ tx c) ++ (⟨#[32]⟩ : ByteArray)) ++ tx d, true)
     else if a = 2 then ((⟨#[116, 97, 107, 101]⟩ : ByteArray), true) else if a = 3 then ((⟨#[108, 105, 110, 101, 32]⟩ : ByteArray) ++ tx b, true)
     else if a = 4 then ((⟨#[102, 105, 110, 105, 115, 104]⟩ : ByteArray), true) else ((⟨#[114, 101, 108, 101, 97, 115, 101, 32]⟩ : ByteArray) ++ tx b, true))
  else ((⟨#[]⟩ : ByteArray), false)
theorem actF_impl (a b c d : Int) (k : Nat) (hb : (Lit.int .i64 b).wf = true) (hc : (Lit.int .i64 c).wf = true) (hd : (Lit.int .i64 d).wf = true) : impl_FormatAct.f (k + 1) a b c d = some (actF a b c d) := by
  have wb := Go.bounds_i64 hb
  have wc := Go.bounds_i64 hc
  have wd := Go.bounds_i64 hd
  have sb := tx_size b wb.1 wb.2
  have sc := tx_size c wc.1 wc.2
  have sd := tx_size d wd.1 wd.2
  have fb : impl_FormatInt.f b = some (tx b) := formatInt_impl b wb.1 wb.2
  have fc : impl_FormatInt.f c = some (tx c) := formatInt_impl c wc.1 wc.2
  have fd : impl_FormatInt.f d = some (tx d) := formatInt_impl d wd.1 wd.2
  unfold impl_FormatAct.f actF
  rw [actOk_impl]
  simp only [Option.bind_some, fb, fc, fd]
  cases actOkF a b c d
  · rfl
  · rw [if_pos rfl, if_pos rfl]
    by_cases h1 : a = 1
    · rw [if_pos h1, if_pos h1]
      repeat rw [if_pos (by (try simp only [ByteArray.size_append, YtlpcpkgdojpleaaDoorW.Mem.bsz, List.size_toArray, List.length_cons, List.length_nil]); omega)]
    · rw [if_neg h1, if_neg h1]
      by_cases h2 : a = 2
      · rw [if_pos h2, if_pos h2]
      · rw [if_neg h2, if_neg h2]
        by_cases h3 : a = 3
        · rw [if_pos h3, if_pos h3]
          rw [if_pos (by (try simp only [ByteArray.size_append, YtlpcpkgdojpleaaDoorW.Mem.bsz, List.size_toArray, List.length_cons, List.length_nil]); omega)]
        · rw [if_neg h3, if_neg h3]
          by_cases h4 : a = 4
          · rw [if_pos h4, if_pos h4]
          · rw [if_neg h4, if_neg h4]
            rw [if_pos (by (try simp only [ByteArray.size_append, YtlpcpkgdojpleaaDoorW.Mem.bsz, List.size_toArray, List.length_cons, List.length_nil]); omega)]
theorem actOk_kind {a b c d : Int} (h : actOkF a b c d = true) : a = 1 ∨ a = 2 ∨ a = 3 ∨ a = 4 ∨ a = 5 := by
  unfold actOkF at h
  by_cases h1 : a = 1
  · omega
  · by_cases h2 : a = 2 ∨ a = 4
    · omega
    · by_cases h3 : a = 3
      · omega
      · by_cases h5 : a = 5
        · omega
        · simp [h1, h2, h3, h5] at h
theorem actF_spec (a b c d : Int) (k : Nat) (hk : 21 ≤ k) (hb : (Lit.int .i64 b).wf = true) (hc : (Lit.int .i64 c).wf = true) (hd : (Lit.int .i64 d).wf = true) : spec_FormatAct.f k a b c d = some (actF a b c d) := by
  have wb := Go.bounds_i64 hb
  have wc := Go.bounds_i64 hc
  have wd := Go.bounds_i64 hd
  have sb := tx_size b wb.1 wb.2
  have sc := tx_size c wc.1 wc.2
  have sd := tx_size d wd.1 wd.2
  have fb : spec_FormatInt.f k b = some (tx b) := formatInt b wb.1 wb.2 k hk
  have fc : spec_FormatInt.f k c = some (tx c) := formatInt c wc.1 wc.2 k hk
  have fd : spec_FormatInt.f k d = some (tx d) := formatInt d wd.1 wd.2 k hk
  unfold spec_FormatAct.f actF
  rw [show k = (k - 1) + 1 by omega, actOk_spec, ← show k = (k - 1) + 1 by omega]
  simp only [Option.bind_some, fb, fc, fd]
  cases hok : actOkF a b c d
  · rfl
  · rw [if_pos rfl, if_pos rfl]
    rcases actOk_kind hok with rfl | rfl | rfl | rfl | rfl
    · have e : rdOf ByteArray.empty [(⟨#[]⟩ : ByteArray), (⟨#[97, 100, 100]⟩ : ByteArray), (⟨#[116, 97, 107, 101]⟩ : ByteArray), (⟨#[108, 105, 110, 101]⟩ : ByteArray), (⟨#[102, 105, 110, 105, 115, 104]⟩ : ByteArray), (⟨#[114, 101, 108, 101, 97, 115, 101]⟩ : ByteArray)] 1 = (⟨#[97, 100, 100]⟩ : ByteArray) := rfl
      have e2 : (⟨#[97, 100, 100]⟩ : ByteArray) ++ (⟨#[32]⟩ : ByteArray) = (⟨#[97, 100, 100, 32]⟩ : ByteArray) := rfl
      rw [if_pos (by omega), if_pos (by simp), if_pos rfl, if_pos rfl, e, e2]
      repeat rw [if_pos (by (try simp only [ByteArray.size_append, YtlpcpkgdojpleaaDoorW.Mem.bsz, List.size_toArray, List.length_cons, List.length_nil]); omega)]
    · rfl
    · have e : rdOf ByteArray.empty [(⟨#[]⟩ : ByteArray), (⟨#[97, 100, 100]⟩ : ByteArray), (⟨#[116, 97, 107, 101]⟩ : ByteArray), (⟨#[108, 105, 110, 101]⟩ : ByteArray), (⟨#[102, 105, 110, 105, 115, 104]⟩ : ByteArray), (⟨#[114, 101, 108, 101, 97, 115, 101]⟩ : ByteArray)] 3 = (⟨#[108, 105, 110, 101]⟩ : ByteArray) := rfl
      have e2 : (⟨#[108, 105, 110, 101]⟩ : ByteArray) ++ (⟨#[32]⟩ : ByteArray) = (⟨#[108, 105, 110, 101, 32]⟩ : ByteArray) := rfl
      rw [if_pos (by omega), if_pos (by simp), e, e2]
      simp only [reduceIte, Int.reduceEq]
      repeat rw [if_pos (by (try simp only [ByteArray.size_append, YtlpcpkgdojpleaaDoorW.Mem.bsz, List.size_toArray, List.length_cons, List.length_nil]); omega)]
    · rfl
    · have e : rdOf ByteArray.empty [(⟨#[]⟩ : ByteArray), (⟨#[97, 100, 100]⟩ : ByteArray), (⟨#[116, 97, 107, 101]⟩ : ByteArray), (⟨#[108, 105, 110, 101]⟩ : ByteArray), (⟨#[102, 105, 110, 105, 115, 104]⟩ : ByteArray), (⟨#[114, 101, 108, 101, 97, 115, 101]⟩ : ByteArray)] 5 = (⟨#[114, 101, 108, 101, 97, 115, 101]⟩ : ByteArray) := rfl
      have e2 : (⟨#[114, 101, 108, 101, 97, 115, 101]⟩ : ByteArray) ++ (⟨#[32]⟩ : ByteArray) = (⟨#[114, 101, 108, 101, 97, 115, 101, 32]⟩ : ByteArray) := rfl
      rw [if_pos (by omega), if_pos (by simp), e, e2]
      simp only [reduceIte, Int.reduceEq]
      repeat rw [if_pos (by (try simp only [ByteArray.size_append, YtlpcpkgdojpleaaDoorW.Mem.bsz, List.size_toArray, List.length_cons, List.length_nil]); omega)]
theorem actF_size (a b c d : Int) (hb : (Lit.int .i64 b).wf = true) (hc : (Lit.int .i64 c).wf = true) (hd : (Lit.int .i64 d).wf = true) : (actF a b c d).1.size ≤ 100 := by
  have wb := Go.bounds_i64 hb
  have wc := Go.bounds_i64 hc
  have wd := Go.bounds_i64 hd
  have sb := tx_size b wb.1 wb.2
  have sc := tx_size c wc.1 wc.2
  have sd := tx_size d wd.1 wd.2
  unfold actF
  (repeat' split) <;> ((try simp only [ByteArray.size_append, YtlpcpkgdojpleaaDoorW.Mem.bsz, List.size_toArray, List.length_cons, List.length_nil]); omega)
end Go.Proofs.YtlpcpkgdojpleaaDoor.Pure
