-- By the session's own program (wip/tools), out of the translation. Not trusted: Lean checks it.
import Derived.Test.YtlpcpkgdojpleaaDoorXS0
namespace Go.Proofs.YtlpcpkgdojpleaaDoor.XS
open Go.RowKit Go.Proofs.YtlpcpkgdojpleaaDoorW.PrintWords Go.Proofs.YtlpcpkgdojpleaaDoorW.PrintLast Go.Proofs.YtlpcpkgdojpleaaDoorW.PrintMore Go.Proofs.YtlpcpkgdojpleaaDoorW.Mem
attribute [local go_sem] max2_int min2_int max_two min_two max_three min_three max_four min_four puts List.set_cons_zero List.set_cons_succ Value.cells List.take_succ_cons List.take_zero List.drop_succ_cons List.drop_zero List.cons_append List.nil_append   -- for this text's walks alone
set_option linter.unusedVariables false
set_option linter.unusedSimpArgs false

/-! ### impl_FormatInt: function 17 -/
def impl_FormatInt.f (a0 : Int) : Option (ByteArray) := if -9223372036854775808 ≤ a0 ∧ a0 ≤ 9223372036854775807 then some (⟨(Go.Lib.itoa a0).toArray⟩ : ByteArray) else none
set_option maxHeartbeats 8000000 in
set_option maxRecDepth 100000 in
theorem impl_FormatInt.calls (a0 : Int) (r : ByteArray) (w : World) (h : impl_FormatInt.f a0 = some r) (hT : Go.Proofs.YtlpcpkgdojpleaaDoor.Text.TabW w := by first | assumption | exact Go.Proofs.YtlpcpkgdojpleaaDoor.Text.TabW.mem (by assumption) (by assumption)) :
    Calls Tryd.prog 17 #[.int .i64 a0] w fun e w' => e = .returned (.string r) ∧ Below w.heap.size w w' := by
  unfold impl_FormatInt.f at h
  split at h
  · rename_i hr
    cases h
    exact Go.Proofs.YtlpcpkgdojpleaaDoor.Text.formatInt a0 w hr.1 hr.2 hT
  · cases h

end Go.Proofs.YtlpcpkgdojpleaaDoor.XS
