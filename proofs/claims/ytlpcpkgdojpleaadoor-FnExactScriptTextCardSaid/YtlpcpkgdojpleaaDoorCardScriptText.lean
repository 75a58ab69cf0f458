/- FnExactScriptText's card holds: for every list of acts the law returns true and the acts read as they did. Conditions: none beyond the given card's own (the tables of strconv and math/bits, tied to the program's text). -/
import Derived.Test.YtlpcpkgdojpleaaDoorLawScriptText
import Derived.Test.YtlpcpkgdojpleaaDoorPureScript
import Derived.Test.YtlpcpkgdojpleaaDoorTie
import Derived.Test.YtlpcpkgdojpleaaDoorCards
import Derived.SevenTiedAt
namespace Go.Proofs.YtlpcpkgdojpleaaDoor.fnExactScriptText
open Go
theorem card (P : Pure) : Rows.FnExactScriptTextCardSaid :=
  Claim7.holds_tied_plain_at .later [] [.data, .data, .data] true (true, "6b628acae98fc810bf979e52557f06bd317c9410c5a428e655e5ed0cd639c312") false
    (over P) (fun _ h => by cases h) (by kernel_rfl) (fun _ h => by cases h) fnExactScriptText_row_tie rfl ⟨rfl, rfl⟩ (by kernel_rfl) rfl
    (fun f fn hf hfn => by
      obtain rfl : f = 3 := Option.some.inj ((show Tryd.prog.funcNamed "loop.example/g00987/laws.FnExactScriptText" = some 3 by kernel_rfl).symm.trans hf) |>.symm
      obtain rfl : fn = Tryd.f3 := (Option.some.inj (Tryd.func3.symm.trans hfn)).symm
      exact ⟨by kernel_rfl, fun j t ht => by
        rw [Tryd.params3] at ht
        have hm : t ∈ [22] := by simpa using Array.mem_of_getElem? ht
        have hall : ([22].all fun u => !Tryd.prog.wantsStandIn u) = true := by kernel_rfl
        exact (show Tryd.prog.wantsStandIn t = false by simpa using List.all_eq_true.1 hall t hm)⟩)
    (by kernel_rfl)
end Go.Proofs.YtlpcpkgdojpleaaDoor.fnExactScriptText
namespace Go.Proofs.YtlpcpkgdojpleaaDoor
theorem fnExactScriptText_card : Rows.FnExactScriptTextCardSaid := fnExactScriptText.card Pure.scriptText
#print axioms fnExactScriptText_card
end Go.Proofs.YtlpcpkgdojpleaaDoor
