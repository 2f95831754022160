/- FlowWorld, the tied card: the law's row holds, and its listed variable hansom/addr.bases is tied to the program's text; conditions: those of the row. -/
import Derived.Test.YtcglkefaopgjeaaDoorPA
import Derived.Test.YtcglkefaopgjeaaDoorTie
import Derived.Test.YtcglkefaopgjeaaDoorCards
import Derived.SevenTiedAt
namespace Go.Proofs.YtcglkefaopgjeaaDoor.flowWorld
set_option linter.unusedSimpArgs false
set_option linter.unusedVariables false
open Go
theorem card_holds : Rows.FlowWorldCardSaid :=
  Claim7.holds_tied_plain_at .later [] [.data] true Rows.flowWorldCard.stood.harness false
    row_holds (fun _ h => by cases h) (by kernel_rfl) (fun _ h => by cases h) flowWorld_row_tie rfl ⟨rfl, rfl⟩ (by kernel_rfl) rfl
    (fun f fn hf hfn => by
      obtain rfl : f = 7 := Option.some.inj ((show Tryd.prog.funcNamed "hansom/hansomlaw14.FlowWorld" = some 7 by kernel_rfl).symm.trans hf) |>.symm
      obtain rfl : fn = Tryd.f7 := (Option.some.inj (Tryd.func7.symm.trans hfn)).symm
      exact ⟨by kernel_rfl, fun j t ht => by
        rw [Tryd.params7] at ht
        have hm : t ∈ [31, 5, 3] := by simpa using Array.mem_of_getElem? ht
        have hall : ([31, 5, 3].all fun u => !Tryd.prog.wantsStandIn u) = true := by kernel_rfl
        exact (show Tryd.prog.wantsStandIn t = false by simpa using List.all_eq_true.1 hall t hm)⟩)
    (by kernel_rfl)
#print axioms card_holds
end Go.Proofs.YtcglkefaopgjeaaDoor.flowWorld
