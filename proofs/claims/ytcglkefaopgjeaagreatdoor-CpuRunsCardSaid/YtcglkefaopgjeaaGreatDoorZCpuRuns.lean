/- CpuRuns, the tied card: the law's row holds, and its listed variable hansom/addr.bases is tied to the program's text; conditions: those of the row. -/
import Derived.Test.YtcglkefaopgjeaaGreatDoorYCpuRuns
import Derived.Test.YtcglkefaopgjeaaGreatDoorTie
import Derived.Test.YtcglkefaopgjeaaGreatDoorCards
import Derived.SevenTiedAt
namespace Go.Proofs.YtcglkefaopgjeaaGreatDoor.cpuRuns
set_option linter.unusedSimpArgs false
set_option linter.unusedVariables false
open Go
theorem card_holds : Rows.CpuRunsCardSaid :=
  Claim7.holds_tied_plain_at .later [] [.data] true Rows.cpuRunsCard.stood.harness true
    row_holds (fun _ h => by cases h) (by kernel_rfl) (fun _ h => by cases h) cpuRuns_row_tie rfl ⟨rfl, rfl⟩ (by kernel_rfl) rfl
    (fun f fn hf hfn => by
      obtain rfl : f = 10 := Option.some.inj ((show Tryz.prog.funcNamed "hansom/hansomlaw16.CpuRuns" = some 10 by kernel_rfl).symm.trans hf) |>.symm
      obtain rfl : fn = Tryz.f10 := (Option.some.inj (Tryz.func10.symm.trans hfn)).symm
      exact ⟨by kernel_rfl, fun j t ht => by
        rw [Tryz.params10] at ht
        have hm : t ∈ [28, 3, 3] := by simpa using Array.mem_of_getElem? ht
        have hall : ([28, 3, 3].all fun u => !Tryz.prog.wantsStandIn u) = true := by kernel_rfl
        exact (show Tryz.prog.wantsStandIn t = false by simpa using List.all_eq_true.1 hall t hm)⟩)
    (by kernel_rfl)
#print axioms card_holds
end Go.Proofs.YtcglkefaopgjeaaGreatDoor.cpuRuns
