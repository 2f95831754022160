/- What a call of the world comes to: plain laws of the machine that the law's own begin makes. -/
import Derived.Test.YtcglkefaopgjeaaDoorED
import Derived.Test.YtcglkefaopgjeaaDoorG3
namespace Go.Proofs.YtcglkefaopgjeaaDoor
set_option linter.unusedSimpArgs false
set_option linter.unusedVariables false
open Go.RowKit

def worldX (r : Regs) (t : Bool) : Regs := { beginR r with g3 := ⟨r.g3.v, t⟩ }
def asked (r : Regs) (t : Bool) : Mach := { begun r with r := worldX r t }
theorem worldX_wf {r : Regs} (h : r.wf) (t : Bool) : (worldX r t).wf := { beginR_wf h with g3 := h.g3 }
theorem asked_rs (r : Regs) (t : Bool) : ∀ j, 0 ≤ nextV (asked r t).rs j ∧ nextV (asked r t).rs j ≤ 65535 := by
  intro j
  show 0 ≤ nextV [77] j ∧ nextV [77] j ≤ 65535
  unfold nextV
  split
  · rename_i h
    have : j = 0 := by simpa using h
    subst this
    decide
  · decide
theorem asked_stuck (r : Regs) (n : Int) : ((asked r true).call n).ev = [] ∧ ((asked r true).call n).state = 2 := ⟨rfl, rfl⟩
theorem asked_plains (r : Regs) : (asked r false).plains 4 = asked r false := rfl
theorem asked_says (r : Regs) (n : Int) :
    ((asked r false).call n).ev = [⟨3, n, if endsInt n r.g0.v then r.g0.v else 77, r.g0.v, r.g3.v, r.g1.v, r.g2.v⟩] ∧ ((asked r false).call n).r.g0.v = (if endsInt n r.g0.v then r.g0.v else 77) ∧ ((asked r false).call n).state = if endsInt n r.g0.v then 1 else 0 := by
  have e : (asked r false).r.g0.v = r.g0.v := rfl
  unfold Mach.call
  rw [asked_plains, if_neg (show ¬ (asked r false).state ≠ 0 from fun h => h rfl)]
  dsimp only
  rw [e]
  cases h : endsInt n r.g0.v with
  | false =>
    have hv : intV (asked r false).rs (asked r false).at_ n r.g0.v = 77 := by unfold intV; rw [h]; rfl
    refine ⟨?_, ?_, rfl⟩
    · show noteL [] _ = _
      rw [hv]; rfl
    · show intV (asked r false).rs (asked r false).at_ n r.g0.v = _
      rw [hv]; rfl
  | true =>
    have hv : intV (asked r false).rs (asked r false).at_ n r.g0.v = r.g0.v := by unfold intV; rw [h]; rfl
    refine ⟨?_, ?_, rfl⟩
    · show noteL [] _ = _
      rw [hv]; rfl
    · show intV (asked r false).rs (asked r false).at_ n r.g0.v = _
      rw [hv]; rfl
end Go.Proofs.YtcglkefaopgjeaaDoor
