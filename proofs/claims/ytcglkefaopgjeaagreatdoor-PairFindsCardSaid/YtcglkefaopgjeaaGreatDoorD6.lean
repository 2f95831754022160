/- Classes of worlds: what a walk wants to know in each of them. -/
import Derived.Test.YtcglkefaopgjeaaGreatDoorD1
import Derived.Test.YtcglkefaopgjeaaGreatDoorA0
namespace Go.Proofs.YtcglkefaopgjeaaGreatDoor
set_option linter.unusedSimpArgs false
set_option linter.unusedVariables false
open Go.RowKit

section
variable {S : Type} {ω : S → World} {wc : World}
theorem range_calls (hin : ∀ q, Below wc.heap.size wc (ω q)) (hout : ∀ w, Below wc.heap.size wc w → ∃ q, w = ω q) {f : FuncId} {args : Array Value} {v : Value}
    (h : ∀ w, Below wc.heap.size wc w → Calls Tryz.prog f args w fun e w' => e = .returned v ∧ Below w.heap.size w w') (q : S) : Calls Tryz.prog f args (ω q) fun e w'' => e = .returned v ∧ ∃ m, w'' = ω m :=
  (h (ω q) (hin q)).mono fun _ w' ⟨he, hb⟩ => ⟨he, hout w' ((hin q).trans (hb.mono (hin q).size))⟩
theorem range_regs (hin : ∀ q, Below wc.heap.size wc (ω q)) {k : Nat} {r : Regs} (h : regsIn wc k = some r.val) (q : S) : regsIn (ω q) k = some r.val := by
  unfold regsIn at h ⊢
  rw [(hin q).block k (by
    rcases Nat.lt_or_ge k wc.heap.size with hk | hk
    · exact hk
    · rw [Array.getElem?_eq_none hk] at h; simp at h)]
  exact h
end
section
variable {S : Type} {ω : S → World} {wc : World}
theorem range_row (hin : ∀ q, Below wc.heap.size wc (ω q)) {k : Nat} {cs : Array Value} {t : TypeId} (h : Row wc k cs t) (q : S) (j : Nat) : (ω q).cell? ⟨k, j, none⟩ = cs[j]? := (Below.row (hin q) h h.lt).cell j
theorem range_frozen (hin : ∀ q, Below wc.heap.size wc (ω q)) {k : Nat} {cs : Array Value} {t : TypeId} (h : Row wc k cs t) (q : S) (j : Nat) : (ω q).frozen? ⟨k, j, none⟩ = false := (Below.row (hin q) h h.lt).frozen j
end
end Go.Proofs.YtcglkefaopgjeaaGreatDoor
