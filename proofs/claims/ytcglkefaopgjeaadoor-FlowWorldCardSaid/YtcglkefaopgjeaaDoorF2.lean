/- awake. -/
import Derived.Test.YtcglkefaopgjeaaDoorF1
namespace Go.Proofs.YtcglkefaopgjeaaDoor
set_option linter.unusedSimpArgs false
set_option linter.unusedVariables false
open Go.RowKit

theorem fresh_own {w w1 w2 : World} {C : Phys} {lv lv1 : Value} (hb : Below w.heap.size w w1) (hf : Acc C lv w1 lv1 w2) (hn : ∀ k, k < w.heap.size → ¬ C.own lv k) : Below w.heap.size w w2 :=
  ⟨hf.f.os.trans hb.os, hf.f.tape.trans hb.tape, hf.f.output.trans hb.output, Nat.le_trans hb.size hf.f.size, fun k hk => (hf.f.block k (Nat.lt_of_lt_of_le hk hb.size) (hn k hk)).trans (hb.block k hk)⟩

set_option maxRecDepth 100000 in
set_option maxHeartbeats 1600000 in
theorem awake_any (w : World) : Calls Tryd.prog 8 #[] w fun e w' => e = .returned (.bool true) ∧ Below w.heap.size w w' := by
  go_enter Tryd.func8, Tryd.ntmps8
  go_wp2_with fail
  refine (begin_any _ zeroR zeroR_wf).mono ?_
  rintro e w1 ⟨C, lv, rfl, ho, hb, hn⟩; dsimp only
  have HO1 := Lib.hid ho
  have HB1 := Lib.hid hb
  have HN := Lib.hid hn
  clear ho hb hn
  go_wp2_with fail
  refine (do_jmp _ _ _ _ HO1.out ⟨false, 0, 0, 235, 0, 0, 0, 0, 0, 0⟩ ⟨80, 9, 0, false⟩ 5 zV rfl rfl).mono ?_
  rintro e w2 ⟨rfl, lv2, h2, f2, k2⟩; dsimp only
  have HO2 := Lib.hid h2
  have HB2 := Lib.hid (fresh_own HB1.out ⟨f2, k2⟩ HN.out)
  have c24 : w2.cell? ⟨C.b, 24, none⟩ = some (.int .u16 5) := h2.row.cell 24
  clear h2 f2 k2
  have e17 : holdsB 17 2048 = true := by decide
  have e18 : holdsB 18 2048 = false := by decide
  go_wp2_with (first | (go_at_call_of 9 (Value.int IntKind.i64 17); refine (holds_any _ _ _ (by decide) (by decide)).mono ?_; rw [e17]; rintro e w3 ⟨rfl, hb⟩; have HB3 := Lib.hid (HB2.out.trans (hb.mono HB2.out.size)); clear hb) | (go_at_call 9; refine (holds_any _ _ _ (by decide) (by decide)).mono ?_; rw [e18]; rintro e w4 ⟨rfl, hb⟩; have HB4 := Lib.hid (HB3.out.trans (hb.mono HB3.out.size)); clear hb) | (go_at_call_of 15 (Value.int IntKind.i64 32); refine (is_jg _).mono ?_; rintro e w' ⟨rfl, rfl⟩) | (go_at_call 15; refine (is_mov _).mono ?_; rintro e w' ⟨rfl, rfl⟩))
  go_ret
  exact ⟨rfl, HB4.out⟩
end Go.Proofs.YtcglkefaopgjeaaDoor
