/- The law FlowHolds. -/
import Derived.Test.YtcglkefaopgjeaaDoorF2
import Derived.BigQuiet
import Derived.Test.YtcglkefaopgjeaaDoorA0
namespace Go.Proofs.YtcglkefaopgjeaaDoor
set_option linter.unusedSimpArgs false
set_option linter.unusedVariables false
open Go.RowKit

theorem and_pos (f : Int) (b : Int) (h0 : 0 ≤ f) (h1 : f ≤ 65535) (hb0 : 0 ≤ b) (hb1 : b ≤ 65535) : decide (0 < bits .and .u16 f b) = fl f b := by
  unfold fl
  rw [u16_and f b (by omega) (by omega) (by omega) (by omega)]
  generalize f.toNat &&& b.toNat = x
  by_cases h : x = 0
  · subst h; rfl
  · rw [decide_eq_true (show (0 : Int) < (x : Int) by omega)]
    symm
    rw [bne_iff_ne]
    omega

set_option maxRecDepth 100000 in
set_option maxHeartbeats 6400000 in
theorem flowHolds_any (name f : Int) (w : World) (h0 : 0 ≤ f) (h1 : f ≤ 65535) (hn0 : -9223372036854775808 ≤ name) (hn1 : name ≤ 9223372036854775807) (nn : Nat) (hnn : bits .and .i64 name 15 = (nn : Int)) (hn16 : nn < 16) :
    Calls Tryd.prog 3 #[.int .i64 name, .int .u16 f] w fun e w' => e = .returned (.bool true) ∧ Below w.heap.size w w' := by
  have hcase : (17 ≤ name ∧ name ≤ 32) ∨ (name < 17 ∨ (17 ≤ name ∧ 32 < name)) := by omega
  have hcout : (name < 17 ∨ (17 ≤ name ∧ 32 < name)) → holdsB name f = false := fun h => holdsB_out name f (by omega)
  have e1 := and_pos f 1 h0 h1 (by decide) (by decide)
  have e2 := and_pos f 64 h0 h1 (by decide) (by decide)
  have e3 := and_pos f 128 h0 h1 (by decide) (by decide)
  have e4 := and_pos f 2048 h0 h1 (by decide) (by decide)
  have e5 := and_pos f 4 h0 h1 (by decide) (by decide)
  go_enter Tryd.func3, Tryd.ntmps3
  go_upto_region 2 with fail
  go_cut [5, 6, 10] (fun _ _ s10 wx => ∃ k : Nat, s10 = .slice (some ⟨k, 0, none⟩) 16 16 ∧ (∀ j : Nat, j < 16 → wx.cell? ⟨k, j, none⟩ = some (.bool (holdsB (17 + j) f))) ∧ Below w.heap.size w wx)
  case first =>
    cases hc : fl f 1 <;> cases hz : fl f 64
    all_goals go_wp2_with fail
    all_goals
      go_meet
      refine ⟨_, rfl, ?_, by (repeat (first | exact Below.refl _ _ | assumption | refine Below.setCell ?_ (by simp) _ | refine Below.alloc ?_ (by simp <;> omega) _ | refine Below.drew ?_ | refine Below.drewN ?_ | refine Below.setRow ?_ (by simp <;> omega) _))⟩
      intro j hj
      rw [(Row.new _ _ _).cell]
      have hj16 : j = 0 ∨ j = 1 ∨ j = 2 ∨ j = 3 ∨ j = 4 ∨ j = 5 ∨ j = 6 ∨ j = 7 ∨ j = 8 ∨ j = 9 ∨ j = 10 ∨ j = 11 ∨ j = 12 ∨ j = 13 ∨ j = 14 ∨ j = 15 := by omega
      rcases hj16 with rfl | rfl | rfl | rfl | rfl | rfl | rfl | rfl | rfl | rfl | rfl | rfl | rfl | rfl | rfl | rfl <;> simp [holdsB, less, hc, hz, bne]
  case rest =>
    obtain ⟨k, rfl, hcell, hb⟩ := hcut
    have bn1 : -9223372036854775808 ≤ 17 + (nn : Int) := by omega
    have bn2 : 17 + (nn : Int) ≤ 9223372036854775807 := by omega
    have hv1 := fun w' => holds_any (17 + (nn : Int)) f w' bn1 bn2
    have cn := hcell nn hn16
    generalize holdsB (17 + (nn : Int)) f = b1 at cn hv1
    have HN1 := Lib.hid hv1
    have hi0 : (0 : Int) ≤ (nn : Int) := by omega
    have hi1 : (nn : Int) < 16 := by omega
    have hw1 : IntKind.i64.wrap (17 + (nn : Int)) = 17 + (nn : Int) := IntWalk.i64_in _ (by omega)
    have HC := Lib.hid hcell
    clear e1 e2 e3 e4 e5 hcell hv1 bn1 bn2
    rcases hcase with hin | hlt
    · obtain ⟨mm, rfl⟩ : ∃ mm : Nat, name = 17 + mm := ⟨(name - 17).toNat, by omega⟩
      have hm16 : mm < 16 := by omega
      have cm := HC.out mm hm16
      have hv2 := fun w' => holds_any (17 + (mm : Int)) f w' hn0 hn1
      generalize holdsB (17 + (mm : Int)) f = b2 at cm hv2
      have HN2 := Lib.hid hv2
      have g0 : (17 : Int) ≤ 17 + (mm : Int) := by omega
      have g1 : 17 + (mm : Int) ≤ 32 := by omega
      have g2 : (mm : Int) < 16 := by omega
      clear hv2 hin hn0 hn1 hcout
      go_wp2_with fail
      clear g0 g1 g2
      cases b1 <;> cases b2
      all_goals
        refine range_of wc ?_
        intro S inst ω hin hout
        have cr := range_cell hin cn
        have k1 := range_call hin hout awake_any
        have k2 := range_call hin hout HN1.out
        have k3 := range_call hin hout HN2.out
        refine wp_region_range_lit ω (by kernel_rfl) (by kernel_rfl) (hout _ (Below.refl _ _).drew) ?_
        clear cm cn
        repeat (go_big_quiet_step (first | (with_reducible exact k1 _) | (with_reducible exact k2 _) | (with_reducible exact k3 _)))
        refine wpQuiet_nil ?_
        intro _ hw'
        obtain ⟨nq, rfl⟩ := hw'
        go_wp2_with fail
        go_ret
        exact ⟨rfl, hb.trans ((hin nq).mono hb.size)⟩
    · have ho := hcout hlt
      have hv2 := fun w' => holds_any name f w' hn0 hn1
      rw [ho] at hv2
      have HN2 := Lib.hid hv2
      clear hv2
      clear hn0 hn1 hcout
      have hlt' : decide (17 ≤ name) = false ∨ ((17 ≤ name) ∧ decide (name ≤ 32) = false) := hlt.elim (fun h => Or.inl (decide_eq_false (by omega))) (fun h => Or.inr ⟨h.1, decide_eq_false (by omega)⟩)
      clear hlt
      rcases hlt' with hl | ⟨hl, hr⟩
      all_goals go_wp2_with fail
      all_goals cases b1
      all_goals
        refine range_of wc ?_
        intro S inst ω hin hout
        have cr := range_cell hin cn
        have k1 := range_call hin hout awake_any
        have k2 := range_call hin hout HN1.out
        have k3 := range_call hin hout HN2.out
        refine wp_region_range_lit ω (by kernel_rfl) (by kernel_rfl) (hout _ (Below.refl _ _).drew) ?_
        clear cn
        repeat (go_big_quiet_step (first | (with_reducible exact k1 _) | (with_reducible exact k2 _) | (with_reducible exact k3 _)))
        refine wpQuiet_nil ?_
        intro _ hw'
        obtain ⟨nq, rfl⟩ := hw'
        go_wp2_with fail
        go_ret
        exact ⟨rfl, hb.trans ((hin nq).mono hb.size)⟩
end Go.Proofs.YtcglkefaopgjeaaDoor
