/- Package isa, continued: moves, words, texts. -/
import Derived.Test.YtcglkefaopgjeaaGreatDoorH0
namespace Go.Proofs.YtcglkefaopgjeaaGreatDoor
set_option linter.unusedSimpArgs false
set_option linter.unusedVariables false
open Go.RowKit



set_option maxRecDepth 100000 in
set_option maxHeartbeats 8000000 in
theorem moves_any (op reg : Int) (w : World) (h0 : 128 ≤ op) (h1 : op < 144) (r0 : 0 ≤ reg) (r1 : reg ≤ 7) : Calls Tryz.prog 156 #[.int .u8 op, .int .i64 reg] w fun e w' => e = .returned (rowV (movesOf op reg)) ∧ Below w.heap.size w w' := by
  have hc : op = 128 ∨ op = 129 ∨ op = 130 ∨ op = 131 ∨ op = 132 ∨ op = 133 ∨ op = 134 ∨ op = 135 ∨ op = 136 ∨ op = 137 ∨ op = 138 ∨ op = 139 ∨ op = 140 ∨ op = 141 ∨ op = 142 ∨ op = 143 := by omega
  have hr : reg = 0 ∨ reg = 1 ∨ reg = 2 ∨ reg = 3 ∨ reg = 4 ∨ reg = 5 ∨ reg = 6 ∨ reg = 7 := by omega
  clear h0 h1
  rcases hc with rfl | rfl | rfl | rfl | rfl | rfl | rfl | rfl | rfl | rfl | rfl | rfl | rfl | rfl | rfl | rfl
  · clear hr
    go_enter Tryz.func156, Tryz.ntmps156
    go_wp2_with (first | (go_at_call 199; refine (isaMod_any _ _ _ _).mono ?_; rintro e w1 ⟨rfl, hb⟩; (first | (with_reducible have hx := hb_row2 hb) | (have hx := hb_row hb)); obtain ⟨hr, hb1⟩ := hx; have HB := Lib.hid hb1; have rc := hr.cell; have rf := hr.frozen; have rl := hr.lt; clear hb hb1 hr) | (go_at_call 154; refine (isaRow_any _ _ _ _).mono ?_; rintro e w1 ⟨rfl, hb⟩; (first | (with_reducible have hx := hb_row2 hb) | (have hx := hb_row hb)); obtain ⟨hr, hb1⟩ := hx; have HB := Lib.hid hb1; have rc := hr.cell; have rf := hr.frozen; have rl := hr.lt; clear hb hb1 hr) | (go_at_call 155; refine (isaBad_any _).mono ?_; rintro e w1 ⟨rfl, hb⟩; (first | (with_reducible have hx := hb_row2 hb) | (have hx := hb_row hb)); obtain ⟨hr, hb1⟩ := hx; have HB := Lib.hid hb1; have rc := hr.cell; have rf := hr.frozen; have rl := hr.lt; clear hb hb1 hr))
    refine bodyPost_ret (v := rowV _) (by simp [results, Tryz.results156, go_sem, movesOf, zRow, *]) rfl ⟨rfl, ?_⟩
    exact (((HB.out.setCell (Nat.le_refl _) _).setCell (Nat.le_refl _) _).setCell (Nat.le_refl _) _).setCell (Nat.le_refl _) _
  · clear hr
    go_enter Tryz.func156, Tryz.ntmps156
    go_wp2_with (first | (go_at_call 199; refine (isaMod_any _ _ _ _).mono ?_; rintro e w1 ⟨rfl, hb⟩; (first | (with_reducible have hx := hb_row2 hb) | (have hx := hb_row hb)); obtain ⟨hr, hb1⟩ := hx; have HB := Lib.hid hb1; have rc := hr.cell; have rf := hr.frozen; have rl := hr.lt; clear hb hb1 hr) | (go_at_call 154; refine (isaRow_any _ _ _ _).mono ?_; rintro e w1 ⟨rfl, hb⟩; (first | (with_reducible have hx := hb_row2 hb) | (have hx := hb_row hb)); obtain ⟨hr, hb1⟩ := hx; have HB := Lib.hid hb1; have rc := hr.cell; have rf := hr.frozen; have rl := hr.lt; clear hb hb1 hr) | (go_at_call 155; refine (isaBad_any _).mono ?_; rintro e w1 ⟨rfl, hb⟩; (first | (with_reducible have hx := hb_row2 hb) | (have hx := hb_row hb)); obtain ⟨hr, hb1⟩ := hx; have HB := Lib.hid hb1; have rc := hr.cell; have rf := hr.frozen; have rl := hr.lt; clear hb hb1 hr))
    refine bodyPost_ret (v := rowV _) (by simp [results, Tryz.results156, go_sem, movesOf, zRow, *]) rfl ⟨rfl, ?_⟩
    exact (((HB.out.setCell (Nat.le_refl _) _).setCell (Nat.le_refl _) _).setCell (Nat.le_refl _) _).setCell (Nat.le_refl _) _
  · clear hr
    go_enter Tryz.func156, Tryz.ntmps156
    go_wp2_with (first | (go_at_call 199; refine (isaMod_any _ _ _ _).mono ?_; rintro e w1 ⟨rfl, hb⟩; (first | (with_reducible have hx := hb_row2 hb) | (have hx := hb_row hb)); obtain ⟨hr, hb1⟩ := hx; have HB := Lib.hid hb1; have rc := hr.cell; have rf := hr.frozen; have rl := hr.lt; clear hb hb1 hr) | (go_at_call 154; refine (isaRow_any _ _ _ _).mono ?_; rintro e w1 ⟨rfl, hb⟩; (first | (with_reducible have hx := hb_row2 hb) | (have hx := hb_row hb)); obtain ⟨hr, hb1⟩ := hx; have HB := Lib.hid hb1; have rc := hr.cell; have rf := hr.frozen; have rl := hr.lt; clear hb hb1 hr) | (go_at_call 155; refine (isaBad_any _).mono ?_; rintro e w1 ⟨rfl, hb⟩; (first | (with_reducible have hx := hb_row2 hb) | (have hx := hb_row hb)); obtain ⟨hr, hb1⟩ := hx; have HB := Lib.hid hb1; have rc := hr.cell; have rf := hr.frozen; have rl := hr.lt; clear hb hb1 hr))
    refine bodyPost_ret (v := rowV _) (by simp [results, Tryz.results156, go_sem, movesOf, zRow, *]) rfl ⟨rfl, ?_⟩
    exact (((HB.out.setCell (Nat.le_refl _) _).setCell (Nat.le_refl _) _).setCell (Nat.le_refl _) _).setCell (Nat.le_refl _) _
  · clear r0 r1
    rcases hr with rfl | rfl | rfl | rfl | rfl | rfl | rfl | rfl
    all_goals
      go_enter Tryz.func156, Tryz.ntmps156
      go_wp2_with (first | (go_at_call 199; refine (isaMod_any _ _ _ _).mono ?_; rintro e w1 ⟨rfl, hb⟩; (first | (with_reducible have hx := hb_row2 hb) | (have hx := hb_row hb)); obtain ⟨hr, hb1⟩ := hx; have HB := Lib.hid hb1; have rc := hr.cell; have rf := hr.frozen; have rl := hr.lt; clear hb hb1 hr) | (go_at_call 154; refine (isaRow_any _ _ _ _).mono ?_; rintro e w1 ⟨rfl, hb⟩; (first | (with_reducible have hx := hb_row2 hb) | (have hx := hb_row hb)); obtain ⟨hr, hb1⟩ := hx; have HB := Lib.hid hb1; have rc := hr.cell; have rf := hr.frozen; have rl := hr.lt; clear hb hb1 hr) | (go_at_call 155; refine (isaBad_any _).mono ?_; rintro e w1 ⟨rfl, hb⟩; (first | (with_reducible have hx := hb_row2 hb) | (have hx := hb_row hb)); obtain ⟨hr, hb1⟩ := hx; have HB := Lib.hid hb1; have rc := hr.cell; have rf := hr.frozen; have rl := hr.lt; clear hb hb1 hr))
      refine bodyPost_ret (v := rowV _) (by simp [results, Tryz.results156, go_sem, movesOf, zRow, *]) rfl ⟨rfl, ?_⟩
      exact (((HB.out.setCell (Nat.le_refl _) _).setCell (Nat.le_refl _) _).setCell (Nat.le_refl _) _).setCell (Nat.le_refl _) _
  · clear hr
    go_enter Tryz.func156, Tryz.ntmps156
    go_wp2_with (first | (go_at_call 199; refine (isaMod_any _ _ _ _).mono ?_; rintro e w1 ⟨rfl, hb⟩; (first | (with_reducible have hx := hb_row2 hb) | (have hx := hb_row hb)); obtain ⟨hr, hb1⟩ := hx; have HB := Lib.hid hb1; have rc := hr.cell; have rf := hr.frozen; have rl := hr.lt; clear hb hb1 hr) | (go_at_call 154; refine (isaRow_any _ _ _ _).mono ?_; rintro e w1 ⟨rfl, hb⟩; (first | (with_reducible have hx := hb_row2 hb) | (have hx := hb_row hb)); obtain ⟨hr, hb1⟩ := hx; have HB := Lib.hid hb1; have rc := hr.cell; have rf := hr.frozen; have rl := hr.lt; clear hb hb1 hr) | (go_at_call 155; refine (isaBad_any _).mono ?_; rintro e w1 ⟨rfl, hb⟩; (first | (with_reducible have hx := hb_row2 hb) | (have hx := hb_row hb)); obtain ⟨hr, hb1⟩ := hx; have HB := Lib.hid hb1; have rc := hr.cell; have rf := hr.frozen; have rl := hr.lt; clear hb hb1 hr))
    refine bodyPost_ret (v := rowV _) (by simp [results, Tryz.results156, go_sem, movesOf, zRow, *]) rfl ⟨rfl, ?_⟩
    exact (((HB.out.setCell (Nat.le_refl _) _).setCell (Nat.le_refl _) _).setCell (Nat.le_refl _) _).setCell (Nat.le_refl _) _
  · clear hr
    go_enter Tryz.func156, Tryz.ntmps156
    go_wp2_with (first | (go_at_call 199; refine (isaMod_any _ _ _ _).mono ?_; rintro e w1 ⟨rfl, hb⟩; (first | (with_reducible have hx := hb_row2 hb) | (have hx := hb_row hb)); obtain ⟨hr, hb1⟩ := hx; have HB := Lib.hid hb1; have rc := hr.cell; have rf := hr.frozen; have rl := hr.lt; clear hb hb1 hr) | (go_at_call 154; refine (isaRow_any _ _ _ _).mono ?_; rintro e w1 ⟨rfl, hb⟩; (first | (with_reducible have hx := hb_row2 hb) | (have hx := hb_row hb)); obtain ⟨hr, hb1⟩ := hx; have HB := Lib.hid hb1; have rc := hr.cell; have rf := hr.frozen; have rl := hr.lt; clear hb hb1 hr) | (go_at_call 155; refine (isaBad_any _).mono ?_; rintro e w1 ⟨rfl, hb⟩; (first | (with_reducible have hx := hb_row2 hb) | (have hx := hb_row hb)); obtain ⟨hr, hb1⟩ := hx; have HB := Lib.hid hb1; have rc := hr.cell; have rf := hr.frozen; have rl := hr.lt; clear hb hb1 hr))
    refine bodyPost_ret (v := rowV _) (by simp [results, Tryz.results156, go_sem, movesOf, zRow, *]) rfl ⟨rfl, ?_⟩
    exact (((HB.out.setCell (Nat.le_refl _) _).setCell (Nat.le_refl _) _).setCell (Nat.le_refl _) _).setCell (Nat.le_refl _) _
  · clear hr
    go_enter Tryz.func156, Tryz.ntmps156
    go_wp2_with (first | (go_at_call 199; refine (isaMod_any _ _ _ _).mono ?_; rintro e w1 ⟨rfl, hb⟩; (first | (with_reducible have hx := hb_row2 hb) | (have hx := hb_row hb)); obtain ⟨hr, hb1⟩ := hx; have HB := Lib.hid hb1; have rc := hr.cell; have rf := hr.frozen; have rl := hr.lt; clear hb hb1 hr) | (go_at_call 154; refine (isaRow_any _ _ _ _).mono ?_; rintro e w1 ⟨rfl, hb⟩; (first | (with_reducible have hx := hb_row2 hb) | (have hx := hb_row hb)); obtain ⟨hr, hb1⟩ := hx; have HB := Lib.hid hb1; have rc := hr.cell; have rf := hr.frozen; have rl := hr.lt; clear hb hb1 hr) | (go_at_call 155; refine (isaBad_any _).mono ?_; rintro e w1 ⟨rfl, hb⟩; (first | (with_reducible have hx := hb_row2 hb) | (have hx := hb_row hb)); obtain ⟨hr, hb1⟩ := hx; have HB := Lib.hid hb1; have rc := hr.cell; have rf := hr.frozen; have rl := hr.lt; clear hb hb1 hr))
    refine bodyPost_ret (v := rowV _) (by simp [results, Tryz.results156, go_sem, movesOf, zRow, *]) rfl ⟨rfl, ?_⟩
    exact (((HB.out.setCell (Nat.le_refl _) _).setCell (Nat.le_refl _) _).setCell (Nat.le_refl _) _).setCell (Nat.le_refl _) _
  · clear hr
    go_enter Tryz.func156, Tryz.ntmps156
    go_wp2_with (first | (go_at_call 199; refine (isaMod_any _ _ _ _).mono ?_; rintro e w1 ⟨rfl, hb⟩; (first | (with_reducible have hx := hb_row2 hb) | (have hx := hb_row hb)); obtain ⟨hr, hb1⟩ := hx; have HB := Lib.hid hb1; have rc := hr.cell; have rf := hr.frozen; have rl := hr.lt; clear hb hb1 hr) | (go_at_call 154; refine (isaRow_any _ _ _ _).mono ?_; rintro e w1 ⟨rfl, hb⟩; (first | (with_reducible have hx := hb_row2 hb) | (have hx := hb_row hb)); obtain ⟨hr, hb1⟩ := hx; have HB := Lib.hid hb1; have rc := hr.cell; have rf := hr.frozen; have rl := hr.lt; clear hb hb1 hr) | (go_at_call 155; refine (isaBad_any _).mono ?_; rintro e w1 ⟨rfl, hb⟩; (first | (with_reducible have hx := hb_row2 hb) | (have hx := hb_row hb)); obtain ⟨hr, hb1⟩ := hx; have HB := Lib.hid hb1; have rc := hr.cell; have rf := hr.frozen; have rl := hr.lt; clear hb hb1 hr))
    refine bodyPost_ret (v := rowV _) (by simp [results, Tryz.results156, go_sem, movesOf, zRow, *]) rfl ⟨rfl, ?_⟩
    exact (((HB.out.setCell (Nat.le_refl _) _).setCell (Nat.le_refl _) _).setCell (Nat.le_refl _) _).setCell (Nat.le_refl _) _
  · clear hr
    go_enter Tryz.func156, Tryz.ntmps156
    go_wp2_with (first | (go_at_call 199; refine (isaMod_any _ _ _ _).mono ?_; rintro e w1 ⟨rfl, hb⟩; (first | (with_reducible have hx := hb_row2 hb) | (have hx := hb_row hb)); obtain ⟨hr, hb1⟩ := hx; have HB := Lib.hid hb1; have rc := hr.cell; have rf := hr.frozen; have rl := hr.lt; clear hb hb1 hr) | (go_at_call 154; refine (isaRow_any _ _ _ _).mono ?_; rintro e w1 ⟨rfl, hb⟩; (first | (with_reducible have hx := hb_row2 hb) | (have hx := hb_row hb)); obtain ⟨hr, hb1⟩ := hx; have HB := Lib.hid hb1; have rc := hr.cell; have rf := hr.frozen; have rl := hr.lt; clear hb hb1 hr) | (go_at_call 155; refine (isaBad_any _).mono ?_; rintro e w1 ⟨rfl, hb⟩; (first | (with_reducible have hx := hb_row2 hb) | (have hx := hb_row hb)); obtain ⟨hr, hb1⟩ := hx; have HB := Lib.hid hb1; have rc := hr.cell; have rf := hr.frozen; have rl := hr.lt; clear hb hb1 hr))
    refine bodyPost_ret (v := rowV _) (by simp [results, Tryz.results156, go_sem, movesOf, zRow, *]) rfl ⟨rfl, ?_⟩
    exact (((HB.out.setCell (Nat.le_refl _) _).setCell (Nat.le_refl _) _).setCell (Nat.le_refl _) _).setCell (Nat.le_refl _) _
  · clear hr
    go_enter Tryz.func156, Tryz.ntmps156
    go_wp2_with (first | (go_at_call 199; refine (isaMod_any _ _ _ _).mono ?_; rintro e w1 ⟨rfl, hb⟩; (first | (with_reducible have hx := hb_row2 hb) | (have hx := hb_row hb)); obtain ⟨hr, hb1⟩ := hx; have HB := Lib.hid hb1; have rc := hr.cell; have rf := hr.frozen; have rl := hr.lt; clear hb hb1 hr) | (go_at_call 154; refine (isaRow_any _ _ _ _).mono ?_; rintro e w1 ⟨rfl, hb⟩; (first | (with_reducible have hx := hb_row2 hb) | (have hx := hb_row hb)); obtain ⟨hr, hb1⟩ := hx; have HB := Lib.hid hb1; have rc := hr.cell; have rf := hr.frozen; have rl := hr.lt; clear hb hb1 hr) | (go_at_call 155; refine (isaBad_any _).mono ?_; rintro e w1 ⟨rfl, hb⟩; (first | (with_reducible have hx := hb_row2 hb) | (have hx := hb_row hb)); obtain ⟨hr, hb1⟩ := hx; have HB := Lib.hid hb1; have rc := hr.cell; have rf := hr.frozen; have rl := hr.lt; clear hb hb1 hr))
    refine bodyPost_ret (v := rowV _) (by simp [results, Tryz.results156, go_sem, movesOf, zRow, *]) rfl ⟨rfl, ?_⟩
    exact (((HB.out.setCell (Nat.le_refl _) _).setCell (Nat.le_refl _) _).setCell (Nat.le_refl _) _).setCell (Nat.le_refl _) _
  · clear hr
    go_enter Tryz.func156, Tryz.ntmps156
    go_wp2_with (first | (go_at_call 199; refine (isaMod_any _ _ _ _).mono ?_; rintro e w1 ⟨rfl, hb⟩; (first | (with_reducible have hx := hb_row2 hb) | (have hx := hb_row hb)); obtain ⟨hr, hb1⟩ := hx; have HB := Lib.hid hb1; have rc := hr.cell; have rf := hr.frozen; have rl := hr.lt; clear hb hb1 hr) | (go_at_call 154; refine (isaRow_any _ _ _ _).mono ?_; rintro e w1 ⟨rfl, hb⟩; (first | (with_reducible have hx := hb_row2 hb) | (have hx := hb_row hb)); obtain ⟨hr, hb1⟩ := hx; have HB := Lib.hid hb1; have rc := hr.cell; have rf := hr.frozen; have rl := hr.lt; clear hb hb1 hr) | (go_at_call 155; refine (isaBad_any _).mono ?_; rintro e w1 ⟨rfl, hb⟩; (first | (with_reducible have hx := hb_row2 hb) | (have hx := hb_row hb)); obtain ⟨hr, hb1⟩ := hx; have HB := Lib.hid hb1; have rc := hr.cell; have rf := hr.frozen; have rl := hr.lt; clear hb hb1 hr))
    refine bodyPost_ret (v := rowV _) (by simp [results, Tryz.results156, go_sem, movesOf, zRow, *]) rfl ⟨rfl, ?_⟩
    exact (((HB.out.setCell (Nat.le_refl _) _).setCell (Nat.le_refl _) _).setCell (Nat.le_refl _) _).setCell (Nat.le_refl _) _
  · clear hr
    go_enter Tryz.func156, Tryz.ntmps156
    go_wp2_with (first | (go_at_call 199; refine (isaMod_any _ _ _ _).mono ?_; rintro e w1 ⟨rfl, hb⟩; (first | (with_reducible have hx := hb_row2 hb) | (have hx := hb_row hb)); obtain ⟨hr, hb1⟩ := hx; have HB := Lib.hid hb1; have rc := hr.cell; have rf := hr.frozen; have rl := hr.lt; clear hb hb1 hr) | (go_at_call 154; refine (isaRow_any _ _ _ _).mono ?_; rintro e w1 ⟨rfl, hb⟩; (first | (with_reducible have hx := hb_row2 hb) | (have hx := hb_row hb)); obtain ⟨hr, hb1⟩ := hx; have HB := Lib.hid hb1; have rc := hr.cell; have rf := hr.frozen; have rl := hr.lt; clear hb hb1 hr) | (go_at_call 155; refine (isaBad_any _).mono ?_; rintro e w1 ⟨rfl, hb⟩; (first | (with_reducible have hx := hb_row2 hb) | (have hx := hb_row hb)); obtain ⟨hr, hb1⟩ := hx; have HB := Lib.hid hb1; have rc := hr.cell; have rf := hr.frozen; have rl := hr.lt; clear hb hb1 hr))
    refine bodyPost_ret (v := rowV _) (by simp [results, Tryz.results156, go_sem, movesOf, zRow, *]) rfl ⟨rfl, ?_⟩
    exact (((HB.out.setCell (Nat.le_refl _) _).setCell (Nat.le_refl _) _).setCell (Nat.le_refl _) _).setCell (Nat.le_refl _) _
  · clear r0 r1
    rcases hr with rfl | rfl | rfl | rfl | rfl | rfl | rfl | rfl
    all_goals
      go_enter Tryz.func156, Tryz.ntmps156
      go_wp2_with (first | (go_at_call 199; refine (isaMod_any _ _ _ _).mono ?_; rintro e w1 ⟨rfl, hb⟩; (first | (with_reducible have hx := hb_row2 hb) | (have hx := hb_row hb)); obtain ⟨hr, hb1⟩ := hx; have HB := Lib.hid hb1; have rc := hr.cell; have rf := hr.frozen; have rl := hr.lt; clear hb hb1 hr) | (go_at_call 154; refine (isaRow_any _ _ _ _).mono ?_; rintro e w1 ⟨rfl, hb⟩; (first | (with_reducible have hx := hb_row2 hb) | (have hx := hb_row hb)); obtain ⟨hr, hb1⟩ := hx; have HB := Lib.hid hb1; have rc := hr.cell; have rf := hr.frozen; have rl := hr.lt; clear hb hb1 hr) | (go_at_call 155; refine (isaBad_any _).mono ?_; rintro e w1 ⟨rfl, hb⟩; (first | (with_reducible have hx := hb_row2 hb) | (have hx := hb_row hb)); obtain ⟨hr, hb1⟩ := hx; have HB := Lib.hid hb1; have rc := hr.cell; have rf := hr.frozen; have rl := hr.lt; clear hb hb1 hr))
      refine bodyPost_ret (v := rowV _) (by simp [results, Tryz.results156, go_sem, movesOf, zRow, *]) rfl ⟨rfl, ?_⟩
      exact (((HB.out.setCell (Nat.le_refl _) _).setCell (Nat.le_refl _) _).setCell (Nat.le_refl _) _).setCell (Nat.le_refl _) _
  · clear hr
    go_enter Tryz.func156, Tryz.ntmps156
    go_wp2_with (first | (go_at_call 199; refine (isaMod_any _ _ _ _).mono ?_; rintro e w1 ⟨rfl, hb⟩; (first | (with_reducible have hx := hb_row2 hb) | (have hx := hb_row hb)); obtain ⟨hr, hb1⟩ := hx; have HB := Lib.hid hb1; have rc := hr.cell; have rf := hr.frozen; have rl := hr.lt; clear hb hb1 hr) | (go_at_call 154; refine (isaRow_any _ _ _ _).mono ?_; rintro e w1 ⟨rfl, hb⟩; (first | (with_reducible have hx := hb_row2 hb) | (have hx := hb_row hb)); obtain ⟨hr, hb1⟩ := hx; have HB := Lib.hid hb1; have rc := hr.cell; have rf := hr.frozen; have rl := hr.lt; clear hb hb1 hr) | (go_at_call 155; refine (isaBad_any _).mono ?_; rintro e w1 ⟨rfl, hb⟩; (first | (with_reducible have hx := hb_row2 hb) | (have hx := hb_row hb)); obtain ⟨hr, hb1⟩ := hx; have HB := Lib.hid hb1; have rc := hr.cell; have rf := hr.frozen; have rl := hr.lt; clear hb hb1 hr))
    refine bodyPost_ret (v := rowV _) (by simp [results, Tryz.results156, go_sem, movesOf, zRow, *]) rfl ⟨rfl, ?_⟩
    exact (((HB.out.setCell (Nat.le_refl _) _).setCell (Nat.le_refl _) _).setCell (Nat.le_refl _) _).setCell (Nat.le_refl _) _
  · clear r0 r1
    rcases hr with rfl | rfl | rfl | rfl | rfl | rfl | rfl | rfl
    all_goals
      go_enter Tryz.func156, Tryz.ntmps156
      go_wp2_with (first | (go_at_call 199; refine (isaMod_any _ _ _ _).mono ?_; rintro e w1 ⟨rfl, hb⟩; (first | (with_reducible have hx := hb_row2 hb) | (have hx := hb_row hb)); obtain ⟨hr, hb1⟩ := hx; have HB := Lib.hid hb1; have rc := hr.cell; have rf := hr.frozen; have rl := hr.lt; clear hb hb1 hr) | (go_at_call 154; refine (isaRow_any _ _ _ _).mono ?_; rintro e w1 ⟨rfl, hb⟩; (first | (with_reducible have hx := hb_row2 hb) | (have hx := hb_row hb)); obtain ⟨hr, hb1⟩ := hx; have HB := Lib.hid hb1; have rc := hr.cell; have rf := hr.frozen; have rl := hr.lt; clear hb hb1 hr) | (go_at_call 155; refine (isaBad_any _).mono ?_; rintro e w1 ⟨rfl, hb⟩; (first | (with_reducible have hx := hb_row2 hb) | (have hx := hb_row hb)); obtain ⟨hr, hb1⟩ := hx; have HB := Lib.hid hb1; have rc := hr.cell; have rf := hr.frozen; have rl := hr.lt; clear hb hb1 hr))
      refine bodyPost_ret (v := rowV _) (by simp [results, Tryz.results156, go_sem, movesOf, zRow, *]) rfl ⟨rfl, ?_⟩
      exact (((HB.out.setCell (Nat.le_refl _) _).setCell (Nat.le_refl _) _).setCell (Nat.le_refl _) _).setCell (Nat.le_refl _) _
  · clear r0 r1
    rcases hr with rfl | rfl | rfl | rfl | rfl | rfl | rfl | rfl
    all_goals
      go_enter Tryz.func156, Tryz.ntmps156
      go_wp2_with (first | (go_at_call 199; refine (isaMod_any _ _ _ _).mono ?_; rintro e w1 ⟨rfl, hb⟩; (first | (with_reducible have hx := hb_row2 hb) | (have hx := hb_row hb)); obtain ⟨hr, hb1⟩ := hx; have HB := Lib.hid hb1; have rc := hr.cell; have rf := hr.frozen; have rl := hr.lt; clear hb hb1 hr) | (go_at_call 154; refine (isaRow_any _ _ _ _).mono ?_; rintro e w1 ⟨rfl, hb⟩; (first | (with_reducible have hx := hb_row2 hb) | (have hx := hb_row hb)); obtain ⟨hr, hb1⟩ := hx; have HB := Lib.hid hb1; have rc := hr.cell; have rf := hr.frozen; have rl := hr.lt; clear hb hb1 hr) | (go_at_call 155; refine (isaBad_any _).mono ?_; rintro e w1 ⟨rfl, hb⟩; (first | (with_reducible have hx := hb_row2 hb) | (have hx := hb_row hb)); obtain ⟨hr, hb1⟩ := hx; have HB := Lib.hid hb1; have rc := hr.cell; have rf := hr.frozen; have rl := hr.lt; clear hb hb1 hr))
      refine bodyPost_ret (v := rowV _) (by simp [results, Tryz.results156, go_sem, movesOf, zRow, *]) rfl ⟨rfl, ?_⟩
      exact (((HB.out.setCell (Nat.le_refl _) _).setCell (Nat.le_refl _) _).setCell (Nat.le_refl _) _).setCell (Nat.le_refl _) _

set_option maxRecDepth 100000 in
set_option maxHeartbeats 8000000 in
theorem words_any (op : Int) (w : World) (h0 : 144 ≤ op) (h1 : op < 160) : Calls Tryz.prog 157 #[.int .u8 op] w fun e w' => e = .returned (rowV (wordsOf op)) ∧ Below w.heap.size w w' := by
  have hc : op = 144 ∨ op = 145 ∨ op = 146 ∨ op = 147 ∨ op = 148 ∨ op = 149 ∨ op = 150 ∨ op = 151 ∨ op = 152 ∨ op = 153 ∨ op = 154 ∨ op = 155 ∨ op = 156 ∨ op = 157 ∨ op = 158 ∨ op = 159 := by omega
  clear h0 h1
  rcases hc with rfl | rfl | rfl | rfl | rfl | rfl | rfl | rfl | rfl | rfl | rfl | rfl | rfl | rfl | rfl | rfl
  all_goals
    go_enter Tryz.func157, Tryz.ntmps157
    go_wp2_with (first | (go_at_call 199; refine (isaMod_any _ _ _ _).mono ?_; rintro e w1 ⟨rfl, hb⟩; (first | (with_reducible have hx := hb_row2 hb) | (have hx := hb_row hb)); obtain ⟨hr, hb1⟩ := hx; have HB := Lib.hid hb1; have rc := hr.cell; have rf := hr.frozen; have rl := hr.lt; clear hb hb1 hr) | (go_at_call 154; refine (isaRow_any _ _ _ _).mono ?_; rintro e w1 ⟨rfl, hb⟩; (first | (with_reducible have hx := hb_row2 hb) | (have hx := hb_row hb)); obtain ⟨hr, hb1⟩ := hx; have HB := Lib.hid hb1; have rc := hr.cell; have rf := hr.frozen; have rl := hr.lt; clear hb hb1 hr) | (go_at_call 155; refine (isaBad_any _).mono ?_; rintro e w1 ⟨rfl, hb⟩; (first | (with_reducible have hx := hb_row2 hb) | (have hx := hb_row hb)); obtain ⟨hr, hb1⟩ := hx; have HB := Lib.hid hb1; have rc := hr.cell; have rf := hr.frozen; have rl := hr.lt; clear hb hb1 hr))
    refine bodyPost_ret (v := rowV _) (by simp [results, Tryz.results157, go_sem, wordsOf, zRow, *]) rfl ⟨rfl, ?_⟩
    exact (((HB.out.setCell (Nat.le_refl _) _).setCell (Nat.le_refl _) _).setCell (Nat.le_refl _) _).setCell (Nat.le_refl _) _

set_option maxRecDepth 100000 in
set_option maxHeartbeats 8000000 in
theorem texts_any (op : Int) (w : World) (h0 : 160 ≤ op) (h1 : op < 176) : Calls Tryz.prog 158 #[.int .u8 op] w fun e w' => e = .returned (rowV (textsOf op)) ∧ Below w.heap.size w w' := by
  have hc : op = 160 ∨ op = 161 ∨ op = 162 ∨ op = 163 ∨ op = 164 ∨ op = 165 ∨ op = 166 ∨ op = 167 ∨ op = 168 ∨ op = 169 ∨ op = 170 ∨ op = 171 ∨ op = 172 ∨ op = 173 ∨ op = 174 ∨ op = 175 := by omega
  clear h0 h1
  rcases hc with rfl | rfl | rfl | rfl | rfl | rfl | rfl | rfl | rfl | rfl | rfl | rfl | rfl | rfl | rfl | rfl
  all_goals
    go_enter Tryz.func158, Tryz.ntmps158
    go_wp2_with (first | (go_at_call 199; refine (isaMod_any _ _ _ _).mono ?_; rintro e w1 ⟨rfl, hb⟩; (first | (with_reducible have hx := hb_row2 hb) | (have hx := hb_row hb)); obtain ⟨hr, hb1⟩ := hx; have HB := Lib.hid hb1; have rc := hr.cell; have rf := hr.frozen; have rl := hr.lt; clear hb hb1 hr) | (go_at_call 154; refine (isaRow_any _ _ _ _).mono ?_; rintro e w1 ⟨rfl, hb⟩; (first | (with_reducible have hx := hb_row2 hb) | (have hx := hb_row hb)); obtain ⟨hr, hb1⟩ := hx; have HB := Lib.hid hb1; have rc := hr.cell; have rf := hr.frozen; have rl := hr.lt; clear hb hb1 hr) | (go_at_call 155; refine (isaBad_any _).mono ?_; rintro e w1 ⟨rfl, hb⟩; (first | (with_reducible have hx := hb_row2 hb) | (have hx := hb_row hb)); obtain ⟨hr, hb1⟩ := hx; have HB := Lib.hid hb1; have rc := hr.cell; have rf := hr.frozen; have rl := hr.lt; clear hb hb1 hr))
    refine bodyPost_ret (v := rowV _) (by simp [results, Tryz.results158, go_sem, textsOf, zRow, *]) rfl ⟨rfl, ?_⟩
    exact (((HB.out.setCell (Nat.le_refl _) _).setCell (Nat.le_refl _) _).setCell (Nat.le_refl _) _).setCell (Nat.le_refl _) _
end Go.Proofs.YtcglkefaopgjeaaGreatDoor
