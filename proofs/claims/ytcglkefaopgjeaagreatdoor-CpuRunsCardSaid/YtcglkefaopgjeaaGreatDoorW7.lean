/- Parts of the proof, in one text: YtcglkefaopgjeaaGreatDoorH2 YtcglkefaopgjeaaGreatDoorH3 YtcglkefaopgjeaaGreatDoorH4 YtcglkefaopgjeaaGreatDoorJ8 YtcglkefaopgjeaaGreatDoorJ9 YtcglkefaopgjeaaGreatDoorJA YtcglkefaopgjeaaGreatDoorJB YtcglkefaopgjeaaGreatDoorH5 YtcglkefaopgjeaaGreatDoorH6 YtcglkefaopgjeaaGreatDoorH7 YtcglkefaopgjeaaGreatDoorH8 YtcglkefaopgjeaaGreatDoorH9. Each part's own remark says what it proves; conditions: those of each theorem. -/
import Derived.Test.YtcglkefaopgjeaaGreatDoorW6

/- Package isa, continued: backs, turns, goes, rest. -/
namespace Go.Proofs.YtcglkefaopgjeaaGreatDoor
set_option linter.unusedSimpArgs false
set_option linter.unusedVariables false
open Go.RowKit



set_option maxRecDepth 100000 in
set_option maxHeartbeats 8000000 in
theorem backs_any (op reg : Int) (w : World) (h0 : 192 ≤ op) (h1 : op < 208) (r0 : 0 ≤ reg) (r1 : reg ≤ 7) : Calls Tryz.prog 159 #[.int .u8 op, .int .i64 reg] w fun e w' => e = .returned (rowV (backsOf op reg)) ∧ Below w.heap.size w w' := by
  have hc : op = 192 ∨ op = 193 ∨ op = 194 ∨ op = 195 ∨ op = 196 ∨ op = 197 ∨ op = 198 ∨ op = 199 ∨ op = 200 ∨ op = 201 ∨ op = 202 ∨ op = 203 ∨ op = 204 ∨ op = 205 ∨ op = 206 ∨ op = 207 := by omega
  have hr : reg = 0 ∨ reg = 1 ∨ reg = 2 ∨ reg = 3 ∨ reg = 4 ∨ reg = 5 ∨ reg = 6 ∨ reg = 7 := by omega
  clear h0 h1
  rcases hc with rfl | rfl | rfl | rfl | rfl | rfl | rfl | rfl | rfl | rfl | rfl | rfl | rfl | rfl | rfl | rfl
  · clear hr
    go_enter Tryz.func159, Tryz.ntmps159
    go_wp2_with (first | (go_at_call 199; refine (isaMod_any _ _ _ _).mono ?_; rintro e w1 ⟨rfl, hb⟩; (first | (with_reducible have hx := hb_row2 hb) | (have hx := hb_row hb)); obtain ⟨hr, hb1⟩ := hx; have HB := Lib.hid hb1; have rc := hr.cell; have rf := hr.frozen; have rl := hr.lt; clear hb hb1 hr) | (go_at_call 154; refine (isaRow_any _ _ _ _).mono ?_; rintro e w1 ⟨rfl, hb⟩; (first | (with_reducible have hx := hb_row2 hb) | (have hx := hb_row hb)); obtain ⟨hr, hb1⟩ := hx; have HB := Lib.hid hb1; have rc := hr.cell; have rf := hr.frozen; have rl := hr.lt; clear hb hb1 hr) | (go_at_call 155; refine (isaBad_any _).mono ?_; rintro e w1 ⟨rfl, hb⟩; (first | (with_reducible have hx := hb_row2 hb) | (have hx := hb_row hb)); obtain ⟨hr, hb1⟩ := hx; have HB := Lib.hid hb1; have rc := hr.cell; have rf := hr.frozen; have rl := hr.lt; clear hb hb1 hr))
    refine bodyPost_ret (v := rowV _) (by simp [results, Tryz.results159, go_sem, backsOf, zRow, *]) rfl ⟨rfl, ?_⟩
    exact (((HB.out.setCell (Nat.le_refl _) _).setCell (Nat.le_refl _) _).setCell (Nat.le_refl _) _).setCell (Nat.le_refl _) _
  · clear hr
    go_enter Tryz.func159, Tryz.ntmps159
    go_wp2_with (first | (go_at_call 199; refine (isaMod_any _ _ _ _).mono ?_; rintro e w1 ⟨rfl, hb⟩; (first | (with_reducible have hx := hb_row2 hb) | (have hx := hb_row hb)); obtain ⟨hr, hb1⟩ := hx; have HB := Lib.hid hb1; have rc := hr.cell; have rf := hr.frozen; have rl := hr.lt; clear hb hb1 hr) | (go_at_call 154; refine (isaRow_any _ _ _ _).mono ?_; rintro e w1 ⟨rfl, hb⟩; (first | (with_reducible have hx := hb_row2 hb) | (have hx := hb_row hb)); obtain ⟨hr, hb1⟩ := hx; have HB := Lib.hid hb1; have rc := hr.cell; have rf := hr.frozen; have rl := hr.lt; clear hb hb1 hr) | (go_at_call 155; refine (isaBad_any _).mono ?_; rintro e w1 ⟨rfl, hb⟩; (first | (with_reducible have hx := hb_row2 hb) | (have hx := hb_row hb)); obtain ⟨hr, hb1⟩ := hx; have HB := Lib.hid hb1; have rc := hr.cell; have rf := hr.frozen; have rl := hr.lt; clear hb hb1 hr))
    refine bodyPost_ret (v := rowV _) (by simp [results, Tryz.results159, go_sem, backsOf, zRow, *]) rfl ⟨rfl, ?_⟩
    exact (((HB.out.setCell (Nat.le_refl _) _).setCell (Nat.le_refl _) _).setCell (Nat.le_refl _) _).setCell (Nat.le_refl _) _
  · clear hr
    go_enter Tryz.func159, Tryz.ntmps159
    go_wp2_with (first | (go_at_call 199; refine (isaMod_any _ _ _ _).mono ?_; rintro e w1 ⟨rfl, hb⟩; (first | (with_reducible have hx := hb_row2 hb) | (have hx := hb_row hb)); obtain ⟨hr, hb1⟩ := hx; have HB := Lib.hid hb1; have rc := hr.cell; have rf := hr.frozen; have rl := hr.lt; clear hb hb1 hr) | (go_at_call 154; refine (isaRow_any _ _ _ _).mono ?_; rintro e w1 ⟨rfl, hb⟩; (first | (with_reducible have hx := hb_row2 hb) | (have hx := hb_row hb)); obtain ⟨hr, hb1⟩ := hx; have HB := Lib.hid hb1; have rc := hr.cell; have rf := hr.frozen; have rl := hr.lt; clear hb hb1 hr) | (go_at_call 155; refine (isaBad_any _).mono ?_; rintro e w1 ⟨rfl, hb⟩; (first | (with_reducible have hx := hb_row2 hb) | (have hx := hb_row hb)); obtain ⟨hr, hb1⟩ := hx; have HB := Lib.hid hb1; have rc := hr.cell; have rf := hr.frozen; have rl := hr.lt; clear hb hb1 hr))
    refine bodyPost_ret (v := rowV _) (by simp [results, Tryz.results159, go_sem, backsOf, zRow, *]) rfl ⟨rfl, ?_⟩
    exact (((HB.out.setCell (Nat.le_refl _) _).setCell (Nat.le_refl _) _).setCell (Nat.le_refl _) _).setCell (Nat.le_refl _) _
  · clear hr
    go_enter Tryz.func159, Tryz.ntmps159
    go_wp2_with (first | (go_at_call 199; refine (isaMod_any _ _ _ _).mono ?_; rintro e w1 ⟨rfl, hb⟩; (first | (with_reducible have hx := hb_row2 hb) | (have hx := hb_row hb)); obtain ⟨hr, hb1⟩ := hx; have HB := Lib.hid hb1; have rc := hr.cell; have rf := hr.frozen; have rl := hr.lt; clear hb hb1 hr) | (go_at_call 154; refine (isaRow_any _ _ _ _).mono ?_; rintro e w1 ⟨rfl, hb⟩; (first | (with_reducible have hx := hb_row2 hb) | (have hx := hb_row hb)); obtain ⟨hr, hb1⟩ := hx; have HB := Lib.hid hb1; have rc := hr.cell; have rf := hr.frozen; have rl := hr.lt; clear hb hb1 hr) | (go_at_call 155; refine (isaBad_any _).mono ?_; rintro e w1 ⟨rfl, hb⟩; (first | (with_reducible have hx := hb_row2 hb) | (have hx := hb_row hb)); obtain ⟨hr, hb1⟩ := hx; have HB := Lib.hid hb1; have rc := hr.cell; have rf := hr.frozen; have rl := hr.lt; clear hb hb1 hr))
    refine bodyPost_ret (v := rowV _) (by simp [results, Tryz.results159, go_sem, backsOf, zRow, *]) rfl ⟨rfl, ?_⟩
    exact (((HB.out.setCell (Nat.le_refl _) _).setCell (Nat.le_refl _) _).setCell (Nat.le_refl _) _).setCell (Nat.le_refl _) _
  · clear hr
    go_enter Tryz.func159, Tryz.ntmps159
    go_wp2_with (first | (go_at_call 199; refine (isaMod_any _ _ _ _).mono ?_; rintro e w1 ⟨rfl, hb⟩; (first | (with_reducible have hx := hb_row2 hb) | (have hx := hb_row hb)); obtain ⟨hr, hb1⟩ := hx; have HB := Lib.hid hb1; have rc := hr.cell; have rf := hr.frozen; have rl := hr.lt; clear hb hb1 hr) | (go_at_call 154; refine (isaRow_any _ _ _ _).mono ?_; rintro e w1 ⟨rfl, hb⟩; (first | (with_reducible have hx := hb_row2 hb) | (have hx := hb_row hb)); obtain ⟨hr, hb1⟩ := hx; have HB := Lib.hid hb1; have rc := hr.cell; have rf := hr.frozen; have rl := hr.lt; clear hb hb1 hr) | (go_at_call 155; refine (isaBad_any _).mono ?_; rintro e w1 ⟨rfl, hb⟩; (first | (with_reducible have hx := hb_row2 hb) | (have hx := hb_row hb)); obtain ⟨hr, hb1⟩ := hx; have HB := Lib.hid hb1; have rc := hr.cell; have rf := hr.frozen; have rl := hr.lt; clear hb hb1 hr))
    refine bodyPost_ret (v := rowV _) (by simp [results, Tryz.results159, go_sem, backsOf, zRow, *]) rfl ⟨rfl, ?_⟩
    exact (((HB.out.setCell (Nat.le_refl _) _).setCell (Nat.le_refl _) _).setCell (Nat.le_refl _) _).setCell (Nat.le_refl _) _
  · clear hr
    go_enter Tryz.func159, Tryz.ntmps159
    go_wp2_with (first | (go_at_call 199; refine (isaMod_any _ _ _ _).mono ?_; rintro e w1 ⟨rfl, hb⟩; (first | (with_reducible have hx := hb_row2 hb) | (have hx := hb_row hb)); obtain ⟨hr, hb1⟩ := hx; have HB := Lib.hid hb1; have rc := hr.cell; have rf := hr.frozen; have rl := hr.lt; clear hb hb1 hr) | (go_at_call 154; refine (isaRow_any _ _ _ _).mono ?_; rintro e w1 ⟨rfl, hb⟩; (first | (with_reducible have hx := hb_row2 hb) | (have hx := hb_row hb)); obtain ⟨hr, hb1⟩ := hx; have HB := Lib.hid hb1; have rc := hr.cell; have rf := hr.frozen; have rl := hr.lt; clear hb hb1 hr) | (go_at_call 155; refine (isaBad_any _).mono ?_; rintro e w1 ⟨rfl, hb⟩; (first | (with_reducible have hx := hb_row2 hb) | (have hx := hb_row hb)); obtain ⟨hr, hb1⟩ := hx; have HB := Lib.hid hb1; have rc := hr.cell; have rf := hr.frozen; have rl := hr.lt; clear hb hb1 hr))
    refine bodyPost_ret (v := rowV _) (by simp [results, Tryz.results159, go_sem, backsOf, zRow, *]) rfl ⟨rfl, ?_⟩
    exact (((HB.out.setCell (Nat.le_refl _) _).setCell (Nat.le_refl _) _).setCell (Nat.le_refl _) _).setCell (Nat.le_refl _) _
  · clear r0 r1
    rcases hr with rfl | rfl | rfl | rfl | rfl | rfl | rfl | rfl
    all_goals
      go_enter Tryz.func159, Tryz.ntmps159
      go_wp2_with (first | (go_at_call 199; refine (isaMod_any _ _ _ _).mono ?_; rintro e w1 ⟨rfl, hb⟩; (first | (with_reducible have hx := hb_row2 hb) | (have hx := hb_row hb)); obtain ⟨hr, hb1⟩ := hx; have HB := Lib.hid hb1; have rc := hr.cell; have rf := hr.frozen; have rl := hr.lt; clear hb hb1 hr) | (go_at_call 154; refine (isaRow_any _ _ _ _).mono ?_; rintro e w1 ⟨rfl, hb⟩; (first | (with_reducible have hx := hb_row2 hb) | (have hx := hb_row hb)); obtain ⟨hr, hb1⟩ := hx; have HB := Lib.hid hb1; have rc := hr.cell; have rf := hr.frozen; have rl := hr.lt; clear hb hb1 hr) | (go_at_call 155; refine (isaBad_any _).mono ?_; rintro e w1 ⟨rfl, hb⟩; (first | (with_reducible have hx := hb_row2 hb) | (have hx := hb_row hb)); obtain ⟨hr, hb1⟩ := hx; have HB := Lib.hid hb1; have rc := hr.cell; have rf := hr.frozen; have rl := hr.lt; clear hb hb1 hr))
      refine bodyPost_ret (v := rowV _) (by simp [results, Tryz.results159, go_sem, backsOf, zRow, *]) rfl ⟨rfl, ?_⟩
      exact (((HB.out.setCell (Nat.le_refl _) _).setCell (Nat.le_refl _) _).setCell (Nat.le_refl _) _).setCell (Nat.le_refl _) _
  · clear r0 r1
    rcases hr with rfl | rfl | rfl | rfl | rfl | rfl | rfl | rfl
    all_goals
      go_enter Tryz.func159, Tryz.ntmps159
      go_wp2_with (first | (go_at_call 199; refine (isaMod_any _ _ _ _).mono ?_; rintro e w1 ⟨rfl, hb⟩; (first | (with_reducible have hx := hb_row2 hb) | (have hx := hb_row hb)); obtain ⟨hr, hb1⟩ := hx; have HB := Lib.hid hb1; have rc := hr.cell; have rf := hr.frozen; have rl := hr.lt; clear hb hb1 hr) | (go_at_call 154; refine (isaRow_any _ _ _ _).mono ?_; rintro e w1 ⟨rfl, hb⟩; (first | (with_reducible have hx := hb_row2 hb) | (have hx := hb_row hb)); obtain ⟨hr, hb1⟩ := hx; have HB := Lib.hid hb1; have rc := hr.cell; have rf := hr.frozen; have rl := hr.lt; clear hb hb1 hr) | (go_at_call 155; refine (isaBad_any _).mono ?_; rintro e w1 ⟨rfl, hb⟩; (first | (with_reducible have hx := hb_row2 hb) | (have hx := hb_row hb)); obtain ⟨hr, hb1⟩ := hx; have HB := Lib.hid hb1; have rc := hr.cell; have rf := hr.frozen; have rl := hr.lt; clear hb hb1 hr))
      refine bodyPost_ret (v := rowV _) (by simp [results, Tryz.results159, go_sem, backsOf, zRow, *]) rfl ⟨rfl, ?_⟩
      exact (((HB.out.setCell (Nat.le_refl _) _).setCell (Nat.le_refl _) _).setCell (Nat.le_refl _) _).setCell (Nat.le_refl _) _
  · clear hr
    go_enter Tryz.func159, Tryz.ntmps159
    go_wp2_with (first | (go_at_call 199; refine (isaMod_any _ _ _ _).mono ?_; rintro e w1 ⟨rfl, hb⟩; (first | (with_reducible have hx := hb_row2 hb) | (have hx := hb_row hb)); obtain ⟨hr, hb1⟩ := hx; have HB := Lib.hid hb1; have rc := hr.cell; have rf := hr.frozen; have rl := hr.lt; clear hb hb1 hr) | (go_at_call 154; refine (isaRow_any _ _ _ _).mono ?_; rintro e w1 ⟨rfl, hb⟩; (first | (with_reducible have hx := hb_row2 hb) | (have hx := hb_row hb)); obtain ⟨hr, hb1⟩ := hx; have HB := Lib.hid hb1; have rc := hr.cell; have rf := hr.frozen; have rl := hr.lt; clear hb hb1 hr) | (go_at_call 155; refine (isaBad_any _).mono ?_; rintro e w1 ⟨rfl, hb⟩; (first | (with_reducible have hx := hb_row2 hb) | (have hx := hb_row hb)); obtain ⟨hr, hb1⟩ := hx; have HB := Lib.hid hb1; have rc := hr.cell; have rf := hr.frozen; have rl := hr.lt; clear hb hb1 hr))
    refine bodyPost_ret (v := rowV _) (by simp [results, Tryz.results159, go_sem, backsOf, zRow, *]) rfl ⟨rfl, ?_⟩
    exact (((HB.out.setCell (Nat.le_refl _) _).setCell (Nat.le_refl _) _).setCell (Nat.le_refl _) _).setCell (Nat.le_refl _) _
  · clear hr
    go_enter Tryz.func159, Tryz.ntmps159
    go_wp2_with (first | (go_at_call 199; refine (isaMod_any _ _ _ _).mono ?_; rintro e w1 ⟨rfl, hb⟩; (first | (with_reducible have hx := hb_row2 hb) | (have hx := hb_row hb)); obtain ⟨hr, hb1⟩ := hx; have HB := Lib.hid hb1; have rc := hr.cell; have rf := hr.frozen; have rl := hr.lt; clear hb hb1 hr) | (go_at_call 154; refine (isaRow_any _ _ _ _).mono ?_; rintro e w1 ⟨rfl, hb⟩; (first | (with_reducible have hx := hb_row2 hb) | (have hx := hb_row hb)); obtain ⟨hr, hb1⟩ := hx; have HB := Lib.hid hb1; have rc := hr.cell; have rf := hr.frozen; have rl := hr.lt; clear hb hb1 hr) | (go_at_call 155; refine (isaBad_any _).mono ?_; rintro e w1 ⟨rfl, hb⟩; (first | (with_reducible have hx := hb_row2 hb) | (have hx := hb_row hb)); obtain ⟨hr, hb1⟩ := hx; have HB := Lib.hid hb1; have rc := hr.cell; have rf := hr.frozen; have rl := hr.lt; clear hb hb1 hr))
    refine bodyPost_ret (v := rowV _) (by simp [results, Tryz.results159, go_sem, backsOf, zRow, *]) rfl ⟨rfl, ?_⟩
    exact (((HB.out.setCell (Nat.le_refl _) _).setCell (Nat.le_refl _) _).setCell (Nat.le_refl _) _).setCell (Nat.le_refl _) _
  · clear hr
    go_enter Tryz.func159, Tryz.ntmps159
    go_wp2_with (first | (go_at_call 199; refine (isaMod_any _ _ _ _).mono ?_; rintro e w1 ⟨rfl, hb⟩; (first | (with_reducible have hx := hb_row2 hb) | (have hx := hb_row hb)); obtain ⟨hr, hb1⟩ := hx; have HB := Lib.hid hb1; have rc := hr.cell; have rf := hr.frozen; have rl := hr.lt; clear hb hb1 hr) | (go_at_call 154; refine (isaRow_any _ _ _ _).mono ?_; rintro e w1 ⟨rfl, hb⟩; (first | (with_reducible have hx := hb_row2 hb) | (have hx := hb_row hb)); obtain ⟨hr, hb1⟩ := hx; have HB := Lib.hid hb1; have rc := hr.cell; have rf := hr.frozen; have rl := hr.lt; clear hb hb1 hr) | (go_at_call 155; refine (isaBad_any _).mono ?_; rintro e w1 ⟨rfl, hb⟩; (first | (with_reducible have hx := hb_row2 hb) | (have hx := hb_row hb)); obtain ⟨hr, hb1⟩ := hx; have HB := Lib.hid hb1; have rc := hr.cell; have rf := hr.frozen; have rl := hr.lt; clear hb hb1 hr))
    refine bodyPost_ret (v := rowV _) (by simp [results, Tryz.results159, go_sem, backsOf, zRow, *]) rfl ⟨rfl, ?_⟩
    exact (((HB.out.setCell (Nat.le_refl _) _).setCell (Nat.le_refl _) _).setCell (Nat.le_refl _) _).setCell (Nat.le_refl _) _
  · clear hr
    go_enter Tryz.func159, Tryz.ntmps159
    go_wp2_with (first | (go_at_call 199; refine (isaMod_any _ _ _ _).mono ?_; rintro e w1 ⟨rfl, hb⟩; (first | (with_reducible have hx := hb_row2 hb) | (have hx := hb_row hb)); obtain ⟨hr, hb1⟩ := hx; have HB := Lib.hid hb1; have rc := hr.cell; have rf := hr.frozen; have rl := hr.lt; clear hb hb1 hr) | (go_at_call 154; refine (isaRow_any _ _ _ _).mono ?_; rintro e w1 ⟨rfl, hb⟩; (first | (with_reducible have hx := hb_row2 hb) | (have hx := hb_row hb)); obtain ⟨hr, hb1⟩ := hx; have HB := Lib.hid hb1; have rc := hr.cell; have rf := hr.frozen; have rl := hr.lt; clear hb hb1 hr) | (go_at_call 155; refine (isaBad_any _).mono ?_; rintro e w1 ⟨rfl, hb⟩; (first | (with_reducible have hx := hb_row2 hb) | (have hx := hb_row hb)); obtain ⟨hr, hb1⟩ := hx; have HB := Lib.hid hb1; have rc := hr.cell; have rf := hr.frozen; have rl := hr.lt; clear hb hb1 hr))
    refine bodyPost_ret (v := rowV _) (by simp [results, Tryz.results159, go_sem, backsOf, zRow, *]) rfl ⟨rfl, ?_⟩
    exact (((HB.out.setCell (Nat.le_refl _) _).setCell (Nat.le_refl _) _).setCell (Nat.le_refl _) _).setCell (Nat.le_refl _) _
  · clear hr
    go_enter Tryz.func159, Tryz.ntmps159
    go_wp2_with (first | (go_at_call 199; refine (isaMod_any _ _ _ _).mono ?_; rintro e w1 ⟨rfl, hb⟩; (first | (with_reducible have hx := hb_row2 hb) | (have hx := hb_row hb)); obtain ⟨hr, hb1⟩ := hx; have HB := Lib.hid hb1; have rc := hr.cell; have rf := hr.frozen; have rl := hr.lt; clear hb hb1 hr) | (go_at_call 154; refine (isaRow_any _ _ _ _).mono ?_; rintro e w1 ⟨rfl, hb⟩; (first | (with_reducible have hx := hb_row2 hb) | (have hx := hb_row hb)); obtain ⟨hr, hb1⟩ := hx; have HB := Lib.hid hb1; have rc := hr.cell; have rf := hr.frozen; have rl := hr.lt; clear hb hb1 hr) | (go_at_call 155; refine (isaBad_any _).mono ?_; rintro e w1 ⟨rfl, hb⟩; (first | (with_reducible have hx := hb_row2 hb) | (have hx := hb_row hb)); obtain ⟨hr, hb1⟩ := hx; have HB := Lib.hid hb1; have rc := hr.cell; have rf := hr.frozen; have rl := hr.lt; clear hb hb1 hr))
    refine bodyPost_ret (v := rowV _) (by simp [results, Tryz.results159, go_sem, backsOf, zRow, *]) rfl ⟨rfl, ?_⟩
    exact (((HB.out.setCell (Nat.le_refl _) _).setCell (Nat.le_refl _) _).setCell (Nat.le_refl _) _).setCell (Nat.le_refl _) _
  · clear hr
    go_enter Tryz.func159, Tryz.ntmps159
    go_wp2_with (first | (go_at_call 199; refine (isaMod_any _ _ _ _).mono ?_; rintro e w1 ⟨rfl, hb⟩; (first | (with_reducible have hx := hb_row2 hb) | (have hx := hb_row hb)); obtain ⟨hr, hb1⟩ := hx; have HB := Lib.hid hb1; have rc := hr.cell; have rf := hr.frozen; have rl := hr.lt; clear hb hb1 hr) | (go_at_call 154; refine (isaRow_any _ _ _ _).mono ?_; rintro e w1 ⟨rfl, hb⟩; (first | (with_reducible have hx := hb_row2 hb) | (have hx := hb_row hb)); obtain ⟨hr, hb1⟩ := hx; have HB := Lib.hid hb1; have rc := hr.cell; have rf := hr.frozen; have rl := hr.lt; clear hb hb1 hr) | (go_at_call 155; refine (isaBad_any _).mono ?_; rintro e w1 ⟨rfl, hb⟩; (first | (with_reducible have hx := hb_row2 hb) | (have hx := hb_row hb)); obtain ⟨hr, hb1⟩ := hx; have HB := Lib.hid hb1; have rc := hr.cell; have rf := hr.frozen; have rl := hr.lt; clear hb hb1 hr))
    refine bodyPost_ret (v := rowV _) (by simp [results, Tryz.results159, go_sem, backsOf, zRow, *]) rfl ⟨rfl, ?_⟩
    exact (((HB.out.setCell (Nat.le_refl _) _).setCell (Nat.le_refl _) _).setCell (Nat.le_refl _) _).setCell (Nat.le_refl _) _
  · clear hr
    go_enter Tryz.func159, Tryz.ntmps159
    go_wp2_with (first | (go_at_call 199; refine (isaMod_any _ _ _ _).mono ?_; rintro e w1 ⟨rfl, hb⟩; (first | (with_reducible have hx := hb_row2 hb) | (have hx := hb_row hb)); obtain ⟨hr, hb1⟩ := hx; have HB := Lib.hid hb1; have rc := hr.cell; have rf := hr.frozen; have rl := hr.lt; clear hb hb1 hr) | (go_at_call 154; refine (isaRow_any _ _ _ _).mono ?_; rintro e w1 ⟨rfl, hb⟩; (first | (with_reducible have hx := hb_row2 hb) | (have hx := hb_row hb)); obtain ⟨hr, hb1⟩ := hx; have HB := Lib.hid hb1; have rc := hr.cell; have rf := hr.frozen; have rl := hr.lt; clear hb hb1 hr) | (go_at_call 155; refine (isaBad_any _).mono ?_; rintro e w1 ⟨rfl, hb⟩; (first | (with_reducible have hx := hb_row2 hb) | (have hx := hb_row hb)); obtain ⟨hr, hb1⟩ := hx; have HB := Lib.hid hb1; have rc := hr.cell; have rf := hr.frozen; have rl := hr.lt; clear hb hb1 hr))
    refine bodyPost_ret (v := rowV _) (by simp [results, Tryz.results159, go_sem, backsOf, zRow, *]) rfl ⟨rfl, ?_⟩
    exact (((HB.out.setCell (Nat.le_refl _) _).setCell (Nat.le_refl _) _).setCell (Nat.le_refl _) _).setCell (Nat.le_refl _) _
  · clear hr
    go_enter Tryz.func159, Tryz.ntmps159
    go_wp2_with (first | (go_at_call 199; refine (isaMod_any _ _ _ _).mono ?_; rintro e w1 ⟨rfl, hb⟩; (first | (with_reducible have hx := hb_row2 hb) | (have hx := hb_row hb)); obtain ⟨hr, hb1⟩ := hx; have HB := Lib.hid hb1; have rc := hr.cell; have rf := hr.frozen; have rl := hr.lt; clear hb hb1 hr) | (go_at_call 154; refine (isaRow_any _ _ _ _).mono ?_; rintro e w1 ⟨rfl, hb⟩; (first | (with_reducible have hx := hb_row2 hb) | (have hx := hb_row hb)); obtain ⟨hr, hb1⟩ := hx; have HB := Lib.hid hb1; have rc := hr.cell; have rf := hr.frozen; have rl := hr.lt; clear hb hb1 hr) | (go_at_call 155; refine (isaBad_any _).mono ?_; rintro e w1 ⟨rfl, hb⟩; (first | (with_reducible have hx := hb_row2 hb) | (have hx := hb_row hb)); obtain ⟨hr, hb1⟩ := hx; have HB := Lib.hid hb1; have rc := hr.cell; have rf := hr.frozen; have rl := hr.lt; clear hb hb1 hr))
    refine bodyPost_ret (v := rowV _) (by simp [results, Tryz.results159, go_sem, backsOf, zRow, *]) rfl ⟨rfl, ?_⟩
    exact (((HB.out.setCell (Nat.le_refl _) _).setCell (Nat.le_refl _) _).setCell (Nat.le_refl _) _).setCell (Nat.le_refl _) _

set_option maxRecDepth 100000 in
set_option maxHeartbeats 8000000 in
theorem turns_any (op reg : Int) (w : World) (h0 : 208 ≤ op) (h1 : op < 224) (r0 : 0 ≤ reg) (r1 : reg ≤ 7) : Calls Tryz.prog 160 #[.int .u8 op, .int .i64 reg] w fun e w' => e = .returned (rowV (turnsOf op reg)) ∧ Below w.heap.size w w' := by
  have hc : op = 208 ∨ op = 209 ∨ op = 210 ∨ op = 211 ∨ op = 212 ∨ op = 213 ∨ op = 214 ∨ op = 215 ∨ op = 216 ∨ op = 217 ∨ op = 218 ∨ op = 219 ∨ op = 220 ∨ op = 221 ∨ op = 222 ∨ op = 223 := by omega
  have hr : reg = 0 ∨ reg = 1 ∨ reg = 2 ∨ reg = 3 ∨ reg = 4 ∨ reg = 5 ∨ reg = 6 ∨ reg = 7 := by omega
  clear h0 h1
  rcases hc with rfl | rfl | rfl | rfl | rfl | rfl | rfl | rfl | rfl | rfl | rfl | rfl | rfl | rfl | rfl | rfl
  · clear r0 r1
    have hk1 : bits .and .u8 208 1 = 0 := by decide
    have hk2 : bits .and .u8 208 2 = 0 := by decide
    rcases hr with rfl | rfl | rfl | rfl | rfl | rfl | rfl | rfl
    all_goals
      go_enter Tryz.func160, Tryz.ntmps160
      go_wp2_with (first | (go_at_call 199; refine (isaMod_any _ _ _ _).mono ?_; rintro e w1 ⟨rfl, hb⟩; (first | (with_reducible have hx := hb_row2 hb) | (have hx := hb_row hb)); obtain ⟨hr, hb1⟩ := hx; have HB := Lib.hid hb1; have rc := hr.cell; have rf := hr.frozen; have rl := hr.lt; clear hb hb1 hr) | (go_at_call 154; refine (isaRow_any _ _ _ _).mono ?_; rintro e w1 ⟨rfl, hb⟩; (first | (with_reducible have hx := hb_row2 hb) | (have hx := hb_row hb)); obtain ⟨hr, hb1⟩ := hx; have HB := Lib.hid hb1; have rc := hr.cell; have rf := hr.frozen; have rl := hr.lt; clear hb hb1 hr) | (go_at_call 155; refine (isaBad_any _).mono ?_; rintro e w1 ⟨rfl, hb⟩; (first | (with_reducible have hx := hb_row2 hb) | (have hx := hb_row hb)); obtain ⟨hr, hb1⟩ := hx; have HB := Lib.hid hb1; have rc := hr.cell; have rf := hr.frozen; have rl := hr.lt; clear hb hb1 hr))
      refine bodyPost_ret (v := rowV _) (by simp [results, Tryz.results160, go_sem, turnsOf, zRow, *]) rfl ⟨rfl, ?_⟩
      exact (((HB.out.setCell (Nat.le_refl _) _).setCell (Nat.le_refl _) _).setCell (Nat.le_refl _) _).setCell (Nat.le_refl _) _
  · clear r0 r1
    have hk1 : bits .and .u8 209 1 = 1 := by decide
    have hk2 : bits .and .u8 209 2 = 0 := by decide
    rcases hr with rfl | rfl | rfl | rfl | rfl | rfl | rfl | rfl
    all_goals
      go_enter Tryz.func160, Tryz.ntmps160
      go_wp2_with (first | (go_at_call 199; refine (isaMod_any _ _ _ _).mono ?_; rintro e w1 ⟨rfl, hb⟩; (first | (with_reducible have hx := hb_row2 hb) | (have hx := hb_row hb)); obtain ⟨hr, hb1⟩ := hx; have HB := Lib.hid hb1; have rc := hr.cell; have rf := hr.frozen; have rl := hr.lt; clear hb hb1 hr) | (go_at_call 154; refine (isaRow_any _ _ _ _).mono ?_; rintro e w1 ⟨rfl, hb⟩; (first | (with_reducible have hx := hb_row2 hb) | (have hx := hb_row hb)); obtain ⟨hr, hb1⟩ := hx; have HB := Lib.hid hb1; have rc := hr.cell; have rf := hr.frozen; have rl := hr.lt; clear hb hb1 hr) | (go_at_call 155; refine (isaBad_any _).mono ?_; rintro e w1 ⟨rfl, hb⟩; (first | (with_reducible have hx := hb_row2 hb) | (have hx := hb_row hb)); obtain ⟨hr, hb1⟩ := hx; have HB := Lib.hid hb1; have rc := hr.cell; have rf := hr.frozen; have rl := hr.lt; clear hb hb1 hr))
      refine bodyPost_ret (v := rowV _) (by simp [results, Tryz.results160, go_sem, turnsOf, zRow, *]) rfl ⟨rfl, ?_⟩
      exact (((HB.out.setCell (Nat.le_refl _) _).setCell (Nat.le_refl _) _).setCell (Nat.le_refl _) _).setCell (Nat.le_refl _) _
  · clear r0 r1
    have hk1 : bits .and .u8 210 1 = 0 := by decide
    have hk2 : bits .and .u8 210 2 = 2 := by decide
    rcases hr with rfl | rfl | rfl | rfl | rfl | rfl | rfl | rfl
    all_goals
      go_enter Tryz.func160, Tryz.ntmps160
      go_wp2_with (first | (go_at_call 199; refine (isaMod_any _ _ _ _).mono ?_; rintro e w1 ⟨rfl, hb⟩; (first | (with_reducible have hx := hb_row2 hb) | (have hx := hb_row hb)); obtain ⟨hr, hb1⟩ := hx; have HB := Lib.hid hb1; have rc := hr.cell; have rf := hr.frozen; have rl := hr.lt; clear hb hb1 hr) | (go_at_call 154; refine (isaRow_any _ _ _ _).mono ?_; rintro e w1 ⟨rfl, hb⟩; (first | (with_reducible have hx := hb_row2 hb) | (have hx := hb_row hb)); obtain ⟨hr, hb1⟩ := hx; have HB := Lib.hid hb1; have rc := hr.cell; have rf := hr.frozen; have rl := hr.lt; clear hb hb1 hr) | (go_at_call 155; refine (isaBad_any _).mono ?_; rintro e w1 ⟨rfl, hb⟩; (first | (with_reducible have hx := hb_row2 hb) | (have hx := hb_row hb)); obtain ⟨hr, hb1⟩ := hx; have HB := Lib.hid hb1; have rc := hr.cell; have rf := hr.frozen; have rl := hr.lt; clear hb hb1 hr))
      refine bodyPost_ret (v := rowV _) (by simp [results, Tryz.results160, go_sem, turnsOf, zRow, *]) rfl ⟨rfl, ?_⟩
      exact (((HB.out.setCell (Nat.le_refl _) _).setCell (Nat.le_refl _) _).setCell (Nat.le_refl _) _).setCell (Nat.le_refl _) _
  · clear r0 r1
    have hk1 : bits .and .u8 211 1 = 1 := by decide
    have hk2 : bits .and .u8 211 2 = 2 := by decide
    rcases hr with rfl | rfl | rfl | rfl | rfl | rfl | rfl | rfl
    all_goals
      go_enter Tryz.func160, Tryz.ntmps160
      go_wp2_with (first | (go_at_call 199; refine (isaMod_any _ _ _ _).mono ?_; rintro e w1 ⟨rfl, hb⟩; (first | (with_reducible have hx := hb_row2 hb) | (have hx := hb_row hb)); obtain ⟨hr, hb1⟩ := hx; have HB := Lib.hid hb1; have rc := hr.cell; have rf := hr.frozen; have rl := hr.lt; clear hb hb1 hr) | (go_at_call 154; refine (isaRow_any _ _ _ _).mono ?_; rintro e w1 ⟨rfl, hb⟩; (first | (with_reducible have hx := hb_row2 hb) | (have hx := hb_row hb)); obtain ⟨hr, hb1⟩ := hx; have HB := Lib.hid hb1; have rc := hr.cell; have rf := hr.frozen; have rl := hr.lt; clear hb hb1 hr) | (go_at_call 155; refine (isaBad_any _).mono ?_; rintro e w1 ⟨rfl, hb⟩; (first | (with_reducible have hx := hb_row2 hb) | (have hx := hb_row hb)); obtain ⟨hr, hb1⟩ := hx; have HB := Lib.hid hb1; have rc := hr.cell; have rf := hr.frozen; have rl := hr.lt; clear hb hb1 hr))
      refine bodyPost_ret (v := rowV _) (by simp [results, Tryz.results160, go_sem, turnsOf, zRow, *]) rfl ⟨rfl, ?_⟩
      exact (((HB.out.setCell (Nat.le_refl _) _).setCell (Nat.le_refl _) _).setCell (Nat.le_refl _) _).setCell (Nat.le_refl _) _
  · clear hr
    go_enter Tryz.func160, Tryz.ntmps160
    go_wp2_with (first | (go_at_call 199; refine (isaMod_any _ _ _ _).mono ?_; rintro e w1 ⟨rfl, hb⟩; (first | (with_reducible have hx := hb_row2 hb) | (have hx := hb_row hb)); obtain ⟨hr, hb1⟩ := hx; have HB := Lib.hid hb1; have rc := hr.cell; have rf := hr.frozen; have rl := hr.lt; clear hb hb1 hr) | (go_at_call 154; refine (isaRow_any _ _ _ _).mono ?_; rintro e w1 ⟨rfl, hb⟩; (first | (with_reducible have hx := hb_row2 hb) | (have hx := hb_row hb)); obtain ⟨hr, hb1⟩ := hx; have HB := Lib.hid hb1; have rc := hr.cell; have rf := hr.frozen; have rl := hr.lt; clear hb hb1 hr) | (go_at_call 155; refine (isaBad_any _).mono ?_; rintro e w1 ⟨rfl, hb⟩; (first | (with_reducible have hx := hb_row2 hb) | (have hx := hb_row hb)); obtain ⟨hr, hb1⟩ := hx; have HB := Lib.hid hb1; have rc := hr.cell; have rf := hr.frozen; have rl := hr.lt; clear hb hb1 hr))
    refine bodyPost_ret (v := rowV _) (by simp [results, Tryz.results160, go_sem, turnsOf, zRow, *]) rfl ⟨rfl, ?_⟩
    exact (((HB.out.setCell (Nat.le_refl _) _).setCell (Nat.le_refl _) _).setCell (Nat.le_refl _) _).setCell (Nat.le_refl _) _
  · clear hr
    go_enter Tryz.func160, Tryz.ntmps160
    go_wp2_with (first | (go_at_call 199; refine (isaMod_any _ _ _ _).mono ?_; rintro e w1 ⟨rfl, hb⟩; (first | (with_reducible have hx := hb_row2 hb) | (have hx := hb_row hb)); obtain ⟨hr, hb1⟩ := hx; have HB := Lib.hid hb1; have rc := hr.cell; have rf := hr.frozen; have rl := hr.lt; clear hb hb1 hr) | (go_at_call 154; refine (isaRow_any _ _ _ _).mono ?_; rintro e w1 ⟨rfl, hb⟩; (first | (with_reducible have hx := hb_row2 hb) | (have hx := hb_row hb)); obtain ⟨hr, hb1⟩ := hx; have HB := Lib.hid hb1; have rc := hr.cell; have rf := hr.frozen; have rl := hr.lt; clear hb hb1 hr) | (go_at_call 155; refine (isaBad_any _).mono ?_; rintro e w1 ⟨rfl, hb⟩; (first | (with_reducible have hx := hb_row2 hb) | (have hx := hb_row hb)); obtain ⟨hr, hb1⟩ := hx; have HB := Lib.hid hb1; have rc := hr.cell; have rf := hr.frozen; have rl := hr.lt; clear hb hb1 hr))
    refine bodyPost_ret (v := rowV _) (by simp [results, Tryz.results160, go_sem, turnsOf, zRow, *]) rfl ⟨rfl, ?_⟩
    exact (((HB.out.setCell (Nat.le_refl _) _).setCell (Nat.le_refl _) _).setCell (Nat.le_refl _) _).setCell (Nat.le_refl _) _
  · clear hr
    go_enter Tryz.func160, Tryz.ntmps160
    go_wp2_with (first | (go_at_call 199; refine (isaMod_any _ _ _ _).mono ?_; rintro e w1 ⟨rfl, hb⟩; (first | (with_reducible have hx := hb_row2 hb) | (have hx := hb_row hb)); obtain ⟨hr, hb1⟩ := hx; have HB := Lib.hid hb1; have rc := hr.cell; have rf := hr.frozen; have rl := hr.lt; clear hb hb1 hr) | (go_at_call 154; refine (isaRow_any _ _ _ _).mono ?_; rintro e w1 ⟨rfl, hb⟩; (first | (with_reducible have hx := hb_row2 hb) | (have hx := hb_row hb)); obtain ⟨hr, hb1⟩ := hx; have HB := Lib.hid hb1; have rc := hr.cell; have rf := hr.frozen; have rl := hr.lt; clear hb hb1 hr) | (go_at_call 155; refine (isaBad_any _).mono ?_; rintro e w1 ⟨rfl, hb⟩; (first | (with_reducible have hx := hb_row2 hb) | (have hx := hb_row hb)); obtain ⟨hr, hb1⟩ := hx; have HB := Lib.hid hb1; have rc := hr.cell; have rf := hr.frozen; have rl := hr.lt; clear hb hb1 hr))
    refine bodyPost_ret (v := rowV _) (by simp [results, Tryz.results160, go_sem, turnsOf, zRow, *]) rfl ⟨rfl, ?_⟩
    exact (((HB.out.setCell (Nat.le_refl _) _).setCell (Nat.le_refl _) _).setCell (Nat.le_refl _) _).setCell (Nat.le_refl _) _
  · clear hr
    go_enter Tryz.func160, Tryz.ntmps160
    go_wp2_with (first | (go_at_call 199; refine (isaMod_any _ _ _ _).mono ?_; rintro e w1 ⟨rfl, hb⟩; (first | (with_reducible have hx := hb_row2 hb) | (have hx := hb_row hb)); obtain ⟨hr, hb1⟩ := hx; have HB := Lib.hid hb1; have rc := hr.cell; have rf := hr.frozen; have rl := hr.lt; clear hb hb1 hr) | (go_at_call 154; refine (isaRow_any _ _ _ _).mono ?_; rintro e w1 ⟨rfl, hb⟩; (first | (with_reducible have hx := hb_row2 hb) | (have hx := hb_row hb)); obtain ⟨hr, hb1⟩ := hx; have HB := Lib.hid hb1; have rc := hr.cell; have rf := hr.frozen; have rl := hr.lt; clear hb hb1 hr) | (go_at_call 155; refine (isaBad_any _).mono ?_; rintro e w1 ⟨rfl, hb⟩; (first | (with_reducible have hx := hb_row2 hb) | (have hx := hb_row hb)); obtain ⟨hr, hb1⟩ := hx; have HB := Lib.hid hb1; have rc := hr.cell; have rf := hr.frozen; have rl := hr.lt; clear hb hb1 hr))
    refine bodyPost_ret (v := rowV _) (by simp [results, Tryz.results160, go_sem, turnsOf, zRow, *]) rfl ⟨rfl, ?_⟩
    exact (((HB.out.setCell (Nat.le_refl _) _).setCell (Nat.le_refl _) _).setCell (Nat.le_refl _) _).setCell (Nat.le_refl _) _
  · clear hr
    go_enter Tryz.func160, Tryz.ntmps160
    go_wp2_with (first | (go_at_call 199; refine (isaMod_any _ _ _ _).mono ?_; rintro e w1 ⟨rfl, hb⟩; (first | (with_reducible have hx := hb_row2 hb) | (have hx := hb_row hb)); obtain ⟨hr, hb1⟩ := hx; have HB := Lib.hid hb1; have rc := hr.cell; have rf := hr.frozen; have rl := hr.lt; clear hb hb1 hr) | (go_at_call 154; refine (isaRow_any _ _ _ _).mono ?_; rintro e w1 ⟨rfl, hb⟩; (first | (with_reducible have hx := hb_row2 hb) | (have hx := hb_row hb)); obtain ⟨hr, hb1⟩ := hx; have HB := Lib.hid hb1; have rc := hr.cell; have rf := hr.frozen; have rl := hr.lt; clear hb hb1 hr) | (go_at_call 155; refine (isaBad_any _).mono ?_; rintro e w1 ⟨rfl, hb⟩; (first | (with_reducible have hx := hb_row2 hb) | (have hx := hb_row hb)); obtain ⟨hr, hb1⟩ := hx; have HB := Lib.hid hb1; have rc := hr.cell; have rf := hr.frozen; have rl := hr.lt; clear hb hb1 hr))
    refine bodyPost_ret (v := rowV _) (by simp [results, Tryz.results160, go_sem, turnsOf, zRow, *]) rfl ⟨rfl, ?_⟩
    exact (((HB.out.setCell (Nat.le_refl _) _).setCell (Nat.le_refl _) _).setCell (Nat.le_refl _) _).setCell (Nat.le_refl _) _
  · clear hr
    go_enter Tryz.func160, Tryz.ntmps160
    go_wp2_with (first | (go_at_call 199; refine (isaMod_any _ _ _ _).mono ?_; rintro e w1 ⟨rfl, hb⟩; (first | (with_reducible have hx := hb_row2 hb) | (have hx := hb_row hb)); obtain ⟨hr, hb1⟩ := hx; have HB := Lib.hid hb1; have rc := hr.cell; have rf := hr.frozen; have rl := hr.lt; clear hb hb1 hr) | (go_at_call 154; refine (isaRow_any _ _ _ _).mono ?_; rintro e w1 ⟨rfl, hb⟩; (first | (with_reducible have hx := hb_row2 hb) | (have hx := hb_row hb)); obtain ⟨hr, hb1⟩ := hx; have HB := Lib.hid hb1; have rc := hr.cell; have rf := hr.frozen; have rl := hr.lt; clear hb hb1 hr) | (go_at_call 155; refine (isaBad_any _).mono ?_; rintro e w1 ⟨rfl, hb⟩; (first | (with_reducible have hx := hb_row2 hb) | (have hx := hb_row hb)); obtain ⟨hr, hb1⟩ := hx; have HB := Lib.hid hb1; have rc := hr.cell; have rf := hr.frozen; have rl := hr.lt; clear hb hb1 hr))
    refine bodyPost_ret (v := rowV _) (by simp [results, Tryz.results160, go_sem, turnsOf, zRow, *]) rfl ⟨rfl, ?_⟩
    exact (((HB.out.setCell (Nat.le_refl _) _).setCell (Nat.le_refl _) _).setCell (Nat.le_refl _) _).setCell (Nat.le_refl _) _
  · clear hr
    go_enter Tryz.func160, Tryz.ntmps160
    go_wp2_with (first | (go_at_call 199; refine (isaMod_any _ _ _ _).mono ?_; rintro e w1 ⟨rfl, hb⟩; (first | (with_reducible have hx := hb_row2 hb) | (have hx := hb_row hb)); obtain ⟨hr, hb1⟩ := hx; have HB := Lib.hid hb1; have rc := hr.cell; have rf := hr.frozen; have rl := hr.lt; clear hb hb1 hr) | (go_at_call 154; refine (isaRow_any _ _ _ _).mono ?_; rintro e w1 ⟨rfl, hb⟩; (first | (with_reducible have hx := hb_row2 hb) | (have hx := hb_row hb)); obtain ⟨hr, hb1⟩ := hx; have HB := Lib.hid hb1; have rc := hr.cell; have rf := hr.frozen; have rl := hr.lt; clear hb hb1 hr) | (go_at_call 155; refine (isaBad_any _).mono ?_; rintro e w1 ⟨rfl, hb⟩; (first | (with_reducible have hx := hb_row2 hb) | (have hx := hb_row hb)); obtain ⟨hr, hb1⟩ := hx; have HB := Lib.hid hb1; have rc := hr.cell; have rf := hr.frozen; have rl := hr.lt; clear hb hb1 hr))
    refine bodyPost_ret (v := rowV _) (by simp [results, Tryz.results160, go_sem, turnsOf, zRow, *]) rfl ⟨rfl, ?_⟩
    exact (((HB.out.setCell (Nat.le_refl _) _).setCell (Nat.le_refl _) _).setCell (Nat.le_refl _) _).setCell (Nat.le_refl _) _
  · clear hr
    go_enter Tryz.func160, Tryz.ntmps160
    go_wp2_with (first | (go_at_call 199; refine (isaMod_any _ _ _ _).mono ?_; rintro e w1 ⟨rfl, hb⟩; (first | (with_reducible have hx := hb_row2 hb) | (have hx := hb_row hb)); obtain ⟨hr, hb1⟩ := hx; have HB := Lib.hid hb1; have rc := hr.cell; have rf := hr.frozen; have rl := hr.lt; clear hb hb1 hr) | (go_at_call 154; refine (isaRow_any _ _ _ _).mono ?_; rintro e w1 ⟨rfl, hb⟩; (first | (with_reducible have hx := hb_row2 hb) | (have hx := hb_row hb)); obtain ⟨hr, hb1⟩ := hx; have HB := Lib.hid hb1; have rc := hr.cell; have rf := hr.frozen; have rl := hr.lt; clear hb hb1 hr) | (go_at_call 155; refine (isaBad_any _).mono ?_; rintro e w1 ⟨rfl, hb⟩; (first | (with_reducible have hx := hb_row2 hb) | (have hx := hb_row hb)); obtain ⟨hr, hb1⟩ := hx; have HB := Lib.hid hb1; have rc := hr.cell; have rf := hr.frozen; have rl := hr.lt; clear hb hb1 hr))
    refine bodyPost_ret (v := rowV _) (by simp [results, Tryz.results160, go_sem, turnsOf, zRow, *]) rfl ⟨rfl, ?_⟩
    exact (((HB.out.setCell (Nat.le_refl _) _).setCell (Nat.le_refl _) _).setCell (Nat.le_refl _) _).setCell (Nat.le_refl _) _
  · clear hr
    go_enter Tryz.func160, Tryz.ntmps160
    go_wp2_with (first | (go_at_call 199; refine (isaMod_any _ _ _ _).mono ?_; rintro e w1 ⟨rfl, hb⟩; (first | (with_reducible have hx := hb_row2 hb) | (have hx := hb_row hb)); obtain ⟨hr, hb1⟩ := hx; have HB := Lib.hid hb1; have rc := hr.cell; have rf := hr.frozen; have rl := hr.lt; clear hb hb1 hr) | (go_at_call 154; refine (isaRow_any _ _ _ _).mono ?_; rintro e w1 ⟨rfl, hb⟩; (first | (with_reducible have hx := hb_row2 hb) | (have hx := hb_row hb)); obtain ⟨hr, hb1⟩ := hx; have HB := Lib.hid hb1; have rc := hr.cell; have rf := hr.frozen; have rl := hr.lt; clear hb hb1 hr) | (go_at_call 155; refine (isaBad_any _).mono ?_; rintro e w1 ⟨rfl, hb⟩; (first | (with_reducible have hx := hb_row2 hb) | (have hx := hb_row hb)); obtain ⟨hr, hb1⟩ := hx; have HB := Lib.hid hb1; have rc := hr.cell; have rf := hr.frozen; have rl := hr.lt; clear hb hb1 hr))
    refine bodyPost_ret (v := rowV _) (by simp [results, Tryz.results160, go_sem, turnsOf, zRow, *]) rfl ⟨rfl, ?_⟩
    exact (((HB.out.setCell (Nat.le_refl _) _).setCell (Nat.le_refl _) _).setCell (Nat.le_refl _) _).setCell (Nat.le_refl _) _
  · clear hr
    go_enter Tryz.func160, Tryz.ntmps160
    go_wp2_with (first | (go_at_call 199; refine (isaMod_any _ _ _ _).mono ?_; rintro e w1 ⟨rfl, hb⟩; (first | (with_reducible have hx := hb_row2 hb) | (have hx := hb_row hb)); obtain ⟨hr, hb1⟩ := hx; have HB := Lib.hid hb1; have rc := hr.cell; have rf := hr.frozen; have rl := hr.lt; clear hb hb1 hr) | (go_at_call 154; refine (isaRow_any _ _ _ _).mono ?_; rintro e w1 ⟨rfl, hb⟩; (first | (with_reducible have hx := hb_row2 hb) | (have hx := hb_row hb)); obtain ⟨hr, hb1⟩ := hx; have HB := Lib.hid hb1; have rc := hr.cell; have rf := hr.frozen; have rl := hr.lt; clear hb hb1 hr) | (go_at_call 155; refine (isaBad_any _).mono ?_; rintro e w1 ⟨rfl, hb⟩; (first | (with_reducible have hx := hb_row2 hb) | (have hx := hb_row hb)); obtain ⟨hr, hb1⟩ := hx; have HB := Lib.hid hb1; have rc := hr.cell; have rf := hr.frozen; have rl := hr.lt; clear hb hb1 hr))
    refine bodyPost_ret (v := rowV _) (by simp [results, Tryz.results160, go_sem, turnsOf, zRow, *]) rfl ⟨rfl, ?_⟩
    exact (((HB.out.setCell (Nat.le_refl _) _).setCell (Nat.le_refl _) _).setCell (Nat.le_refl _) _).setCell (Nat.le_refl _) _
  · clear hr
    go_enter Tryz.func160, Tryz.ntmps160
    go_wp2_with (first | (go_at_call 199; refine (isaMod_any _ _ _ _).mono ?_; rintro e w1 ⟨rfl, hb⟩; (first | (with_reducible have hx := hb_row2 hb) | (have hx := hb_row hb)); obtain ⟨hr, hb1⟩ := hx; have HB := Lib.hid hb1; have rc := hr.cell; have rf := hr.frozen; have rl := hr.lt; clear hb hb1 hr) | (go_at_call 154; refine (isaRow_any _ _ _ _).mono ?_; rintro e w1 ⟨rfl, hb⟩; (first | (with_reducible have hx := hb_row2 hb) | (have hx := hb_row hb)); obtain ⟨hr, hb1⟩ := hx; have HB := Lib.hid hb1; have rc := hr.cell; have rf := hr.frozen; have rl := hr.lt; clear hb hb1 hr) | (go_at_call 155; refine (isaBad_any _).mono ?_; rintro e w1 ⟨rfl, hb⟩; (first | (with_reducible have hx := hb_row2 hb) | (have hx := hb_row hb)); obtain ⟨hr, hb1⟩ := hx; have HB := Lib.hid hb1; have rc := hr.cell; have rf := hr.frozen; have rl := hr.lt; clear hb hb1 hr))
    refine bodyPost_ret (v := rowV _) (by simp [results, Tryz.results160, go_sem, turnsOf, zRow, *]) rfl ⟨rfl, ?_⟩
    exact (((HB.out.setCell (Nat.le_refl _) _).setCell (Nat.le_refl _) _).setCell (Nat.le_refl _) _).setCell (Nat.le_refl _) _
  · clear hr
    go_enter Tryz.func160, Tryz.ntmps160
    go_wp2_with (first | (go_at_call 199; refine (isaMod_any _ _ _ _).mono ?_; rintro e w1 ⟨rfl, hb⟩; (first | (with_reducible have hx := hb_row2 hb) | (have hx := hb_row hb)); obtain ⟨hr, hb1⟩ := hx; have HB := Lib.hid hb1; have rc := hr.cell; have rf := hr.frozen; have rl := hr.lt; clear hb hb1 hr) | (go_at_call 154; refine (isaRow_any _ _ _ _).mono ?_; rintro e w1 ⟨rfl, hb⟩; (first | (with_reducible have hx := hb_row2 hb) | (have hx := hb_row hb)); obtain ⟨hr, hb1⟩ := hx; have HB := Lib.hid hb1; have rc := hr.cell; have rf := hr.frozen; have rl := hr.lt; clear hb hb1 hr) | (go_at_call 155; refine (isaBad_any _).mono ?_; rintro e w1 ⟨rfl, hb⟩; (first | (with_reducible have hx := hb_row2 hb) | (have hx := hb_row hb)); obtain ⟨hr, hb1⟩ := hx; have HB := Lib.hid hb1; have rc := hr.cell; have rf := hr.frozen; have rl := hr.lt; clear hb hb1 hr))
    refine bodyPost_ret (v := rowV _) (by simp [results, Tryz.results160, go_sem, turnsOf, zRow, *]) rfl ⟨rfl, ?_⟩
    exact (((HB.out.setCell (Nat.le_refl _) _).setCell (Nat.le_refl _) _).setCell (Nat.le_refl _) _).setCell (Nat.le_refl _) _

set_option maxRecDepth 100000 in
set_option maxHeartbeats 8000000 in
theorem goes_any (op : Int) (w : World) (h0 : 224 ≤ op) (h1 : op < 240) : Calls Tryz.prog 161 #[.int .u8 op] w fun e w' => e = .returned (rowV (goesOf op)) ∧ Below w.heap.size w w' := by
  have hc : op = 224 ∨ op = 225 ∨ op = 226 ∨ op = 227 ∨ op = 228 ∨ op = 229 ∨ op = 230 ∨ op = 231 ∨ op = 232 ∨ op = 233 ∨ op = 234 ∨ op = 235 ∨ op = 236 ∨ op = 237 ∨ op = 238 ∨ op = 239 := by omega
  clear h0 h1
  rcases hc with rfl | rfl | rfl | rfl | rfl | rfl | rfl | rfl | rfl | rfl | rfl | rfl | rfl | rfl | rfl | rfl
  all_goals
    go_enter Tryz.func161, Tryz.ntmps161
    go_wp2_with (first | (go_at_call 199; refine (isaMod_any _ _ _ _).mono ?_; rintro e w1 ⟨rfl, hb⟩; (first | (with_reducible have hx := hb_row2 hb) | (have hx := hb_row hb)); obtain ⟨hr, hb1⟩ := hx; have HB := Lib.hid hb1; have rc := hr.cell; have rf := hr.frozen; have rl := hr.lt; clear hb hb1 hr) | (go_at_call 154; refine (isaRow_any _ _ _ _).mono ?_; rintro e w1 ⟨rfl, hb⟩; (first | (with_reducible have hx := hb_row2 hb) | (have hx := hb_row hb)); obtain ⟨hr, hb1⟩ := hx; have HB := Lib.hid hb1; have rc := hr.cell; have rf := hr.frozen; have rl := hr.lt; clear hb hb1 hr) | (go_at_call 155; refine (isaBad_any _).mono ?_; rintro e w1 ⟨rfl, hb⟩; (first | (with_reducible have hx := hb_row2 hb) | (have hx := hb_row hb)); obtain ⟨hr, hb1⟩ := hx; have HB := Lib.hid hb1; have rc := hr.cell; have rf := hr.frozen; have rl := hr.lt; clear hb hb1 hr))
    refine bodyPost_ret (v := rowV _) (by simp [results, Tryz.results161, go_sem, goesOf, zRow, *]) rfl ⟨rfl, ?_⟩
    exact (((HB.out.setCell (Nat.le_refl _) _).setCell (Nat.le_refl _) _).setCell (Nat.le_refl _) _).setCell (Nat.le_refl _) _

set_option maxRecDepth 100000 in
set_option maxHeartbeats 8000000 in
theorem rest_any (op reg : Int) (w : World) (h0 : 240 ≤ op) (h1 : op < 256) (r0 : 0 ≤ reg) (r1 : reg ≤ 7) : Calls Tryz.prog 162 #[.int .u8 op, .int .i64 reg] w fun e w' => e = .returned (rowV (restOf op reg)) ∧ Below w.heap.size w w' := by
  have hc : op = 240 ∨ op = 241 ∨ op = 242 ∨ op = 243 ∨ op = 244 ∨ op = 245 ∨ op = 246 ∨ op = 247 ∨ op = 248 ∨ op = 249 ∨ op = 250 ∨ op = 251 ∨ op = 252 ∨ op = 253 ∨ op = 254 ∨ op = 255 := by omega
  have hr : reg = 0 ∨ reg = 1 ∨ reg = 2 ∨ reg = 3 ∨ reg = 4 ∨ reg = 5 ∨ reg = 6 ∨ reg = 7 := by omega
  clear h0 h1
  rcases hc with rfl | rfl | rfl | rfl | rfl | rfl | rfl | rfl | rfl | rfl | rfl | rfl | rfl | rfl | rfl | rfl
  · clear hr
    have hk1 : bits .and .u8 240 1 = 0 := by decide
    go_enter Tryz.func162, Tryz.ntmps162
    go_wp2_with (first | (go_at_call 199; refine (isaMod_any _ _ _ _).mono ?_; rintro e w1 ⟨rfl, hb⟩; (first | (with_reducible have hx := hb_row2 hb) | (have hx := hb_row hb)); obtain ⟨hr, hb1⟩ := hx; have HB := Lib.hid hb1; have rc := hr.cell; have rf := hr.frozen; have rl := hr.lt; clear hb hb1 hr) | (go_at_call 154; refine (isaRow_any _ _ _ _).mono ?_; rintro e w1 ⟨rfl, hb⟩; (first | (with_reducible have hx := hb_row2 hb) | (have hx := hb_row hb)); obtain ⟨hr, hb1⟩ := hx; have HB := Lib.hid hb1; have rc := hr.cell; have rf := hr.frozen; have rl := hr.lt; clear hb hb1 hr) | (go_at_call 155; refine (isaBad_any _).mono ?_; rintro e w1 ⟨rfl, hb⟩; (first | (with_reducible have hx := hb_row2 hb) | (have hx := hb_row hb)); obtain ⟨hr, hb1⟩ := hx; have HB := Lib.hid hb1; have rc := hr.cell; have rf := hr.frozen; have rl := hr.lt; clear hb hb1 hr))
    refine bodyPost_ret (v := rowV _) (by simp [results, Tryz.results162, go_sem, restOf, zRow, *]) rfl ⟨rfl, ?_⟩
    exact (((HB.out.setCell (Nat.le_refl _) _).setCell (Nat.le_refl _) _).setCell (Nat.le_refl _) _).setCell (Nat.le_refl _) _
  · clear hr
    have hk1 : bits .and .u8 241 1 = 1 := by decide
    go_enter Tryz.func162, Tryz.ntmps162
    go_wp2_with (first | (go_at_call 199; refine (isaMod_any _ _ _ _).mono ?_; rintro e w1 ⟨rfl, hb⟩; (first | (with_reducible have hx := hb_row2 hb) | (have hx := hb_row hb)); obtain ⟨hr, hb1⟩ := hx; have HB := Lib.hid hb1; have rc := hr.cell; have rf := hr.frozen; have rl := hr.lt; clear hb hb1 hr) | (go_at_call 154; refine (isaRow_any _ _ _ _).mono ?_; rintro e w1 ⟨rfl, hb⟩; (first | (with_reducible have hx := hb_row2 hb) | (have hx := hb_row hb)); obtain ⟨hr, hb1⟩ := hx; have HB := Lib.hid hb1; have rc := hr.cell; have rf := hr.frozen; have rl := hr.lt; clear hb hb1 hr) | (go_at_call 155; refine (isaBad_any _).mono ?_; rintro e w1 ⟨rfl, hb⟩; (first | (with_reducible have hx := hb_row2 hb) | (have hx := hb_row hb)); obtain ⟨hr, hb1⟩ := hx; have HB := Lib.hid hb1; have rc := hr.cell; have rf := hr.frozen; have rl := hr.lt; clear hb hb1 hr))
    refine bodyPost_ret (v := rowV _) (by simp [results, Tryz.results162, go_sem, restOf, zRow, *]) rfl ⟨rfl, ?_⟩
    exact (((HB.out.setCell (Nat.le_refl _) _).setCell (Nat.le_refl _) _).setCell (Nat.le_refl _) _).setCell (Nat.le_refl _) _
  · clear hr
    have hk1 : bits .and .u8 242 1 = 0 := by decide
    go_enter Tryz.func162, Tryz.ntmps162
    go_wp2_with (first | (go_at_call 199; refine (isaMod_any _ _ _ _).mono ?_; rintro e w1 ⟨rfl, hb⟩; (first | (with_reducible have hx := hb_row2 hb) | (have hx := hb_row hb)); obtain ⟨hr, hb1⟩ := hx; have HB := Lib.hid hb1; have rc := hr.cell; have rf := hr.frozen; have rl := hr.lt; clear hb hb1 hr) | (go_at_call 154; refine (isaRow_any _ _ _ _).mono ?_; rintro e w1 ⟨rfl, hb⟩; (first | (with_reducible have hx := hb_row2 hb) | (have hx := hb_row hb)); obtain ⟨hr, hb1⟩ := hx; have HB := Lib.hid hb1; have rc := hr.cell; have rf := hr.frozen; have rl := hr.lt; clear hb hb1 hr) | (go_at_call 155; refine (isaBad_any _).mono ?_; rintro e w1 ⟨rfl, hb⟩; (first | (with_reducible have hx := hb_row2 hb) | (have hx := hb_row hb)); obtain ⟨hr, hb1⟩ := hx; have HB := Lib.hid hb1; have rc := hr.cell; have rf := hr.frozen; have rl := hr.lt; clear hb hb1 hr))
    refine bodyPost_ret (v := rowV _) (by simp [results, Tryz.results162, go_sem, restOf, zRow, *]) rfl ⟨rfl, ?_⟩
    exact (((HB.out.setCell (Nat.le_refl _) _).setCell (Nat.le_refl _) _).setCell (Nat.le_refl _) _).setCell (Nat.le_refl _) _
  · clear hr
    have hk1 : bits .and .u8 243 1 = 1 := by decide
    go_enter Tryz.func162, Tryz.ntmps162
    go_wp2_with (first | (go_at_call 199; refine (isaMod_any _ _ _ _).mono ?_; rintro e w1 ⟨rfl, hb⟩; (first | (with_reducible have hx := hb_row2 hb) | (have hx := hb_row hb)); obtain ⟨hr, hb1⟩ := hx; have HB := Lib.hid hb1; have rc := hr.cell; have rf := hr.frozen; have rl := hr.lt; clear hb hb1 hr) | (go_at_call 154; refine (isaRow_any _ _ _ _).mono ?_; rintro e w1 ⟨rfl, hb⟩; (first | (with_reducible have hx := hb_row2 hb) | (have hx := hb_row hb)); obtain ⟨hr, hb1⟩ := hx; have HB := Lib.hid hb1; have rc := hr.cell; have rf := hr.frozen; have rl := hr.lt; clear hb hb1 hr) | (go_at_call 155; refine (isaBad_any _).mono ?_; rintro e w1 ⟨rfl, hb⟩; (first | (with_reducible have hx := hb_row2 hb) | (have hx := hb_row hb)); obtain ⟨hr, hb1⟩ := hx; have HB := Lib.hid hb1; have rc := hr.cell; have rf := hr.frozen; have rl := hr.lt; clear hb hb1 hr))
    refine bodyPost_ret (v := rowV _) (by simp [results, Tryz.results162, go_sem, restOf, zRow, *]) rfl ⟨rfl, ?_⟩
    exact (((HB.out.setCell (Nat.le_refl _) _).setCell (Nat.le_refl _) _).setCell (Nat.le_refl _) _).setCell (Nat.le_refl _) _
  · clear hr
    have hk1 : bits .and .u8 244 1 = 0 := by decide
    go_enter Tryz.func162, Tryz.ntmps162
    go_wp2_with (first | (go_at_call 199; refine (isaMod_any _ _ _ _).mono ?_; rintro e w1 ⟨rfl, hb⟩; (first | (with_reducible have hx := hb_row2 hb) | (have hx := hb_row hb)); obtain ⟨hr, hb1⟩ := hx; have HB := Lib.hid hb1; have rc := hr.cell; have rf := hr.frozen; have rl := hr.lt; clear hb hb1 hr) | (go_at_call 154; refine (isaRow_any _ _ _ _).mono ?_; rintro e w1 ⟨rfl, hb⟩; (first | (with_reducible have hx := hb_row2 hb) | (have hx := hb_row hb)); obtain ⟨hr, hb1⟩ := hx; have HB := Lib.hid hb1; have rc := hr.cell; have rf := hr.frozen; have rl := hr.lt; clear hb hb1 hr) | (go_at_call 155; refine (isaBad_any _).mono ?_; rintro e w1 ⟨rfl, hb⟩; (first | (with_reducible have hx := hb_row2 hb) | (have hx := hb_row hb)); obtain ⟨hr, hb1⟩ := hx; have HB := Lib.hid hb1; have rc := hr.cell; have rf := hr.frozen; have rl := hr.lt; clear hb hb1 hr))
    refine bodyPost_ret (v := rowV _) (by simp [results, Tryz.results162, go_sem, restOf, zRow, *]) rfl ⟨rfl, ?_⟩
    exact (((HB.out.setCell (Nat.le_refl _) _).setCell (Nat.le_refl _) _).setCell (Nat.le_refl _) _).setCell (Nat.le_refl _) _
  · clear hr
    have hk1 : bits .and .u8 245 1 = 1 := by decide
    go_enter Tryz.func162, Tryz.ntmps162
    go_wp2_with (first | (go_at_call 199; refine (isaMod_any _ _ _ _).mono ?_; rintro e w1 ⟨rfl, hb⟩; (first | (with_reducible have hx := hb_row2 hb) | (have hx := hb_row hb)); obtain ⟨hr, hb1⟩ := hx; have HB := Lib.hid hb1; have rc := hr.cell; have rf := hr.frozen; have rl := hr.lt; clear hb hb1 hr) | (go_at_call 154; refine (isaRow_any _ _ _ _).mono ?_; rintro e w1 ⟨rfl, hb⟩; (first | (with_reducible have hx := hb_row2 hb) | (have hx := hb_row hb)); obtain ⟨hr, hb1⟩ := hx; have HB := Lib.hid hb1; have rc := hr.cell; have rf := hr.frozen; have rl := hr.lt; clear hb hb1 hr) | (go_at_call 155; refine (isaBad_any _).mono ?_; rintro e w1 ⟨rfl, hb⟩; (first | (with_reducible have hx := hb_row2 hb) | (have hx := hb_row hb)); obtain ⟨hr, hb1⟩ := hx; have HB := Lib.hid hb1; have rc := hr.cell; have rf := hr.frozen; have rl := hr.lt; clear hb hb1 hr))
    refine bodyPost_ret (v := rowV _) (by simp [results, Tryz.results162, go_sem, restOf, zRow, *]) rfl ⟨rfl, ?_⟩
    exact (((HB.out.setCell (Nat.le_refl _) _).setCell (Nat.le_refl _) _).setCell (Nat.le_refl _) _).setCell (Nat.le_refl _) _
  · clear r0 r1
    have hk1 : bits .and .u8 246 1 = 0 := by decide
    rcases hr with rfl | rfl | rfl | rfl | rfl | rfl | rfl | rfl
    all_goals
      go_enter Tryz.func162, Tryz.ntmps162
      go_wp2_with (first | (go_at_call 199; refine (isaMod_any _ _ _ _).mono ?_; rintro e w1 ⟨rfl, hb⟩; (first | (with_reducible have hx := hb_row2 hb) | (have hx := hb_row hb)); obtain ⟨hr, hb1⟩ := hx; have HB := Lib.hid hb1; have rc := hr.cell; have rf := hr.frozen; have rl := hr.lt; clear hb hb1 hr) | (go_at_call 154; refine (isaRow_any _ _ _ _).mono ?_; rintro e w1 ⟨rfl, hb⟩; (first | (with_reducible have hx := hb_row2 hb) | (have hx := hb_row hb)); obtain ⟨hr, hb1⟩ := hx; have HB := Lib.hid hb1; have rc := hr.cell; have rf := hr.frozen; have rl := hr.lt; clear hb hb1 hr) | (go_at_call 155; refine (isaBad_any _).mono ?_; rintro e w1 ⟨rfl, hb⟩; (first | (with_reducible have hx := hb_row2 hb) | (have hx := hb_row hb)); obtain ⟨hr, hb1⟩ := hx; have HB := Lib.hid hb1; have rc := hr.cell; have rf := hr.frozen; have rl := hr.lt; clear hb hb1 hr))
      refine bodyPost_ret (v := rowV _) (by simp [results, Tryz.results162, go_sem, restOf, zRow, *]) rfl ⟨rfl, ?_⟩
      exact (((HB.out.setCell (Nat.le_refl _) _).setCell (Nat.le_refl _) _).setCell (Nat.le_refl _) _).setCell (Nat.le_refl _) _
  · clear r0 r1
    have hk1 : bits .and .u8 247 1 = 1 := by decide
    rcases hr with rfl | rfl | rfl | rfl | rfl | rfl | rfl | rfl
    all_goals
      go_enter Tryz.func162, Tryz.ntmps162
      go_wp2_with (first | (go_at_call 199; refine (isaMod_any _ _ _ _).mono ?_; rintro e w1 ⟨rfl, hb⟩; (first | (with_reducible have hx := hb_row2 hb) | (have hx := hb_row hb)); obtain ⟨hr, hb1⟩ := hx; have HB := Lib.hid hb1; have rc := hr.cell; have rf := hr.frozen; have rl := hr.lt; clear hb hb1 hr) | (go_at_call 154; refine (isaRow_any _ _ _ _).mono ?_; rintro e w1 ⟨rfl, hb⟩; (first | (with_reducible have hx := hb_row2 hb) | (have hx := hb_row hb)); obtain ⟨hr, hb1⟩ := hx; have HB := Lib.hid hb1; have rc := hr.cell; have rf := hr.frozen; have rl := hr.lt; clear hb hb1 hr) | (go_at_call 155; refine (isaBad_any _).mono ?_; rintro e w1 ⟨rfl, hb⟩; (first | (with_reducible have hx := hb_row2 hb) | (have hx := hb_row hb)); obtain ⟨hr, hb1⟩ := hx; have HB := Lib.hid hb1; have rc := hr.cell; have rf := hr.frozen; have rl := hr.lt; clear hb hb1 hr))
      refine bodyPost_ret (v := rowV _) (by simp [results, Tryz.results162, go_sem, restOf, zRow, *]) rfl ⟨rfl, ?_⟩
      exact (((HB.out.setCell (Nat.le_refl _) _).setCell (Nat.le_refl _) _).setCell (Nat.le_refl _) _).setCell (Nat.le_refl _) _
  · clear hr
    have hk1 : bits .and .u8 248 1 = 0 := by decide
    go_enter Tryz.func162, Tryz.ntmps162
    go_wp2_with (first | (go_at_call 199; refine (isaMod_any _ _ _ _).mono ?_; rintro e w1 ⟨rfl, hb⟩; (first | (with_reducible have hx := hb_row2 hb) | (have hx := hb_row hb)); obtain ⟨hr, hb1⟩ := hx; have HB := Lib.hid hb1; have rc := hr.cell; have rf := hr.frozen; have rl := hr.lt; clear hb hb1 hr) | (go_at_call 154; refine (isaRow_any _ _ _ _).mono ?_; rintro e w1 ⟨rfl, hb⟩; (first | (with_reducible have hx := hb_row2 hb) | (have hx := hb_row hb)); obtain ⟨hr, hb1⟩ := hx; have HB := Lib.hid hb1; have rc := hr.cell; have rf := hr.frozen; have rl := hr.lt; clear hb hb1 hr) | (go_at_call 155; refine (isaBad_any _).mono ?_; rintro e w1 ⟨rfl, hb⟩; (first | (with_reducible have hx := hb_row2 hb) | (have hx := hb_row hb)); obtain ⟨hr, hb1⟩ := hx; have HB := Lib.hid hb1; have rc := hr.cell; have rf := hr.frozen; have rl := hr.lt; clear hb hb1 hr))
    refine bodyPost_ret (v := rowV _) (by simp [results, Tryz.results162, go_sem, restOf, zRow, *]) rfl ⟨rfl, ?_⟩
    exact (((HB.out.setCell (Nat.le_refl _) _).setCell (Nat.le_refl _) _).setCell (Nat.le_refl _) _).setCell (Nat.le_refl _) _
  · clear hr
    have hk1 : bits .and .u8 249 1 = 1 := by decide
    go_enter Tryz.func162, Tryz.ntmps162
    go_wp2_with (first | (go_at_call 199; refine (isaMod_any _ _ _ _).mono ?_; rintro e w1 ⟨rfl, hb⟩; (first | (with_reducible have hx := hb_row2 hb) | (have hx := hb_row hb)); obtain ⟨hr, hb1⟩ := hx; have HB := Lib.hid hb1; have rc := hr.cell; have rf := hr.frozen; have rl := hr.lt; clear hb hb1 hr) | (go_at_call 154; refine (isaRow_any _ _ _ _).mono ?_; rintro e w1 ⟨rfl, hb⟩; (first | (with_reducible have hx := hb_row2 hb) | (have hx := hb_row hb)); obtain ⟨hr, hb1⟩ := hx; have HB := Lib.hid hb1; have rc := hr.cell; have rf := hr.frozen; have rl := hr.lt; clear hb hb1 hr) | (go_at_call 155; refine (isaBad_any _).mono ?_; rintro e w1 ⟨rfl, hb⟩; (first | (with_reducible have hx := hb_row2 hb) | (have hx := hb_row hb)); obtain ⟨hr, hb1⟩ := hx; have HB := Lib.hid hb1; have rc := hr.cell; have rf := hr.frozen; have rl := hr.lt; clear hb hb1 hr))
    refine bodyPost_ret (v := rowV _) (by simp [results, Tryz.results162, go_sem, restOf, zRow, *]) rfl ⟨rfl, ?_⟩
    exact (((HB.out.setCell (Nat.le_refl _) _).setCell (Nat.le_refl _) _).setCell (Nat.le_refl _) _).setCell (Nat.le_refl _) _
  · clear hr
    have hk1 : bits .and .u8 250 1 = 0 := by decide
    go_enter Tryz.func162, Tryz.ntmps162
    go_wp2_with (first | (go_at_call 199; refine (isaMod_any _ _ _ _).mono ?_; rintro e w1 ⟨rfl, hb⟩; (first | (with_reducible have hx := hb_row2 hb) | (have hx := hb_row hb)); obtain ⟨hr, hb1⟩ := hx; have HB := Lib.hid hb1; have rc := hr.cell; have rf := hr.frozen; have rl := hr.lt; clear hb hb1 hr) | (go_at_call 154; refine (isaRow_any _ _ _ _).mono ?_; rintro e w1 ⟨rfl, hb⟩; (first | (with_reducible have hx := hb_row2 hb) | (have hx := hb_row hb)); obtain ⟨hr, hb1⟩ := hx; have HB := Lib.hid hb1; have rc := hr.cell; have rf := hr.frozen; have rl := hr.lt; clear hb hb1 hr) | (go_at_call 155; refine (isaBad_any _).mono ?_; rintro e w1 ⟨rfl, hb⟩; (first | (with_reducible have hx := hb_row2 hb) | (have hx := hb_row hb)); obtain ⟨hr, hb1⟩ := hx; have HB := Lib.hid hb1; have rc := hr.cell; have rf := hr.frozen; have rl := hr.lt; clear hb hb1 hr))
    refine bodyPost_ret (v := rowV _) (by simp [results, Tryz.results162, go_sem, restOf, zRow, *]) rfl ⟨rfl, ?_⟩
    exact (((HB.out.setCell (Nat.le_refl _) _).setCell (Nat.le_refl _) _).setCell (Nat.le_refl _) _).setCell (Nat.le_refl _) _
  · clear hr
    have hk1 : bits .and .u8 251 1 = 1 := by decide
    go_enter Tryz.func162, Tryz.ntmps162
    go_wp2_with (first | (go_at_call 199; refine (isaMod_any _ _ _ _).mono ?_; rintro e w1 ⟨rfl, hb⟩; (first | (with_reducible have hx := hb_row2 hb) | (have hx := hb_row hb)); obtain ⟨hr, hb1⟩ := hx; have HB := Lib.hid hb1; have rc := hr.cell; have rf := hr.frozen; have rl := hr.lt; clear hb hb1 hr) | (go_at_call 154; refine (isaRow_any _ _ _ _).mono ?_; rintro e w1 ⟨rfl, hb⟩; (first | (with_reducible have hx := hb_row2 hb) | (have hx := hb_row hb)); obtain ⟨hr, hb1⟩ := hx; have HB := Lib.hid hb1; have rc := hr.cell; have rf := hr.frozen; have rl := hr.lt; clear hb hb1 hr) | (go_at_call 155; refine (isaBad_any _).mono ?_; rintro e w1 ⟨rfl, hb⟩; (first | (with_reducible have hx := hb_row2 hb) | (have hx := hb_row hb)); obtain ⟨hr, hb1⟩ := hx; have HB := Lib.hid hb1; have rc := hr.cell; have rf := hr.frozen; have rl := hr.lt; clear hb hb1 hr))
    refine bodyPost_ret (v := rowV _) (by simp [results, Tryz.results162, go_sem, restOf, zRow, *]) rfl ⟨rfl, ?_⟩
    exact (((HB.out.setCell (Nat.le_refl _) _).setCell (Nat.le_refl _) _).setCell (Nat.le_refl _) _).setCell (Nat.le_refl _) _
  · clear hr
    have hk1 : bits .and .u8 252 1 = 0 := by decide
    go_enter Tryz.func162, Tryz.ntmps162
    go_wp2_with (first | (go_at_call 199; refine (isaMod_any _ _ _ _).mono ?_; rintro e w1 ⟨rfl, hb⟩; (first | (with_reducible have hx := hb_row2 hb) | (have hx := hb_row hb)); obtain ⟨hr, hb1⟩ := hx; have HB := Lib.hid hb1; have rc := hr.cell; have rf := hr.frozen; have rl := hr.lt; clear hb hb1 hr) | (go_at_call 154; refine (isaRow_any _ _ _ _).mono ?_; rintro e w1 ⟨rfl, hb⟩; (first | (with_reducible have hx := hb_row2 hb) | (have hx := hb_row hb)); obtain ⟨hr, hb1⟩ := hx; have HB := Lib.hid hb1; have rc := hr.cell; have rf := hr.frozen; have rl := hr.lt; clear hb hb1 hr) | (go_at_call 155; refine (isaBad_any _).mono ?_; rintro e w1 ⟨rfl, hb⟩; (first | (with_reducible have hx := hb_row2 hb) | (have hx := hb_row hb)); obtain ⟨hr, hb1⟩ := hx; have HB := Lib.hid hb1; have rc := hr.cell; have rf := hr.frozen; have rl := hr.lt; clear hb hb1 hr))
    refine bodyPost_ret (v := rowV _) (by simp [results, Tryz.results162, go_sem, restOf, zRow, *]) rfl ⟨rfl, ?_⟩
    exact (((HB.out.setCell (Nat.le_refl _) _).setCell (Nat.le_refl _) _).setCell (Nat.le_refl _) _).setCell (Nat.le_refl _) _
  · clear hr
    have hk1 : bits .and .u8 253 1 = 1 := by decide
    go_enter Tryz.func162, Tryz.ntmps162
    go_wp2_with (first | (go_at_call 199; refine (isaMod_any _ _ _ _).mono ?_; rintro e w1 ⟨rfl, hb⟩; (first | (with_reducible have hx := hb_row2 hb) | (have hx := hb_row hb)); obtain ⟨hr, hb1⟩ := hx; have HB := Lib.hid hb1; have rc := hr.cell; have rf := hr.frozen; have rl := hr.lt; clear hb hb1 hr) | (go_at_call 154; refine (isaRow_any _ _ _ _).mono ?_; rintro e w1 ⟨rfl, hb⟩; (first | (with_reducible have hx := hb_row2 hb) | (have hx := hb_row hb)); obtain ⟨hr, hb1⟩ := hx; have HB := Lib.hid hb1; have rc := hr.cell; have rf := hr.frozen; have rl := hr.lt; clear hb hb1 hr) | (go_at_call 155; refine (isaBad_any _).mono ?_; rintro e w1 ⟨rfl, hb⟩; (first | (with_reducible have hx := hb_row2 hb) | (have hx := hb_row hb)); obtain ⟨hr, hb1⟩ := hx; have HB := Lib.hid hb1; have rc := hr.cell; have rf := hr.frozen; have rl := hr.lt; clear hb hb1 hr))
    refine bodyPost_ret (v := rowV _) (by simp [results, Tryz.results162, go_sem, restOf, zRow, *]) rfl ⟨rfl, ?_⟩
    exact (((HB.out.setCell (Nat.le_refl _) _).setCell (Nat.le_refl _) _).setCell (Nat.le_refl _) _).setCell (Nat.le_refl _) _
  · clear r0 r1
    have hk1 : bits .and .u8 254 1 = 0 := by decide
    rcases hr with rfl | rfl | rfl | rfl | rfl | rfl | rfl | rfl
    all_goals
      go_enter Tryz.func162, Tryz.ntmps162
      go_wp2_with (first | (go_at_call 199; refine (isaMod_any _ _ _ _).mono ?_; rintro e w1 ⟨rfl, hb⟩; (first | (with_reducible have hx := hb_row2 hb) | (have hx := hb_row hb)); obtain ⟨hr, hb1⟩ := hx; have HB := Lib.hid hb1; have rc := hr.cell; have rf := hr.frozen; have rl := hr.lt; clear hb hb1 hr) | (go_at_call 154; refine (isaRow_any _ _ _ _).mono ?_; rintro e w1 ⟨rfl, hb⟩; (first | (with_reducible have hx := hb_row2 hb) | (have hx := hb_row hb)); obtain ⟨hr, hb1⟩ := hx; have HB := Lib.hid hb1; have rc := hr.cell; have rf := hr.frozen; have rl := hr.lt; clear hb hb1 hr) | (go_at_call 155; refine (isaBad_any _).mono ?_; rintro e w1 ⟨rfl, hb⟩; (first | (with_reducible have hx := hb_row2 hb) | (have hx := hb_row hb)); obtain ⟨hr, hb1⟩ := hx; have HB := Lib.hid hb1; have rc := hr.cell; have rf := hr.frozen; have rl := hr.lt; clear hb hb1 hr))
      refine bodyPost_ret (v := rowV _) (by simp [results, Tryz.results162, go_sem, restOf, zRow, *]) rfl ⟨rfl, ?_⟩
      exact (((HB.out.setCell (Nat.le_refl _) _).setCell (Nat.le_refl _) _).setCell (Nat.le_refl _) _).setCell (Nat.le_refl _) _
  · clear r0 r1
    have hk1 : bits .and .u8 255 1 = 1 := by decide
    rcases hr with rfl | rfl | rfl | rfl | rfl | rfl | rfl | rfl
    all_goals
      go_enter Tryz.func162, Tryz.ntmps162
      go_wp2_with (first | (go_at_call 199; refine (isaMod_any _ _ _ _).mono ?_; rintro e w1 ⟨rfl, hb⟩; (first | (with_reducible have hx := hb_row2 hb) | (have hx := hb_row hb)); obtain ⟨hr, hb1⟩ := hx; have HB := Lib.hid hb1; have rc := hr.cell; have rf := hr.frozen; have rl := hr.lt; clear hb hb1 hr) | (go_at_call 154; refine (isaRow_any _ _ _ _).mono ?_; rintro e w1 ⟨rfl, hb⟩; (first | (with_reducible have hx := hb_row2 hb) | (have hx := hb_row hb)); obtain ⟨hr, hb1⟩ := hx; have HB := Lib.hid hb1; have rc := hr.cell; have rf := hr.frozen; have rl := hr.lt; clear hb hb1 hr) | (go_at_call 155; refine (isaBad_any _).mono ?_; rintro e w1 ⟨rfl, hb⟩; (first | (with_reducible have hx := hb_row2 hb) | (have hx := hb_row hb)); obtain ⟨hr, hb1⟩ := hx; have HB := Lib.hid hb1; have rc := hr.cell; have rf := hr.frozen; have rl := hr.lt; clear hb hb1 hr))
      refine bodyPost_ret (v := rowV _) (by simp [results, Tryz.results162, go_sem, restOf, zRow, *]) rfl ⟨rfl, ?_⟩
      exact (((HB.out.setCell (Nat.le_refl _) _).setCell (Nat.le_refl _) _).setCell (Nat.le_refl _) _).setCell (Nat.le_refl _) _
end Go.Proofs.YtcglkefaopgjeaaGreatDoor

/- isa.Of. -/
namespace Go.Proofs.YtcglkefaopgjeaaGreatDoor
set_option linter.unusedSimpArgs false
set_option linter.unusedVariables false
open Go.RowKit



theorem i64_and7 (n : Int) : bits .and .i64 n 7 = n % 8 := by
  have h7 : (BitVec.ofInt 64 7).toNat = 2 ^ 3 - 1 := by decide
  have key : (BitVec.ofInt 64 n &&& BitVec.ofInt 64 7).toNat = (n % ((2 ^ 64 : Nat) : Int)).toNat % 2 ^ 3 := by
    rw [BitVec.toNat_and, BitVec.toNat_ofInt, h7, Nat.and_two_pow_sub_one_eq_mod]
  show IntKind.i64.wrap ((BitVec.ofInt 64 n &&& BitVec.ofInt 64 7).toNat : Nat) = n % 8
  rw [key, IntKind.wrap_i64]
  omega

set_option maxRecDepth 100000 in
set_option maxHeartbeats 8000000 in
theorem isaOf_any (op reg : Int) (w : World) (h0 : 0 ≤ op) (h1 : op ≤ 255) (r0 : 0 ≤ reg) (r1 : reg ≤ 7) : Calls Tryz.prog 103 #[.int .u8 op, .int .i64 reg] w fun e w' => e = .returned (rowV (isaOf op reg)) ∧ Below w.heap.size w w' := by
  have hreg : bits .and .i64 reg 7 = reg := by rw [i64_and7 reg]; omega
  have hc : (0 ≤ op ∧ op < 64) ∨ (64 ≤ op ∧ op < 96) ∨ (96 ≤ op ∧ op < 112) ∨ (112 ≤ op ∧ op < 128) ∨ (128 ≤ op ∧ op < 144) ∨ (144 ≤ op ∧ op < 160) ∨ (160 ≤ op ∧ op < 176) ∨ (176 ≤ op ∧ op < 184) ∨ (184 ≤ op ∧ op < 192) ∨ (192 ≤ op ∧ op < 208) ∨ (208 ≤ op ∧ op < 224) ∨ (224 ≤ op ∧ op < 240) ∨ (240 ≤ op ∧ op < 256) := by omega
  rcases hc with ⟨g0, g1⟩ | ⟨g0, g1⟩ | ⟨g0, g1⟩ | ⟨g0, g1⟩ | ⟨g0, g1⟩ | ⟨g0, g1⟩ | ⟨g0, g1⟩ | ⟨g0, g1⟩ | ⟨g0, g1⟩ | ⟨g0, g1⟩ | ⟨g0, g1⟩ | ⟨g0, g1⟩ | ⟨g0, g1⟩
  · have t0 : decide (op < 64) = true := decide_eq_true (by omega)
    have he : isaOf op reg = sumsOf op := by unfold isaOf; repeat (first | rw [if_neg (by omega)] | rw [if_pos (by omega)])
    rw [he]
    have HE := Lib.hid he
    clear he
    go_enter Tryz.func103, Tryz.ntmps103
    go_wp2_with (go_at_call 153; refine (sums_any op _ (by omega) (by omega)).mono ?_; rintro e w1 ⟨rfl, hb⟩; (first | (with_reducible have hx := hb_row2 hb) | (have hx := hb_row hb)); obtain ⟨hr, hb1⟩ := hx; have HB := Lib.hid hb1; have rc := hr.cell; have rf := hr.frozen; have rl := hr.lt; clear hb hb1 hr)
    refine bodyPost_ret (v := rowV _) (by simp [results, Tryz.results103, go_sem, zRow, *]) rfl ⟨rfl, ?_⟩
    exact (((HB.out.setCell (Nat.le_refl _) _).setCell (Nat.le_refl _) _).setCell (Nat.le_refl _) _).setCell (Nat.le_refl _) _
  · have hc : op = 64 ∨ op = 65 ∨ op = 66 ∨ op = 67 ∨ op = 68 ∨ op = 69 ∨ op = 70 ∨ op = 71 ∨ op = 72 ∨ op = 73 ∨ op = 74 ∨ op = 75 ∨ op = 76 ∨ op = 77 ∨ op = 78 ∨ op = 79 ∨ op = 80 ∨ op = 81 ∨ op = 82 ∨ op = 83 ∨ op = 84 ∨ op = 85 ∨ op = 86 ∨ op = 87 ∨ op = 88 ∨ op = 89 ∨ op = 90 ∨ op = 91 ∨ op = 92 ∨ op = 93 ∨ op = 94 ∨ op = 95 := by omega
    clear h0 h1 g0 g1 r0 r1
    rcases hc with rfl | rfl | rfl | rfl | rfl | rfl | rfl | rfl | rfl | rfl | rfl | rfl | rfl | rfl | rfl | rfl | rfl | rfl | rfl | rfl | rfl | rfl | rfl | rfl | rfl | rfl | rfl | rfl | rfl | rfl | rfl | rfl
    all_goals
      go_enter Tryz.func103, Tryz.ntmps103
      go_wp2_with (go_at_call 154; refine (isaRow_any _ _ _ _).mono ?_; rintro e w1 ⟨rfl, hb⟩; (first | (with_reducible have hx := hb_row2 hb) | (have hx := hb_row hb)); obtain ⟨hr, hb1⟩ := hx; have HB := Lib.hid hb1; have rc := hr.cell; have rf := hr.frozen; have rl := hr.lt; clear hb hb1 hr)
      refine bodyPost_ret (v := rowV _) (by simp [results, Tryz.results103, go_sem, isaOf, *]) rfl ⟨rfl, ?_⟩
      exact (((HB.out.setCell (Nat.le_refl _) _).setCell (Nat.le_refl _) _).setCell (Nat.le_refl _) _).setCell (Nat.le_refl _) _
  · have t0 : decide (op < 64) = false := decide_eq_false (by omega); have t1 : decide (op < 96) = false := decide_eq_false (by omega); have t2 : decide (op < 112) = true := decide_eq_true (by omega)
    have he : isaOf op reg = none := by unfold isaOf; repeat (first | rw [if_neg (by omega)] | rw [if_pos (by omega)])
    rw [he]
    have HE := Lib.hid he
    clear he
    go_enter Tryz.func103, Tryz.ntmps103
    go_wp2_with (go_at_call 155; refine (isaBad_any _).mono ?_; rintro e w1 ⟨rfl, hb⟩; (first | (with_reducible have hx := hb_row2 hb) | (have hx := hb_row hb)); obtain ⟨hr, hb1⟩ := hx; have HB := Lib.hid hb1; have rc := hr.cell; have rf := hr.frozen; have rl := hr.lt; clear hb hb1 hr)
    refine bodyPost_ret (v := rowV _) (by simp [results, Tryz.results103, go_sem, zRow, *]) rfl ⟨rfl, ?_⟩
    exact (((HB.out.setCell (Nat.le_refl _) _).setCell (Nat.le_refl _) _).setCell (Nat.le_refl _) _).setCell (Nat.le_refl _) _
  · have t0 : decide (op < 64) = false := decide_eq_false (by omega); have t1 : decide (op < 96) = false := decide_eq_false (by omega); have t2 : decide (op < 112) = false := decide_eq_false (by omega); have t3 : decide (op < 128) = true := decide_eq_true (by omega)
    have hw : IntKind.u8.wrap (op - 112) = op - 112 := by rw [IntKind.wrap_u8]; omega
    have he : isaOf op reg = rw0 (17 + (op - 112)) 9 0 := by unfold isaOf; repeat (first | rw [if_neg (by omega)] | rw [if_pos (by omega)])
    rw [he]
    have HE := Lib.hid he
    clear he
    go_enter Tryz.func103, Tryz.ntmps103
    go_wp2_with (go_at_call 154; refine (isaRow_any _ _ _ _).mono ?_; rintro e w1 ⟨rfl, hb⟩; (first | (with_reducible have hx := hb_row2 hb) | (have hx := hb_row hb)); obtain ⟨hr, hb1⟩ := hx; have HB := Lib.hid hb1; have rc := hr.cell; have rf := hr.frozen; have rl := hr.lt; clear hb hb1 hr)
    refine bodyPost_ret (v := rowV _) (by simp [results, Tryz.results103, go_sem, zRow, *]) rfl ⟨rfl, ?_⟩
    exact (((HB.out.setCell (Nat.le_refl _) _).setCell (Nat.le_refl _) _).setCell (Nat.le_refl _) _).setCell (Nat.le_refl _) _
  · have t0 : decide (op < 64) = false := decide_eq_false (by omega); have t1 : decide (op < 96) = false := decide_eq_false (by omega); have t2 : decide (op < 112) = false := decide_eq_false (by omega); have t3 : decide (op < 128) = false := decide_eq_false (by omega); have t4 : decide (op < 144) = true := decide_eq_true (by omega)
    have he : isaOf op reg = movesOf op reg := by unfold isaOf; repeat (first | rw [if_neg (by omega)] | rw [if_pos (by omega)])
    rw [he]
    have HE := Lib.hid he
    clear he
    go_enter Tryz.func103, Tryz.ntmps103
    go_wp2_with (go_at_call 156; refine (moves_any op reg _ (by omega) (by omega) r0 r1).mono ?_; rintro e w1 ⟨rfl, hb⟩; (first | (with_reducible have hx := hb_row2 hb) | (have hx := hb_row hb)); obtain ⟨hr, hb1⟩ := hx; have HB := Lib.hid hb1; have rc := hr.cell; have rf := hr.frozen; have rl := hr.lt; clear hb hb1 hr)
    refine bodyPost_ret (v := rowV _) (by simp [results, Tryz.results103, go_sem, zRow, *]) rfl ⟨rfl, ?_⟩
    exact (((HB.out.setCell (Nat.le_refl _) _).setCell (Nat.le_refl _) _).setCell (Nat.le_refl _) _).setCell (Nat.le_refl _) _
  · have t0 : decide (op < 64) = false := decide_eq_false (by omega); have t1 : decide (op < 96) = false := decide_eq_false (by omega); have t2 : decide (op < 112) = false := decide_eq_false (by omega); have t3 : decide (op < 128) = false := decide_eq_false (by omega); have t4 : decide (op < 144) = false := decide_eq_false (by omega); have t5 : decide (op < 160) = true := decide_eq_true (by omega)
    have he : isaOf op reg = wordsOf op := by unfold isaOf; repeat (first | rw [if_neg (by omega)] | rw [if_pos (by omega)])
    rw [he]
    have HE := Lib.hid he
    clear he
    go_enter Tryz.func103, Tryz.ntmps103
    go_wp2_with (go_at_call 157; refine (words_any op _ (by omega) (by omega)).mono ?_; rintro e w1 ⟨rfl, hb⟩; (first | (with_reducible have hx := hb_row2 hb) | (have hx := hb_row hb)); obtain ⟨hr, hb1⟩ := hx; have HB := Lib.hid hb1; have rc := hr.cell; have rf := hr.frozen; have rl := hr.lt; clear hb hb1 hr)
    refine bodyPost_ret (v := rowV _) (by simp [results, Tryz.results103, go_sem, zRow, *]) rfl ⟨rfl, ?_⟩
    exact (((HB.out.setCell (Nat.le_refl _) _).setCell (Nat.le_refl _) _).setCell (Nat.le_refl _) _).setCell (Nat.le_refl _) _
  · have t0 : decide (op < 64) = false := decide_eq_false (by omega); have t1 : decide (op < 96) = false := decide_eq_false (by omega); have t2 : decide (op < 112) = false := decide_eq_false (by omega); have t3 : decide (op < 128) = false := decide_eq_false (by omega); have t4 : decide (op < 144) = false := decide_eq_false (by omega); have t5 : decide (op < 160) = false := decide_eq_false (by omega); have t6 : decide (op < 176) = true := decide_eq_true (by omega)
    have he : isaOf op reg = textsOf op := by unfold isaOf; repeat (first | rw [if_neg (by omega)] | rw [if_pos (by omega)])
    rw [he]
    have HE := Lib.hid he
    clear he
    go_enter Tryz.func103, Tryz.ntmps103
    go_wp2_with (go_at_call 158; refine (texts_any op _ (by omega) (by omega)).mono ?_; rintro e w1 ⟨rfl, hb⟩; (first | (with_reducible have hx := hb_row2 hb) | (have hx := hb_row hb)); obtain ⟨hr, hb1⟩ := hx; have HB := Lib.hid hb1; have rc := hr.cell; have rf := hr.frozen; have rl := hr.lt; clear hb hb1 hr)
    refine bodyPost_ret (v := rowV _) (by simp [results, Tryz.results103, go_sem, zRow, *]) rfl ⟨rfl, ?_⟩
    exact (((HB.out.setCell (Nat.le_refl _) _).setCell (Nat.le_refl _) _).setCell (Nat.le_refl _) _).setCell (Nat.le_refl _) _
  · have t0 : decide (op < 64) = false := decide_eq_false (by omega); have t1 : decide (op < 96) = false := decide_eq_false (by omega); have t2 : decide (op < 112) = false := decide_eq_false (by omega); have t3 : decide (op < 128) = false := decide_eq_false (by omega); have t4 : decide (op < 144) = false := decide_eq_false (by omega); have t5 : decide (op < 160) = false := decide_eq_false (by omega); have t6 : decide (op < 176) = false := decide_eq_false (by omega); have t7 : decide (op < 184) = true := decide_eq_true (by omega)
    have he : isaOf op reg = rw0 35 21 6 := by unfold isaOf; repeat (first | rw [if_neg (by omega)] | rw [if_pos (by omega)])
    rw [he]
    have HE := Lib.hid he
    clear he
    go_enter Tryz.func103, Tryz.ntmps103
    go_wp2_with (go_at_call 154; refine (isaRow_any _ _ _ _).mono ?_; rintro e w1 ⟨rfl, hb⟩; (first | (with_reducible have hx := hb_row2 hb) | (have hx := hb_row hb)); obtain ⟨hr, hb1⟩ := hx; have HB := Lib.hid hb1; have rc := hr.cell; have rf := hr.frozen; have rl := hr.lt; clear hb hb1 hr)
    refine bodyPost_ret (v := rowV _) (by simp [results, Tryz.results103, go_sem, zRow, *]) rfl ⟨rfl, ?_⟩
    exact (((HB.out.setCell (Nat.le_refl _) _).setCell (Nat.le_refl _) _).setCell (Nat.le_refl _) _).setCell (Nat.le_refl _) _
  · have t0 : decide (op < 64) = false := decide_eq_false (by omega); have t1 : decide (op < 96) = false := decide_eq_false (by omega); have t2 : decide (op < 112) = false := decide_eq_false (by omega); have t3 : decide (op < 128) = false := decide_eq_false (by omega); have t4 : decide (op < 144) = false := decide_eq_false (by omega); have t5 : decide (op < 160) = false := decide_eq_false (by omega); have t6 : decide (op < 176) = false := decide_eq_false (by omega); have t7 : decide (op < 184) = false := decide_eq_false (by omega); have t8 : decide (op < 192) = true := decide_eq_true (by omega)
    have he : isaOf op reg = rw0 35 22 7 := by unfold isaOf; repeat (first | rw [if_neg (by omega)] | rw [if_pos (by omega)])
    rw [he]
    have HE := Lib.hid he
    clear he
    go_enter Tryz.func103, Tryz.ntmps103
    go_wp2_with (go_at_call 154; refine (isaRow_any _ _ _ _).mono ?_; rintro e w1 ⟨rfl, hb⟩; (first | (with_reducible have hx := hb_row2 hb) | (have hx := hb_row hb)); obtain ⟨hr, hb1⟩ := hx; have HB := Lib.hid hb1; have rc := hr.cell; have rf := hr.frozen; have rl := hr.lt; clear hb hb1 hr)
    refine bodyPost_ret (v := rowV _) (by simp [results, Tryz.results103, go_sem, zRow, *]) rfl ⟨rfl, ?_⟩
    exact (((HB.out.setCell (Nat.le_refl _) _).setCell (Nat.le_refl _) _).setCell (Nat.le_refl _) _).setCell (Nat.le_refl _) _
  · have t0 : decide (op < 64) = false := decide_eq_false (by omega); have t1 : decide (op < 96) = false := decide_eq_false (by omega); have t2 : decide (op < 112) = false := decide_eq_false (by omega); have t3 : decide (op < 128) = false := decide_eq_false (by omega); have t4 : decide (op < 144) = false := decide_eq_false (by omega); have t5 : decide (op < 160) = false := decide_eq_false (by omega); have t6 : decide (op < 176) = false := decide_eq_false (by omega); have t7 : decide (op < 184) = false := decide_eq_false (by omega); have t8 : decide (op < 192) = false := decide_eq_false (by omega); have t9 : decide (op < 208) = true := decide_eq_true (by omega)
    have he : isaOf op reg = backsOf op reg := by unfold isaOf; repeat (first | rw [if_neg (by omega)] | rw [if_pos (by omega)])
    rw [he]
    have HE := Lib.hid he
    clear he
    go_enter Tryz.func103, Tryz.ntmps103
    go_wp2_with (go_at_call 159; refine (backs_any op reg _ (by omega) (by omega) r0 r1).mono ?_; rintro e w1 ⟨rfl, hb⟩; (first | (with_reducible have hx := hb_row2 hb) | (have hx := hb_row hb)); obtain ⟨hr, hb1⟩ := hx; have HB := Lib.hid hb1; have rc := hr.cell; have rf := hr.frozen; have rl := hr.lt; clear hb hb1 hr)
    refine bodyPost_ret (v := rowV _) (by simp [results, Tryz.results103, go_sem, zRow, *]) rfl ⟨rfl, ?_⟩
    exact (((HB.out.setCell (Nat.le_refl _) _).setCell (Nat.le_refl _) _).setCell (Nat.le_refl _) _).setCell (Nat.le_refl _) _
  · have t0 : decide (op < 64) = false := decide_eq_false (by omega); have t1 : decide (op < 96) = false := decide_eq_false (by omega); have t2 : decide (op < 112) = false := decide_eq_false (by omega); have t3 : decide (op < 128) = false := decide_eq_false (by omega); have t4 : decide (op < 144) = false := decide_eq_false (by omega); have t5 : decide (op < 160) = false := decide_eq_false (by omega); have t6 : decide (op < 176) = false := decide_eq_false (by omega); have t7 : decide (op < 184) = false := decide_eq_false (by omega); have t8 : decide (op < 192) = false := decide_eq_false (by omega); have t9 : decide (op < 208) = false := decide_eq_false (by omega); have t10 : decide (op < 224) = true := decide_eq_true (by omega)
    have he : isaOf op reg = turnsOf op reg := by unfold isaOf; repeat (first | rw [if_neg (by omega)] | rw [if_pos (by omega)])
    rw [he]
    have HE := Lib.hid he
    clear he
    go_enter Tryz.func103, Tryz.ntmps103
    go_wp2_with (go_at_call 160; refine (turns_any op reg _ (by omega) (by omega) r0 r1).mono ?_; rintro e w1 ⟨rfl, hb⟩; (first | (with_reducible have hx := hb_row2 hb) | (have hx := hb_row hb)); obtain ⟨hr, hb1⟩ := hx; have HB := Lib.hid hb1; have rc := hr.cell; have rf := hr.frozen; have rl := hr.lt; clear hb hb1 hr)
    refine bodyPost_ret (v := rowV _) (by simp [results, Tryz.results103, go_sem, zRow, *]) rfl ⟨rfl, ?_⟩
    exact (((HB.out.setCell (Nat.le_refl _) _).setCell (Nat.le_refl _) _).setCell (Nat.le_refl _) _).setCell (Nat.le_refl _) _
  · have t0 : decide (op < 64) = false := decide_eq_false (by omega); have t1 : decide (op < 96) = false := decide_eq_false (by omega); have t2 : decide (op < 112) = false := decide_eq_false (by omega); have t3 : decide (op < 128) = false := decide_eq_false (by omega); have t4 : decide (op < 144) = false := decide_eq_false (by omega); have t5 : decide (op < 160) = false := decide_eq_false (by omega); have t6 : decide (op < 176) = false := decide_eq_false (by omega); have t7 : decide (op < 184) = false := decide_eq_false (by omega); have t8 : decide (op < 192) = false := decide_eq_false (by omega); have t9 : decide (op < 208) = false := decide_eq_false (by omega); have t10 : decide (op < 224) = false := decide_eq_false (by omega); have t11 : decide (op < 240) = true := decide_eq_true (by omega)
    have he : isaOf op reg = goesOf op := by unfold isaOf; repeat (first | rw [if_neg (by omega)] | rw [if_pos (by omega)])
    rw [he]
    have HE := Lib.hid he
    clear he
    go_enter Tryz.func103, Tryz.ntmps103
    go_wp2_with (go_at_call 161; refine (goes_any op _ (by omega) (by omega)).mono ?_; rintro e w1 ⟨rfl, hb⟩; (first | (with_reducible have hx := hb_row2 hb) | (have hx := hb_row hb)); obtain ⟨hr, hb1⟩ := hx; have HB := Lib.hid hb1; have rc := hr.cell; have rf := hr.frozen; have rl := hr.lt; clear hb hb1 hr)
    refine bodyPost_ret (v := rowV _) (by simp [results, Tryz.results103, go_sem, zRow, *]) rfl ⟨rfl, ?_⟩
    exact (((HB.out.setCell (Nat.le_refl _) _).setCell (Nat.le_refl _) _).setCell (Nat.le_refl _) _).setCell (Nat.le_refl _) _
  · have t0 : decide (op < 64) = false := decide_eq_false (by omega); have t1 : decide (op < 96) = false := decide_eq_false (by omega); have t2 : decide (op < 112) = false := decide_eq_false (by omega); have t3 : decide (op < 128) = false := decide_eq_false (by omega); have t4 : decide (op < 144) = false := decide_eq_false (by omega); have t5 : decide (op < 160) = false := decide_eq_false (by omega); have t6 : decide (op < 176) = false := decide_eq_false (by omega); have t7 : decide (op < 184) = false := decide_eq_false (by omega); have t8 : decide (op < 192) = false := decide_eq_false (by omega); have t9 : decide (op < 208) = false := decide_eq_false (by omega); have t10 : decide (op < 224) = false := decide_eq_false (by omega); have t11 : decide (op < 240) = false := decide_eq_false (by omega)
    have he : isaOf op reg = restOf op reg := by unfold isaOf; repeat (first | rw [if_neg (by omega)] | rw [if_pos (by omega)])
    rw [he]
    have HE := Lib.hid he
    clear he
    go_enter Tryz.func103, Tryz.ntmps103
    go_wp2_with (go_at_call 162; refine (rest_any op reg _ (by omega) (by omega) r0 r1).mono ?_; rintro e w1 ⟨rfl, hb⟩; (first | (with_reducible have hx := hb_row2 hb) | (have hx := hb_row hb)); obtain ⟨hr, hb1⟩ := hx; have HB := Lib.hid hb1; have rc := hr.cell; have rf := hr.frozen; have rl := hr.lt; clear hb hb1 hr)
    refine bodyPost_ret (v := rowV _) (by simp [results, Tryz.results103, go_sem, zRow, *]) rfl ⟨rfl, ?_⟩
    exact (((HB.out.setCell (Nat.le_refl _) _).setCell (Nat.le_refl _) _).setCell (Nat.le_refl _) _).setCell (Nat.le_refl _) _
end Go.Proofs.YtcglkefaopgjeaaGreatDoor

/- Package inst: which instructions there are. -/
namespace Go.Proofs.YtcglkefaopgjeaaGreatDoor
set_option linter.unusedSimpArgs false
set_option linter.unusedVariables false
open Go.RowKit

def signW (b : Int) : Int := if b < 128 then b else b + 65280
def fitsB (x : Int) : Bool := signW (x % 256) == x
def isPre (c : Int) : Bool := c == 38 || c == 46 || c == 54 || c == 62 || c == 240 || c == 242 || c == 243
def dispsOf (mod rm : Int) : Int := if mod = 1 then 1 else if mod = 2 ∨ (mod = 0 ∧ rm = 6) then 2 else 0
def immOf (k : Int) : Int := if k = 6 ∨ k = 8 ∨ k = 9 then 1 else if k = 7 ∨ k = 10 ∨ k = 12 ∨ k = 13 then 2 else if k = 11 then 4 else 0
def repsOf (n : Int) : Int := if n = 46 ∨ n = 47 ∨ n = 50 ∨ n = 51 ∨ n = 52 ∨ n = 53 then 1 else if n = 48 ∨ n = 49 ∨ n = 54 ∨ n = 55 then 2 else 0

theorem signW_wrap (b : Int) (h0 : 0 ≤ b) (h1 : b ≤ 255) : IntKind.u16.wrap (IntKind.i16.wrap (IntKind.i8.wrap b)) = signW b := by
  obtain ⟨n, rfl⟩ := Int.eq_ofNat_of_zero_le h0
  have key : ∀ m : Fin 256, IntKind.u16.wrap (IntKind.i16.wrap (IntKind.i8.wrap ((m.val : Nat) : Int))) = signW ((m.val : Nat) : Int) := by decide +kernel
  exact key ⟨n, by omega⟩
theorem signW_lo (b : Int) (h0 : 0 ≤ b) : 0 ≤ signW b := by unfold signW; split <;> omega
theorem signW_hi (b : Int) (h1 : b ≤ 255) : signW b ≤ 65535 := by unfold signW; split <;> omega

set_option maxHeartbeats 400000 in
theorem sign_any (b : Int) (w : World) (h0 : 0 ≤ b) (h1 : b ≤ 255) : Calls Tryz.prog 183 #[.int .u8 b] w fun e w' => e = .returned (.int .u16 (signW b)) ∧ w = w' := by
  have hs := Lib.hid (signW_wrap b h0 h1)
  go_enter Tryz.func183, Tryz.ntmps183
  go_wp2
  go_ret
  exact ⟨by rw [← hs.out]; rfl, rfl⟩
set_option maxHeartbeats 400000 in
theorem isPre_any (c : Int) (w : World) : Calls Tryz.prog 102 #[.int .u8 c] w fun e w' => e = .returned (.bool (isPre c)) ∧ w = w' := by
  have hc : (c = 38 ∨ c = 46 ∨ c = 54 ∨ c = 62 ∨ c = 240 ∨ c = 242 ∨ c = 243) ∨ ((c == 38) = false ∧ (c == 46) = false ∧ (c == 54) = false ∧ (c == 62) = false ∧ (c == 240) = false ∧ (c == 242) = false ∧ (c == 243) = false) := by
    simp only [beq_eq_false_iff_ne]; omega
  rcases hc with (rfl | rfl | rfl | rfl | rfl | rfl | rfl) | ⟨h1, h2, h3, h4, h5, h6, h7⟩
  all_goals
    go_enter Tryz.func102, Tryz.ntmps102
    go_wp2
    go_ret
    exact ⟨by simp [isPre, *], rfl⟩

set_option maxHeartbeats 400000 in
theorem fits_any (x : Int) (w : World) (h0 : 0 ≤ x) (h1 : x ≤ 65535) : Calls Tryz.prog 213 #[.int .u16 x] w fun e w' => e = .returned (.bool (fitsB x)) ∧ w = w' := by
  go_enter Tryz.func213, Tryz.ntmps213
  go_wp2_with (first | (go_at_call 85; refine (low_any _ _ h0 h1).mono ?_; rintro e w' ⟨rfl, rfl⟩) | (go_at_call 183; refine (sign_any _ _ (by omega) (by omega)).mono ?_; rintro e w' ⟨rfl, rfl⟩))
  go_ret
  exact ⟨rfl, rfl⟩

set_option maxHeartbeats 400000 in
theorem disps_any (mod rm : Int) (w : World) : Calls Tryz.prog 194 #[.int .i64 mod, .int .i64 rm] w fun e w' => e = .returned (.int .i64 (dispsOf mod rm)) ∧ w = w' := by
  have hc : mod = 1 ∨ mod = 2 ∨ (mod = 0 ∧ rm = 6) ∨ (mod = 0 ∧ rm ≠ 6) ∨ (mod ≠ 0 ∧ mod ≠ 1 ∧ mod ≠ 2) := by omega
  rcases hc with rfl | rfl | ⟨rfl, rfl⟩ | ⟨rfl, h⟩ | ⟨g0, g1, g2⟩
  · go_enter Tryz.func194, Tryz.ntmps194
    go_wp2
    go_ret
    exact ⟨rfl, rfl⟩
  · go_enter Tryz.func194, Tryz.ntmps194
    go_wp2
    go_ret
    exact ⟨rfl, rfl⟩
  · go_enter Tryz.func194, Tryz.ntmps194
    go_wp2
    go_ret
    exact ⟨rfl, rfl⟩
  · have t : (rm == 6) = false := by simpa using h
    have HE := Lib.hid (show dispsOf 0 rm = 0 by simp [dispsOf, h])
    clear h
    go_enter Tryz.func194, Tryz.ntmps194
    go_wp2
    go_ret
    rw [HE.out]
    exact ⟨rfl, rfl⟩
  · have t0 : (mod == 0) = false := by simpa using g0
    have t1 : (mod == 1) = false := by simpa using g1
    have t2 : (mod == 2) = false := by simpa using g2
    have HE := Lib.hid (show dispsOf mod rm = 0 by simp [dispsOf, g0, g1, g2])
    clear g0 g1 g2
    go_enter Tryz.func194, Tryz.ntmps194
    go_wp2
    go_ret
    rw [HE.out]
    exact ⟨rfl, rfl⟩

set_option maxHeartbeats 1600000 in
theorem imm_any (k : Int) (w : World) : Calls Tryz.prog 104 #[.int .i64 k] w fun e w' => e = .returned (.int .i64 (immOf k)) ∧ w = w' := by
  have hc : (k = 6 ∨ k = 8 ∨ k = 9 ∨ k = 7 ∨ k = 10 ∨ k = 12 ∨ k = 13 ∨ k = 11) ∨ (k ≠ 6 ∧ k ≠ 8 ∧ k ≠ 9 ∧ k ≠ 7 ∧ k ≠ 10 ∧ k ≠ 12 ∧ k ≠ 13 ∧ k ≠ 11) := by omega
  rcases hc with hc | ⟨g1, g2, g3, g4, g5, g6, g7, g8⟩
  · rcases hc with rfl | rfl | rfl | rfl | rfl | rfl | rfl | rfl
    all_goals
      go_enter Tryz.func104, Tryz.ntmps104
      go_wp2
      go_ret
      exact ⟨rfl, rfl⟩
  ·
    have HE := Lib.hid (show immOf k = 0 by simp [immOf, g1, g2, g3, g4, g5, g6, g7, g8])
    simp only [ne_eq, ← beq_eq_false_iff_ne] at g1 g2 g3 g4 g5 g6 g7 g8
    go_enter Tryz.func104, Tryz.ntmps104
    go_wp2
    go_ret
    rw [HE.out]
    exact ⟨rfl, rfl⟩

set_option maxHeartbeats 1600000 in
theorem reps_any (n : Int) (w : World) : Calls Tryz.prog 71 #[.int .i64 n] w fun e w' => e = .returned (.int .i64 (repsOf n)) ∧ w = w' := by
  have hc : (n = 46 ∨ n = 47 ∨ n = 48 ∨ n = 49 ∨ n = 50 ∨ n = 51 ∨ n = 52 ∨ n = 53 ∨ n = 54 ∨ n = 55) ∨ (n ≠ 46 ∧ n ≠ 47 ∧ n ≠ 48 ∧ n ≠ 49 ∧ n ≠ 50 ∧ n ≠ 51 ∧ n ≠ 52 ∧ n ≠ 53 ∧ n ≠ 54 ∧ n ≠ 55) := by omega
  rcases hc with hc | ⟨g1, g2, g3, g4, g5, g6, g7, g8, g9, g10⟩
  · rcases hc with rfl | rfl | rfl | rfl | rfl | rfl | rfl | rfl | rfl | rfl
    all_goals
      go_enter Tryz.func71, Tryz.ntmps71
      go_wp2
      go_ret
      exact ⟨rfl, rfl⟩
  ·
    have HE := Lib.hid (show repsOf n = 0 by simp [repsOf, g1, g2, g3, g4, g5, g6, g7, g8, g9, g10])
    simp only [ne_eq, ← beq_eq_false_iff_ne] at g1 g2 g3 g4 g5 g6 g7 g8 g9 g10
    go_enter Tryz.func71, Tryz.ntmps71
    go_wp2
    go_ret
    rw [HE.out]
    exact ⟨rfl, rfl⟩
end Go.Proofs.YtcglkefaopgjeaaGreatDoor

/- Package cpu: flags. -/
namespace Go.Proofs.YtcglkefaopgjeaaGreatDoor
set_option linter.unusedSimpArgs false
set_option linter.unusedVariables false
open Go.RowKit

abbrev xorW (a b : Int) : Int := bits .xor .u16 a b
/-- A word's sign, spread over a word. -/
def spreadW (x : Int) : Int := if 32767 < x then 65535 else 0
theorem spread_wf (x : Int) : V.wf ⟨spreadW x, false⟩ := by
  unfold spreadW V.wf
  dsimp only
  split <;> omega
theorem spread_wrap (x : Int) (h0 : 0 ≤ x) (h1 : x ≤ 65535) : IntKind.u16.wrap (IntKind.i16.wrap x / 32768) = spreadW x := by
  have e : IntKind.i16.wrap x = if 32767 < x then x - 65536 else x := by
    simp [IntKind.wrap, IntKind.bits, IntKind.signed]
    split <;> split <;> omega
  rw [IntKind.wrap_u16, e]
  unfold spreadW
  split <;> omega
abbrev ahI : Inst := ⟨false, 0, 0, 0, 3, 0, 4, 0, 0, 0⟩
def Mach.doWith (m : Mach) (f : Int) (on : Bool) : Mach := m.setR (m.r.withF f on)
def Mach.doCmc (m : Mach) : Mach := m.setR { m.r with f := xorW m.r.f 1 }
def Mach.doLahf (m : Mach) : Mach := m.putV ahI 1 ⟨andW (orW (andW m.r.f 4053) 61442) 255, false⟩
def Mach.doSahf (m : Mach) : Mach := (m.getM ahI 1).setR { (m.getM ahI 1).r with f := orW (andNotW (m.getM ahI 1).r.f 255) (andW (andW (m.getV ahI 1 zeroV).v 255) 4053) }
def Mach.doCbw (m : Mach) : Mach := (m.plain m.r.g0).setR (m.r.put 0 ⟨signW (m.r.g0.v % 256), false⟩)
def Mach.doCwd (m : Mach) : Mach := (m.plain m.r.g0).setR (m.r.put 2 ⟨spreadW m.r.g0.v, false⟩)
theorem xor_lo (a b : Int) : 0 ≤ xorW a b := by show 0 ≤ IntKind.u16.wrap _; exact wrap16_lo _
theorem xor_hi (a b : Int) : xorW a b ≤ 65535 := by show IntKind.u16.wrap _ ≤ 65535; exact wrap16_hi _
theorem andNot_lo (a b : Int) : 0 ≤ andNotW a b := by show 0 ≤ IntKind.u16.wrap _; exact wrap16_lo _
theorem andNot_hi (a b : Int) : andNotW a b ≤ 65535 := by show IntKind.u16.wrap _ ≤ 65535; exact wrap16_hi _
theorem withF_wf {r : Regs} (h : r.wf) (f : Int) (on : Bool) : (r.withF f on).wf := by
  unfold Regs.withF
  cases on
  · exact { h with f := ⟨andNot_lo _ _, andNot_hi _ _⟩ }
  · exact { h with f := ⟨or_lo _ _, or_hi _ _⟩ }

/-- The box that flags begins with. -/
structure FlIn (C : Phys) (lv : Value) (w : World) (m : Mach) (r : IRow) (W0 : World) : Prop where
  o : Own W0 C lv m
  a : Acc C lv w lv W0
  r : Box C lv W0 w.heap.size (rowC r) 47
theorem flIn {C : Phys} {lv : Value} {w : World} {m : Mach} (h : Own w C lv m) (r : IRow) : FlIn C lv w m r (w.alloc (.cells (rowC r) 47)) := ⟨h.alloc _, (Acc.refl C lv w).alloc _, Box.new h _ _⟩

set_option maxRecDepth 100000 in
set_option maxHeartbeats 1600000 in
theorem flags_90 (w : World) (C : Phys) (lv : Value) (m : Mach) (h : Own w C lv m) (r : IRow) (hn : r.name = 90) :
    Calls Tryz.prog 130 #[.pointer (some ⟨C.b, 0, none⟩), r.val] w fun e w' => e = .returned (.tuple #[]) ∧ After C lv w (m.doWith 1 false) w' := by
  obtain ⟨name, ra, rb, rm⟩ := r
  dsimp only at hn
  subst hn
  have hs := flIn h ⟨90, ra, rb, rm⟩
  have hwf := h.wf.r
  clear h
  have xr := hs.r.row.cell
  go_enter Tryz.func130, Tryz.ntmps130
  go_wp2_with fail
  generalize w.alloc (.cells (rowC ⟨90, ra, rb, rm⟩) 47) = W0 at *
  have HO0 := Lib.hid hs.o
  have HA0 := Lib.hid hs.a
  have HWF := Lib.hid (withF_wf hwf 1 false)
  have sr := hs.o.sees.r
  have c4 : W0.cell? ⟨w.heap.size, 0, none⟩ = some (.int .i64 90) := xr 0
  clear hs xr hwf
  refine range_of (W0) ?_; intro S inst ω hin hout
  have r1 := range_regs hin sr
  have r3 := range_cell hin c4
  have k1 := range_call hin hout (with_any m.r 1 false)
  clear sr c4
  refine wp_region_tail_range ω 11 (by kernel_rfl) (by kernel_rfl) (hout _ (Below.refl _ _).drew) ?_; simp only [List.take_succ_cons, List.take_zero, List.drop_succ_cons, List.drop_zero]
  repeat (go_big_quiet_step ((with_reducible exact k1 _)))
  refine wpQuiet_nil ?_; intro _ hw'; obtain ⟨nq, rfl⟩ := hw'
  have HO2 := Lib.hid (HO0.out.below (hin nq))
  have HA2 := Lib.hid (HA0.out.below (hin nq))
  clear r1 r3 k1
  generalize ω nq = w1 at HO2 HA2 ⊢
  have sc := HO2.out.sees.c; have sf := HO2.out.sees.f; have sr := HO2.out.sees.r; have ss := HO2.out.sees.s; have sl := HO2.out.sees.l
  go_wp2_with fail
  (first | go_end0 | (((try simp only [Exit.inBlock, Exit.then]); refine bodyPost_ret (results_none rfl _ _ _) rfl ?_)))
  exact ⟨rfl, After.mk (HO2.out.putR _ HWF.out) (HA2.out.putR _)⟩

set_option maxRecDepth 100000 in
set_option maxHeartbeats 1600000 in
theorem flags_91 (w : World) (C : Phys) (lv : Value) (m : Mach) (h : Own w C lv m) (r : IRow) (hn : r.name = 91) :
    Calls Tryz.prog 130 #[.pointer (some ⟨C.b, 0, none⟩), r.val] w fun e w' => e = .returned (.tuple #[]) ∧ After C lv w (m.doWith 1 true) w' := by
  obtain ⟨name, ra, rb, rm⟩ := r
  dsimp only at hn
  subst hn
  have hs := flIn h ⟨91, ra, rb, rm⟩
  have hwf := h.wf.r
  clear h
  have xr := hs.r.row.cell
  go_enter Tryz.func130, Tryz.ntmps130
  go_wp2_with fail
  generalize w.alloc (.cells (rowC ⟨91, ra, rb, rm⟩) 47) = W0 at *
  have HO0 := Lib.hid hs.o
  have HA0 := Lib.hid hs.a
  have HWF := Lib.hid (withF_wf hwf 1 true)
  have sr := hs.o.sees.r
  have c4 : W0.cell? ⟨w.heap.size, 0, none⟩ = some (.int .i64 91) := xr 0
  clear hs xr hwf
  refine range_of (W0) ?_; intro S inst ω hin hout
  have r1 := range_regs hin sr
  have r3 := range_cell hin c4
  have k1 := range_call hin hout (with_any m.r 1 true)
  clear sr c4
  refine wp_region_tail_range ω 11 (by kernel_rfl) (by kernel_rfl) (hout _ (Below.refl _ _).drew) ?_; simp only [List.take_succ_cons, List.take_zero, List.drop_succ_cons, List.drop_zero]
  repeat (go_big_quiet_step ((with_reducible exact k1 _)))
  refine wpQuiet_nil ?_; intro _ hw'; obtain ⟨nq, rfl⟩ := hw'
  have HO2 := Lib.hid (HO0.out.below (hin nq))
  have HA2 := Lib.hid (HA0.out.below (hin nq))
  clear r1 r3 k1
  generalize ω nq = w1 at HO2 HA2 ⊢
  have sc := HO2.out.sees.c; have sf := HO2.out.sees.f; have sr := HO2.out.sees.r; have ss := HO2.out.sees.s; have sl := HO2.out.sees.l
  go_wp2_with fail
  (first | go_end0 | (((try simp only [Exit.inBlock, Exit.then]); refine bodyPost_ret (results_none rfl _ _ _) rfl ?_)))
  exact ⟨rfl, After.mk (HO2.out.putR _ HWF.out) (HA2.out.putR _)⟩

set_option maxRecDepth 100000 in
set_option maxHeartbeats 1600000 in
theorem flags_92 (w : World) (C : Phys) (lv : Value) (m : Mach) (h : Own w C lv m) (r : IRow) (hn : r.name = 92) :
    Calls Tryz.prog 130 #[.pointer (some ⟨C.b, 0, none⟩), r.val] w fun e w' => e = .returned (.tuple #[]) ∧ After C lv w (m.doWith 512 false) w' := by
  obtain ⟨name, ra, rb, rm⟩ := r
  dsimp only at hn
  subst hn
  have hs := flIn h ⟨92, ra, rb, rm⟩
  have hwf := h.wf.r
  clear h
  have xr := hs.r.row.cell
  go_enter Tryz.func130, Tryz.ntmps130
  go_wp2_with fail
  generalize w.alloc (.cells (rowC ⟨92, ra, rb, rm⟩) 47) = W0 at *
  have HO0 := Lib.hid hs.o
  have HA0 := Lib.hid hs.a
  have HWF := Lib.hid (withF_wf hwf 512 false)
  have sr := hs.o.sees.r
  have c4 : W0.cell? ⟨w.heap.size, 0, none⟩ = some (.int .i64 92) := xr 0
  clear hs xr hwf
  refine range_of (W0) ?_; intro S inst ω hin hout
  have r1 := range_regs hin sr
  have r3 := range_cell hin c4
  have k1 := range_call hin hout (with_any m.r 512 false)
  clear sr c4
  refine wp_region_tail_range ω 11 (by kernel_rfl) (by kernel_rfl) (hout _ (Below.refl _ _).drew) ?_; simp only [List.take_succ_cons, List.take_zero, List.drop_succ_cons, List.drop_zero]
  repeat (go_big_quiet_step ((with_reducible exact k1 _)))
  refine wpQuiet_nil ?_; intro _ hw'; obtain ⟨nq, rfl⟩ := hw'
  have HO2 := Lib.hid (HO0.out.below (hin nq))
  have HA2 := Lib.hid (HA0.out.below (hin nq))
  clear r1 r3 k1
  generalize ω nq = w1 at HO2 HA2 ⊢
  have sc := HO2.out.sees.c; have sf := HO2.out.sees.f; have sr := HO2.out.sees.r; have ss := HO2.out.sees.s; have sl := HO2.out.sees.l
  go_wp2_with fail
  (first | go_end0 | (((try simp only [Exit.inBlock, Exit.then]); refine bodyPost_ret (results_none rfl _ _ _) rfl ?_)))
  exact ⟨rfl, After.mk (HO2.out.putR _ HWF.out) (HA2.out.putR _)⟩

set_option maxRecDepth 100000 in
set_option maxHeartbeats 1600000 in
theorem flags_93 (w : World) (C : Phys) (lv : Value) (m : Mach) (h : Own w C lv m) (r : IRow) (hn : r.name = 93) :
    Calls Tryz.prog 130 #[.pointer (some ⟨C.b, 0, none⟩), r.val] w fun e w' => e = .returned (.tuple #[]) ∧ After C lv w (m.doWith 512 true) w' := by
  obtain ⟨name, ra, rb, rm⟩ := r
  dsimp only at hn
  subst hn
  have hs := flIn h ⟨93, ra, rb, rm⟩
  have hwf := h.wf.r
  clear h
  have xr := hs.r.row.cell
  go_enter Tryz.func130, Tryz.ntmps130
  go_wp2_with fail
  generalize w.alloc (.cells (rowC ⟨93, ra, rb, rm⟩) 47) = W0 at *
  have HO0 := Lib.hid hs.o
  have HA0 := Lib.hid hs.a
  have HWF := Lib.hid (withF_wf hwf 512 true)
  have sr := hs.o.sees.r
  have c4 : W0.cell? ⟨w.heap.size, 0, none⟩ = some (.int .i64 93) := xr 0
  clear hs xr hwf
  refine range_of (W0) ?_; intro S inst ω hin hout
  have r1 := range_regs hin sr
  have r3 := range_cell hin c4
  have k1 := range_call hin hout (with_any m.r 512 true)
  clear sr c4
  refine wp_region_tail_range ω 11 (by kernel_rfl) (by kernel_rfl) (hout _ (Below.refl _ _).drew) ?_; simp only [List.take_succ_cons, List.take_zero, List.drop_succ_cons, List.drop_zero]
  repeat (go_big_quiet_step ((with_reducible exact k1 _)))
  refine wpQuiet_nil ?_; intro _ hw'; obtain ⟨nq, rfl⟩ := hw'
  have HO2 := Lib.hid (HO0.out.below (hin nq))
  have HA2 := Lib.hid (HA0.out.below (hin nq))
  clear r1 r3 k1
  generalize ω nq = w1 at HO2 HA2 ⊢
  have sc := HO2.out.sees.c; have sf := HO2.out.sees.f; have sr := HO2.out.sees.r; have ss := HO2.out.sees.s; have sl := HO2.out.sees.l
  go_wp2_with fail
  (first | go_end0 | (((try simp only [Exit.inBlock, Exit.then]); refine bodyPost_ret (results_none rfl _ _ _) rfl ?_)))
  exact ⟨rfl, After.mk (HO2.out.putR _ HWF.out) (HA2.out.putR _)⟩

set_option maxRecDepth 100000 in
set_option maxHeartbeats 1600000 in
theorem flags_94 (w : World) (C : Phys) (lv : Value) (m : Mach) (h : Own w C lv m) (r : IRow) (hn : r.name = 94) :
    Calls Tryz.prog 130 #[.pointer (some ⟨C.b, 0, none⟩), r.val] w fun e w' => e = .returned (.tuple #[]) ∧ After C lv w (m.doWith 1024 false) w' := by
  obtain ⟨name, ra, rb, rm⟩ := r
  dsimp only at hn
  subst hn
  have hs := flIn h ⟨94, ra, rb, rm⟩
  have hwf := h.wf.r
  clear h
  have xr := hs.r.row.cell
  go_enter Tryz.func130, Tryz.ntmps130
  go_wp2_with fail
  generalize w.alloc (.cells (rowC ⟨94, ra, rb, rm⟩) 47) = W0 at *
  have HO0 := Lib.hid hs.o
  have HA0 := Lib.hid hs.a
  have HWF := Lib.hid (withF_wf hwf 1024 false)
  have sr := hs.o.sees.r
  have c4 : W0.cell? ⟨w.heap.size, 0, none⟩ = some (.int .i64 94) := xr 0
  clear hs xr hwf
  refine range_of (W0) ?_; intro S inst ω hin hout
  have r1 := range_regs hin sr
  have r3 := range_cell hin c4
  have k1 := range_call hin hout (with_any m.r 1024 false)
  clear sr c4
  refine wp_region_tail_range ω 11 (by kernel_rfl) (by kernel_rfl) (hout _ (Below.refl _ _).drew) ?_; simp only [List.take_succ_cons, List.take_zero, List.drop_succ_cons, List.drop_zero]
  repeat (go_big_quiet_step ((with_reducible exact k1 _)))
  refine wpQuiet_nil ?_; intro _ hw'; obtain ⟨nq, rfl⟩ := hw'
  have HO2 := Lib.hid (HO0.out.below (hin nq))
  have HA2 := Lib.hid (HA0.out.below (hin nq))
  clear r1 r3 k1
  generalize ω nq = w1 at HO2 HA2 ⊢
  have sc := HO2.out.sees.c; have sf := HO2.out.sees.f; have sr := HO2.out.sees.r; have ss := HO2.out.sees.s; have sl := HO2.out.sees.l
  go_wp2_with fail
  (first | go_end0 | (((try simp only [Exit.inBlock, Exit.then]); refine bodyPost_ret (results_none rfl _ _ _) rfl ?_)))
  exact ⟨rfl, After.mk (HO2.out.putR _ HWF.out) (HA2.out.putR _)⟩

set_option maxRecDepth 100000 in
set_option maxHeartbeats 1600000 in
theorem flags_95 (w : World) (C : Phys) (lv : Value) (m : Mach) (h : Own w C lv m) (r : IRow) (hn : r.name = 95) :
    Calls Tryz.prog 130 #[.pointer (some ⟨C.b, 0, none⟩), r.val] w fun e w' => e = .returned (.tuple #[]) ∧ After C lv w (m.doWith 1024 true) w' := by
  obtain ⟨name, ra, rb, rm⟩ := r
  dsimp only at hn
  subst hn
  have hs := flIn h ⟨95, ra, rb, rm⟩
  have hwf := h.wf.r
  clear h
  have xr := hs.r.row.cell
  go_enter Tryz.func130, Tryz.ntmps130
  go_wp2_with fail
  generalize w.alloc (.cells (rowC ⟨95, ra, rb, rm⟩) 47) = W0 at *
  have HO0 := Lib.hid hs.o
  have HA0 := Lib.hid hs.a
  have HWF := Lib.hid (withF_wf hwf 1024 true)
  have sr := hs.o.sees.r
  have c4 : W0.cell? ⟨w.heap.size, 0, none⟩ = some (.int .i64 95) := xr 0
  clear hs xr hwf
  refine range_of (W0) ?_; intro S inst ω hin hout
  have r1 := range_regs hin sr
  have r3 := range_cell hin c4
  have k1 := range_call hin hout (with_any m.r 1024 true)
  clear sr c4
  refine wp_region_tail_range ω 11 (by kernel_rfl) (by kernel_rfl) (hout _ (Below.refl _ _).drew) ?_; simp only [List.take_succ_cons, List.take_zero, List.drop_succ_cons, List.drop_zero]
  repeat (go_big_quiet_step ((with_reducible exact k1 _)))
  refine wpQuiet_nil ?_; intro _ hw'; obtain ⟨nq, rfl⟩ := hw'
  have HO2 := Lib.hid (HO0.out.below (hin nq))
  have HA2 := Lib.hid (HA0.out.below (hin nq))
  clear r1 r3 k1
  generalize ω nq = w1 at HO2 HA2 ⊢
  have sc := HO2.out.sees.c; have sf := HO2.out.sees.f; have sr := HO2.out.sees.r; have ss := HO2.out.sees.s; have sl := HO2.out.sees.l
  go_wp2_with fail
  (first | go_end0 | (((try simp only [Exit.inBlock, Exit.then]); refine bodyPost_ret (results_none rfl _ _ _) rfl ?_)))
  exact ⟨rfl, After.mk (HO2.out.putR _ HWF.out) (HA2.out.putR _)⟩

set_option maxRecDepth 100000 in
set_option maxHeartbeats 1600000 in
theorem flags_83 (w : World) (C : Phys) (lv : Value) (m : Mach) (h : Own w C lv m) (r : IRow) (hn : r.name = 83) :
    Calls Tryz.prog 130 #[.pointer (some ⟨C.b, 0, none⟩), r.val] w fun e w' => e = .returned (.tuple #[]) ∧ After C lv w m.doCmc w' := by
  obtain ⟨name, ra, rb, rm⟩ := r
  dsimp only at hn
  subst hn
  have hs := flIn h ⟨83, ra, rb, rm⟩
  have hwf := h.wf.r
  clear h
  have xr := hs.r.row.cell
  have HO0 := Lib.hid hs.o
  have HA0 := Lib.hid hs.a
  have sc := hs.o.sees.c
  have sf := hs.o.sees.f
  have sl := hs.o.row.lt
  clear hs
  go_enter Tryz.func130, Tryz.ntmps130
  go_wp2_with fail
  (first | go_end0 | (((try simp only [Exit.inBlock, Exit.then]); refine bodyPost_ret (results_none rfl _ _ _) rfl ?_)))
  exact ⟨rfl, After.mk (HO0.out.setFl _ (xor_lo _ _) (xor_hi _ _)) (HA0.out.setB 25 _)⟩

set_option maxRecDepth 100000 in
set_option maxHeartbeats 1600000 in
theorem flags_82 (w : World) (C : Phys) (lv : Value) (m : Mach) (h : Own w C lv m) (r : IRow) (hn : r.name = 82) :
    Calls Tryz.prog 130 #[.pointer (some ⟨C.b, 0, none⟩), r.val] w fun e w' => e = .returned (.tuple #[]) ∧ After C lv w (m.end 4) w' := by
  obtain ⟨name, ra, rb, rm⟩ := r
  dsimp only at hn
  subst hn
  have hs := flIn h ⟨82, ra, rb, rm⟩
  have hwf := h.wf.r
  clear h
  have xr := hs.r.row.cell
  go_enter Tryz.func130, Tryz.ntmps130
  go_wp2_with fail
  generalize w.alloc (.cells (rowC ⟨82, ra, rb, rm⟩) 47) = W0 at *
  have HO0 := Lib.hid hs.o
  have HA0 := Lib.hid hs.a
  clear hs xr
  refine (end_any _ _ _ _ HO0.out 4).mono ?_
  rintro e w2 ⟨rfl, lv2, h2, f2, k2⟩; dsimp only
  have HO2 := Lib.hid h2
  have HA2 := Lib.hid (HA0.out.trans ⟨f2, k2⟩)
  clear h2 f2 k2
  go_wp2_with fail
  (first | go_end0 | (((try simp only [Exit.inBlock, Exit.then]); refine bodyPost_ret (results_none rfl _ _ _) rfl ?_)))
  exact ⟨rfl, After.mk HO2.out HA2.out⟩

set_option maxRecDepth 100000 in
set_option maxHeartbeats 1600000 in
theorem flags_45 (w : World) (C : Phys) (lv : Value) (m : Mach) (h : Own w C lv m) (r : IRow) (hn : r.name = 45) :
    Calls Tryz.prog 130 #[.pointer (some ⟨C.b, 0, none⟩), r.val] w fun e w' => e = .returned (.tuple #[]) ∧ After C lv w m.doLahf w' := by
  obtain ⟨name, ra, rb, rm⟩ := r
  dsimp only at hn
  subst hn
  have hs := flIn h ⟨45, ra, rb, rm⟩
  have hwf := h.wf.r
  clear h
  have xr := hs.r.row.cell
  have sr := hs.o.sees.r
  have sl := hs.o.row.lt
  go_enter Tryz.func130, Tryz.ntmps130
  go_wp2_with fail
  generalize w.alloc (.cells (rowC ⟨45, ra, rb, rm⟩) 47) = W0 at *
  have HO0 := Lib.hid hs.o
  have HA0 := Lib.hid hs.a
  refine (flagsWord_any m.r _).mono ?_
  clear hs xr sr sl
  rintro e w1 ⟨rfl, hb⟩; dsimp only
  have HO1 := Lib.hid (HO0.out.below hb)
  have HA1 := Lib.hid (HA0.out.below hb)
  clear hb
  go_wp2_with fail
  refine (put_1 _ _ _ _ HO1.out ahI rfl ⟨andW (orW (andW m.r.f 4053) 61442) 255, false⟩ ⟨and_lo _ _, and_hi _ _⟩).mono ?_
  rintro e w2 ⟨rfl, lv2, h2, f2, k2⟩; dsimp only
  have HO2 := Lib.hid h2
  have HA2 := Lib.hid (HA1.out.trans ⟨f2, k2⟩)
  clear h2 f2 k2
  go_wp2_with fail
  (first | go_end0 | (((try simp only [Exit.inBlock, Exit.then]); refine bodyPost_ret (results_none rfl _ _ _) rfl ?_)))
  exact ⟨rfl, After.mk HO2.out HA2.out⟩

set_option maxRecDepth 100000 in
set_option maxHeartbeats 1600000 in
theorem flags_44 (w : World) (C : Phys) (lv : Value) (m : Mach) (h : Own w C lv m) (r : IRow) (hn : r.name = 44) :
    Calls Tryz.prog 130 #[.pointer (some ⟨C.b, 0, none⟩), r.val] w fun e w' => e = .returned (.tuple #[]) ∧ After C lv w m.doSahf w' := by
  obtain ⟨name, ra, rb, rm⟩ := r
  dsimp only at hn
  subst hn
  have hs := flIn h ⟨44, ra, rb, rm⟩
  have hwf := h.wf.r
  clear h
  have xr := hs.r.row.cell
  go_enter Tryz.func130, Tryz.ntmps130
  go_wp2_with fail
  generalize w.alloc (.cells (rowC ⟨44, ra, rb, rm⟩) 47) = W0 at *
  have HO0 := Lib.hid hs.o
  have HA0 := Lib.hid hs.a
  clear hs xr
  have HD := Lib.hid (show m.doSahf = (m.getM ahI 1).setR { (m.getM ahI 1).r with f := orW (andNotW (m.getM ahI 1).r.f 255) (andW (andW (m.getV ahI 1 zeroV).v 255) 4053) } from rfl)
  refine (get_1 _ _ _ _ HO0.out ahI rfl zeroV).mono ?_
  rw [show (⟨m.r.byteV ahI.rm, false⟩ : V) = m.getV ahI 1 zeroV from rfl, show m.regByteM ahI.rm = m.getM ahI 1 from rfl]
  generalize m.getV ahI 1 zeroV = v at HD
  generalize m.getM ahI 1 = m1 at HD
  obtain ⟨vv, vt⟩ := v
  rintro e w2 ⟨rfl, lv2, h2, f2, k2⟩; dsimp only
  have HO2 := Lib.hid h2
  have HA2 := Lib.hid (HA0.out.trans ⟨f2, k2⟩)
  clear h2 f2 k2
  have sc := HO2.out.sees.c; have sf := HO2.out.sees.f; have sr := HO2.out.sees.r; have ss := HO2.out.sees.s; have sl := HO2.out.sees.l
  go_wp2_with fail
  (first | go_end0 | (((try simp only [Exit.inBlock, Exit.then]); refine bodyPost_ret (results_none rfl _ _ _) rfl ?_)))
  rw [HD.out]
  exact ⟨rfl, After.mk (HO2.out.setFl _ (or_lo _ _) (or_hi _ _)) (HA2.out.setB 25 _)⟩

set_option maxRecDepth 100000 in
set_option maxHeartbeats 1600000 in
theorem flags_37 (w : World) (C : Phys) (lv : Value) (m : Mach) (h : Own w C lv m) (r : IRow) (hn : r.name = 37) :
    Calls Tryz.prog 130 #[.pointer (some ⟨C.b, 0, none⟩), r.val] w fun e w' => e = .returned (.tuple #[]) ∧ After C lv w m.doCbw w' := by
  obtain ⟨name, ra, rb, rm⟩ := r
  dsimp only at hn
  subst hn
  have hs := flIn h ⟨37, ra, rb, rm⟩
  have hwf := h.wf.r
  clear h
  have xr := hs.r.row.cell
  have sr := hs.o.sees.r
  have sl := hs.o.row.lt
  go_enter Tryz.func130, Tryz.ntmps130
  go_wp2_with fail
  generalize w.alloc (.cells (rowC ⟨37, ra, rb, rm⟩) 47) = W0 at *
  have HO0 := Lib.hid hs.o
  have HA0 := Lib.hid hs.a
  have HR0 := Lib.hid hs.r
  have HV := Lib.hid hwf.g0
  have HWF := Lib.hid hwf
  clear hs xr hwf
  have HD := Lib.hid (show m.doCbw = (m.plain m.r.g0).setR (m.r.put 0 ⟨signW (m.r.g0.v % 256), false⟩) from rfl)
  refine (get_any m.r 0 _).mono ?_
  rw [show m.r.get 0 = m.r.g0 from rfl]
  clear sr sl
  rintro e w1 ⟨rfl, hb⟩; dsimp only
  have HO1 := Lib.hid (HO0.out.below hb)
  have HA1 := Lib.hid (HA0.out.below hb)
  have HR1 := Lib.hid (HR0.out.below hb)
  clear hb
  go_wp2_with fail
  refine (plain_any _ _ _ _ HO1.out m.r.g0).mono ?_
  have HR := Lib.hid (plain_r m m.r.g0)
  generalize m.plain m.r.g0 = m2 at HD HR
  rintro e w2 ⟨rfl, lv2, h2, f2, k2⟩; dsimp only
  have HO2 := Lib.hid h2
  have HA2 := Lib.hid (HA1.out.trans ⟨f2, k2⟩)
  have HR2 := Lib.hid (HR1.out.step f2 k2)
  clear h2 f2 k2
  have xr := HR2.out.row.cell
  have v0 := HV.out.1
  have v1 := HV.out.2
  have z0 : 0 ≤ m.r.g0.v % 256 := by omega
  have z1 : m.r.g0.v % 256 ≤ 255 := by omega
  go_wp2_with fail
  have sr := HO2.out.sees.r
  rw [HR.out] at sr
  clear xr
  refine range_of (w2) ?_; intro S inst ω hin hout
  have r1 := range_regs hin sr
  have k0 := range_call hin hout (fun w => (low_any m.r.g0.v w v0 v1).mono (fun e w' h => ⟨h.1, h.2 ▸ Below.refl _ _⟩))
  have k1 := range_call hin hout (fun w => (sign_any (m.r.g0.v % 256) w z0 z1).mono (fun e w' h => ⟨h.1, h.2 ▸ Below.refl _ _⟩))
  have k2 := range_call hin hout (put_any m.r 0 ⟨signW (m.r.g0.v % 256), false⟩)
  clear sr
  refine wp_region_tail_range ω 12 (by kernel_rfl) (by kernel_rfl) (hout _ (Below.refl _ _).drew) ?_; simp only [List.take_succ_cons, List.take_zero, List.drop_succ_cons, List.drop_zero]
  repeat (go_big_quiet_step (first | (with_reducible exact k0 _) | (with_reducible exact k1 _) | (with_reducible exact k2 _)))
  refine wpQuiet_nil ?_; intro _ hw'; obtain ⟨nq, rfl⟩ := hw'
  have HO3 := Lib.hid (HO2.out.below (hin nq))
  have HA3 := Lib.hid (HA2.out.below (hin nq))
  clear r1 k0 k1 k2
  generalize ω nq = w3 at HO3 HA3 ⊢
  have sc := HO3.out.sees.c; have sf := HO3.out.sees.f; have sr := HO3.out.sees.r; have ss := HO3.out.sees.s; have sl := HO3.out.sees.l
  have HZ := Lib.hid (show V.wf ⟨signW (m.r.g0.v % 256), false⟩ from ⟨signW_lo _ z0, signW_hi _ z1⟩)
  go_wp2_with fail
  (first | go_end0 | (((try simp only [Exit.inBlock, Exit.then]); refine bodyPost_ret (results_none rfl _ _ _) rfl ?_)))
  rw [HD.out]
  exact ⟨rfl, After.mk (HO3.out.putR _ (Regs.put_wf HWF.out 0 HZ.out)) (HA3.out.putR _)⟩

set_option maxRecDepth 100000 in
set_option maxHeartbeats 1600000 in
theorem flags_38 (w : World) (C : Phys) (lv : Value) (m : Mach) (h : Own w C lv m) (r : IRow) (hn : r.name = 38) :
    Calls Tryz.prog 130 #[.pointer (some ⟨C.b, 0, none⟩), r.val] w fun e w' => e = .returned (.tuple #[]) ∧ After C lv w m.doCwd w' := by
  obtain ⟨name, ra, rb, rm⟩ := r
  dsimp only at hn
  subst hn
  have hs := flIn h ⟨38, ra, rb, rm⟩
  have hwf := h.wf.r
  clear h
  have xr := hs.r.row.cell
  have sr := hs.o.sees.r
  have sl := hs.o.row.lt
  go_enter Tryz.func130, Tryz.ntmps130
  go_wp2_with fail
  generalize w.alloc (.cells (rowC ⟨38, ra, rb, rm⟩) 47) = W0 at *
  have HO0 := Lib.hid hs.o
  have HA0 := Lib.hid hs.a
  have HR0 := Lib.hid hs.r
  have HV := Lib.hid hwf.g0
  have HWF := Lib.hid hwf
  clear hs xr hwf
  have HD := Lib.hid (show m.doCwd = (m.plain m.r.g0).setR (m.r.put 2 ⟨spreadW m.r.g0.v, false⟩) from rfl)
  refine (get_any m.r 0 _).mono ?_
  rw [show m.r.get 0 = m.r.g0 from rfl]
  clear sr sl
  rintro e w1 ⟨rfl, hb⟩; dsimp only
  have HO1 := Lib.hid (HO0.out.below hb)
  have HA1 := Lib.hid (HA0.out.below hb)
  have HR1 := Lib.hid (HR0.out.below hb)
  clear hb
  go_wp2_with fail
  refine (plain_any _ _ _ _ HO1.out m.r.g0).mono ?_
  have HR := Lib.hid (plain_r m m.r.g0)
  generalize m.plain m.r.g0 = m2 at HD HR
  rintro e w2 ⟨rfl, lv2, h2, f2, k2⟩; dsimp only
  have HO2 := Lib.hid h2
  have HA2 := Lib.hid (HA1.out.trans ⟨f2, k2⟩)
  have HR2 := Lib.hid (HR1.out.step f2 k2)
  clear h2 f2 k2
  have xr := HR2.out.row.cell
  have v0 := HV.out.1
  have v1 := HV.out.2
  have sc := HO2.out.sees.c; have sf := HO2.out.sees.f; have sr := HO2.out.sees.r; have ss := HO2.out.sees.s; have sl := HO2.out.sees.l
  rw [HR.out] at sr
  go_wp2_with fail
  rw [spread_wrap m.r.g0.v v0 v1]
  have HZ := Lib.hid (show V.wf ⟨spreadW m.r.g0.v, false⟩ from spread_wf _)
  refine (put_any m.r 2 ⟨spreadW m.r.g0.v, false⟩ _).mono ?_
  rintro e w3 ⟨rfl, hb⟩; dsimp only
  have HO3 := Lib.hid (HO2.out.below hb)
  have HA3 := Lib.hid (HA2.out.below hb)
  clear sc sf sr ss sl; clear hb xr
  have sc := HO3.out.sees.c; have sf := HO3.out.sees.f; have sr := HO3.out.sees.r; have ss := HO3.out.sees.s; have sl := HO3.out.sees.l
  go_wp2_with fail
  (first | go_end0 | (((try simp only [Exit.inBlock, Exit.then]); refine bodyPost_ret (results_none rfl _ _ _) rfl ?_)))
  rw [HD.out]
  exact ⟨rfl, After.mk (HO3.out.putR _ (Regs.put_wf HWF.out 2 HZ.out)) (HA3.out.putR _)⟩
end Go.Proofs.YtcglkefaopgjeaaGreatDoor

/- Package core: Wide; package world: In, Out; package cpu: port. -/
namespace Go.Proofs.YtcglkefaopgjeaaGreatDoor
set_option linter.unusedSimpArgs false
set_option linter.unusedVariables false
open Go.RowKit

def wideB (op : Int) : Bool := op == 2 || op == 4 || op == 5 || op == 7 || op == 8 || op == 13 || op == 16 || op == 17 || op == 22 || op == 23
set_option maxHeartbeats 1600000 in
theorem wide_any (op : Int) (w : World) (h0 : 0 ≤ op) (h1 : op ≤ 24) : Calls Tryz.prog 23 #[.int .i64 op] w fun e w' => e = .returned (.bool (wideB op)) ∧ w = w' := by
  have hc : op = 0 ∨ op = 1 ∨ op = 2 ∨ op = 3 ∨ op = 4 ∨ op = 5 ∨ op = 6 ∨ op = 7 ∨ op = 8 ∨ op = 9 ∨ op = 10 ∨ op = 11 ∨ op = 12 ∨ op = 13 ∨ op = 14 ∨ op = 15 ∨ op = 16 ∨ op = 17 ∨ op = 18 ∨ op = 19 ∨ op = 20 ∨ op = 21 ∨ op = 22 ∨ op = 23 ∨ op = 24 := by omega
  clear h0 h1
  rcases hc with rfl | rfl | rfl | rfl | rfl | rfl | rfl | rfl | rfl | rfl | rfl | rfl | rfl | rfl | rfl | rfl | rfl | rfl | rfl | rfl | rfl | rfl | rfl | rfl | rfl
  all_goals
    go_enter Tryz.func23, Tryz.ntmps23
    go_wp2
    go_ret
    exact ⟨rfl, rfl⟩

set_option maxHeartbeats 800000 in
theorem out_any (w : World) (p : WPhys) (rs : List Int) (n : Nat) (l : List Ev) (h : WorldAt w p rs n l) (port v : Int) :
    Calls Tryz.prog 37 #[.pointer (some ⟨p.wb, 0, none⟩), .int .u16 port, .int .u16 v] w fun r w' => r = .returned (.tuple #[]) ∧ WPost p w rs n (noteL l ⟨2, port, v, 0, 0, 0, 0⟩) w' := by
  have H := Lib.hid h
  clear h
  go_enter Tryz.func37, Tryz.ntmps37
  go_wp2_with (go_at_call 82; refine (note_all _ _ _ _ _ H.out ⟨2, port, v, 0, 0, 0, 0⟩).mono ?_; rintro e w' ⟨rfl, hq⟩)
  go_end0
  exact ⟨rfl, hq⟩
def inV (rs : List Int) (i : Nat) (wide : Bool) : Int := if wide then nextV rs i else nextV rs i % 256
set_option maxHeartbeats 1600000 in
theorem in_any (w : World) (p : WPhys) (rs : List Int) (n : Nat) (l : List Ev) (h : WorldAt w p rs n l) (port : Int) (wide : Bool) (h0 : 0 ≤ nextV rs n) (h1 : nextV rs n ≤ 65535) :
    Calls Tryz.prog 181 #[.pointer (some ⟨p.wb, 0, none⟩), .int .u16 port, .bool wide] w fun r w' => r = .returned (.int .u16 (inV rs n wide)) ∧ WPost p w rs (nextI rs n) (noteL l ⟨1, port, inV rs n wide, 0, 0, 0, 0⟩) w' := by
  have H := Lib.hid h
  clear h
  cases wide with
  | true =>
    rw [show inV rs n true = nextV rs n from rfl]
    go_enter Tryz.func181, Tryz.ntmps181
    go_wp2_with (first | (go_at_call 203; refine (next_any _ _ _ _ _ H.out).mono ?_; rintro e w1 ⟨rfl, hw1, hf1⟩; have H1 := Lib.hid hw1; have F1 := Lib.hid hf1; clear hw1 hf1) | (go_at_call 82; refine (note_all _ _ _ _ _ H1.out ⟨1, port, nextV rs n, 0, 0, 0, 0⟩).mono ?_; rintro e w' ⟨rfl, hq⟩))
    go_ret
    exact ⟨rfl, hq.after F1.out⟩
  | false =>
    rw [show inV rs n false = nextV rs n % 256 from rfl]
    go_enter Tryz.func181, Tryz.ntmps181
    go_wp2_with (first | (go_at_call 203; refine (next_any _ _ _ _ _ H.out).mono ?_; rintro e w1 ⟨rfl, hw1, hf1⟩; have H1 := Lib.hid hw1; have F1 := Lib.hid hf1; clear hw1 hf1) | (go_at_call 85; refine (low_any _ _ h0 h1).mono ?_; rintro e w' ⟨rfl, rfl⟩) | (go_at_call 82; refine (note_all _ _ _ _ _ H1.out ⟨1, port, nextV rs n % 256, 0, 0, 0, 0⟩).mono ?_; rintro e w' ⟨rfl, hq⟩))
    go_ret
    exact ⟨rfl, hq.after F1.out⟩

theorem inV_wf {rs : List Int} {i : Nat} (h : 0 ≤ nextV rs i ∧ nextV rs i ≤ 65535) (b : Bool) : V.wf ⟨inV rs i b, false⟩ := by
  unfold inV V.wf
  dsimp only
  cases b
  · rw [if_neg (by decide)]; omega
  · rw [if_pos rfl]; exact h

def Mach.doIn (m : Mach) (i : Inst) (r : IRow) (t : V) : Mach :=
  let m1 := (m.getM i r.b).plain (m.getV i r.b t)
  if m1.state = 0 then ({ m1 with at_ := nextI m1.rs m1.at_, ev := noteL m1.ev ⟨1, (m.getV i r.b t).v, inV m1.rs m1.at_ (wideB r.a), 0, 0, 0, 0⟩ } : Mach).putV i r.a ⟨inV m1.rs m1.at_ (wideB r.a), false⟩ else m1
def Mach.doOut (m : Mach) (i : Inst) (r : IRow) (t : V) : Mach :=
  let m1 := (m.getM i r.a).plain (m.getV i r.a t)
  let m2 := (m1.getM i r.b).plain (m1.getV i r.b t)
  if m2.state = 0 then { m2 with ev := noteL m2.ev ⟨2, (m.getV i r.a t).v, (m1.getV i r.b t).v, 0, 0, 0, 0⟩ } else m2

/-- The boxes that port, move, do begin with. -/
structure DoIn3 (C : Phys) (lv : Value) (w : World) (m : Mach) (i : Inst) (r : IRow) (t : V) (W0 : World) : Prop where
  o : Own W0 C lv m
  a : Acc C lv w lv W0
  i : Box C lv W0 w.heap.size (instC i) 30
  r : Box C lv W0 (w.heap.size + 1) (rowC r) 47
  t : Box C lv W0 (w.heap.size + 1 + 1) (valC t) 24
theorem doIn3 {C : Phys} {lv : Value} {w : World} {m : Mach} (h : Own w C lv m) (i : Inst) (r : IRow) (t : V) : DoIn3 C lv w m i r t (((w.alloc (.cells (instC i) 30)).alloc (.cells (rowC r) 47)).alloc (.cells (valC t) 24)) := by
  have o1 := h.alloc (.cells (instC i) 30)
  have o2 := o1.alloc (.cells (rowC r) 47)
  have x2 := Box.new o1 (rowC r) 47
  have x3 := Box.new o2 (valC t) 24
  rw [World.size_alloc] at x2
  rw [World.size_alloc, World.size_alloc] at x3
  exact ⟨o2.alloc _, (((Acc.refl C lv w).alloc _).alloc _).alloc _, ((Box.new h _ _).alloc _).alloc _, x2.alloc _, x3⟩

set_option maxRecDepth 100000 in
set_option maxHeartbeats 1600000 in
theorem port_in (w : World) (C : Phys) (lv : Value) (m : Mach) (h : Own w C lv m) (i : Inst) (r : IRow) (t : V) (ht : t.wf) (hn : r.name = 78) (ha0 : 0 ≤ r.a) (ha1 : r.a ≤ 24) (hg : GetOk i r.b) (hp : PutOk i r.a)
    (hrs : ∀ (m' : Mach), m'.rs = m.rs → ∀ j, 0 ≤ nextV m'.rs j ∧ nextV m'.rs j ≤ 65535) (hgr : (m.getM i r.b).rs = m.rs) :
    Calls Tryz.prog 129 #[.pointer (some ⟨C.b, 0, none⟩), i.val, r.val, t.val] w fun e w' => e = .returned (.tuple #[]) ∧ After C lv w (m.doIn i r t) w' := by
  obtain ⟨name, ra, rb, rm⟩ := r
  dsimp only at hn hg hp ha0 ha1 hgr
  subst hn
  have hs := doIn3 h i ⟨78, ra, rb, rm⟩ t
  have HG := Lib.hid hg
  have HP := Lib.hid hp
  have hrs1 := hrs ((m.getM i rb).plain (m.getV i rb t)) (by rw [plain_rs, hgr])
  have hi1 := fun j b => inV_wf (hrs1 j) b
  clear h hg hp hrs hgr
  have xi := hs.i.row.cell
  have xr := hs.r.row.cell
  have xt := hs.t.row.cell
  have HD := Lib.hid (show m.doIn i ⟨78, ra, rb, rm⟩ t = (let m1 := (m.getM i rb).plain (m.getV i rb t); if m1.state = 0 then ({ m1 with at_ := nextI m1.rs m1.at_, ev := noteL m1.ev ⟨1, (m.getV i rb t).v, inV m1.rs m1.at_ (wideB ra), 0, 0, 0, 0⟩ } : Mach).putV i ra ⟨inV m1.rs m1.at_ (wideB ra), false⟩ else m1) from rfl)
  go_enter Tryz.func129, Tryz.ntmps129
  go_wp2_with fail
  generalize ((w.alloc (.cells (instC i) 30)).alloc (.cells (rowC ⟨78, ra, rb, rm⟩) 47)).alloc (.cells (valC t) 24) = W0 at *
  have HA0 := Lib.hid hs.a
  have HI0 := Lib.hid hs.i
  have HR0 := Lib.hid hs.r
  refine (HG.out _ _ _ _ hs.o t).mono ?_
  clear hs xi xr xt
  generalize m.getV i rb t = v at HD hrs1 hi1
  generalize m.getM i rb = m0 at HD hrs1 hi1
  rintro e w1 ⟨rfl, lv1, h1, f1, k1⟩; dsimp only
  have HO1 := Lib.hid h1
  have HA1 := Lib.hid (HA0.out.trans ⟨f1, k1⟩)
  have HI1 := Lib.hid (HI0.out.step f1 k1)
  have HR1 := Lib.hid (HR0.out.step f1 k1)
  clear h1 f1 k1
  go_wp2_with fail
  refine (plain_any _ _ _ _ HO1.out v).mono ?_
  generalize m0.plain v = m1 at HD hrs1 hi1
  have HRS := Lib.hid hrs1
  have HIV := Lib.hid hi1
  clear hrs1 hi1
  rintro e w2 ⟨rfl, lv2, h2, f2, k2⟩; dsimp only
  have HO2 := Lib.hid h2
  have HA2 := Lib.hid (HA1.out.trans ⟨f2, k2⟩)
  have HI2 := Lib.hid (HI1.out.step f2 k2)
  have HR2 := Lib.hid (HR1.out.step f2 k2)
  clear h2 f2 k2
  go_wp2_with fail
  refine (state_any _ _ _ _ HO2.out).mono ?_
  rintro e w' ⟨rfl, rfl⟩; dsimp only
  by_cases h0 : m1.state = 0
  · have hb : (m1.state == 0) = true := by simp [h0]
    have H0 := Lib.hid h0
    clear h0
    have xi := HI2.out.row.cell
    have c1 : w2.cell? ⟨w.heap.size + 1, 1, none⟩ = some (.int .i64 ra) := HR2.out.row.cell 1
    have c27 : w2.cell? ⟨C.b, 27, none⟩ = some (.pointer (some ⟨C.wb, 0, none⟩)) := (HO2.out.row.cell 27).trans (mcell27 C m1)
    go_upto_region 4 with fail
    go_region_held3 (fun w' => (∀ j, w'.cell? ⟨w.heap.size, j, none⟩ = (instC i)[j]?) ∧ w'.cell? ⟨w.heap.size + 1, 1, none⟩ = some (.int .i64 ra) ∧ w'.cell? ⟨C.b, 27, none⟩ = some (.pointer (some ⟨C.wb, 0, none⟩))) (go_keep) (first | (go_at_call 23; refine (wide_any ra _ ha0 ha1).mono ?_; rintro e w' ⟨rfl, rfl⟩) | (go_at_call 181; refine (in_any _ (C.wp lv2) m1.rs m1.at_ m1.ev HO2.out.drew.wor v.v (wideB ra) (HRS.out _).1 (HRS.out _).2).mono ?_; rintro e w4 ⟨rfl, hp⟩; obtain ⟨lv4, h4, f4, k4⟩ := Own.world (m := m1) HO2.out.drew hp; have HO4 := Lib.hid h4; have HA4 := Lib.hid (HA2.out.drew.trans ⟨f4, k4⟩); have HI4 := Lib.hid (HI2.out.drew.step f4 k4); have HR4 := Lib.hid (HR2.out.drew.step f4 k4); have z1 := HI4.out.row.cell; have z2 : w4.cell? ⟨w.heap.size + 1, 1, none⟩ = some (.int .i64 ra) := HR4.out.row.cell 1; have z3 : w4.cell? ⟨C.b, 27, none⟩ = some (.pointer (some ⟨C.wb, 0, none⟩)) := (HO4.out.row.cell 27).trans rfl; clear hp h4 f4 k4) | (go_at_call 179; refine (HP.out _ _ _ _ HO4.out ⟨inV m1.rs m1.at_ (wideB ra), false⟩ (HIV.out _ _)).mono ?_; rintro e w5 ⟨rfl, lv5, h5, f5, k5⟩; have HO5 := Lib.hid h5; have HA5 := Lib.hid (HA4.out.trans ⟨f5, k5⟩); have y1 := (HI4.out.step f5 k5).row.cell; have y2 : w5.cell? ⟨w.heap.size + 1, 1, none⟩ = some (.int .i64 ra) := (HR4.out.step f5 k5).row.cell 1; have y3 : w5.cell? ⟨C.b, 27, none⟩ = some (.pointer (some ⟨C.wb, 0, none⟩)) := (HO5.out.row.cell 27).trans rfl; clear h5 f5 k5))
    all_goals
    go_wp2_with fail
    (first | go_end0 | (((try simp only [Exit.inBlock, Exit.then]); refine bodyPost_ret (results_none rfl _ _ _) rfl ?_)))
    rw [HD.out]
    rw [if_pos H0.out]
    exact ⟨rfl, After.mk HO5.out HA5.out⟩
  · have hb : (m1.state == 0) = false := by simp [h0]
    have H0 := Lib.hid h0
    clear h0
    go_wp2_with fail
    (first | go_end0 | (((try simp only [Exit.inBlock, Exit.then]); refine bodyPost_ret (results_none rfl _ _ _) rfl ?_)))
    rw [HD.out]
    rw [if_neg H0.out]
    exact ⟨rfl, After.mk HO2.out HA2.out⟩

/-- What is known behind some of a function's work: the machine is m', the three boxes are as they were. -/
def St3 (C : Phys) (lv : Value) (w0 : World) (i : Inst) (r : IRow) (t : V) (m' : Mach) (w : World) : Prop :=
  ∃ lv', Own w C lv' m' ∧ Acc C lv w0 lv' w ∧ Box C lv' w w0.heap.size (instC i) 30 ∧ Box C lv' w (w0.heap.size + 1) (rowC r) 47 ∧ Box C lv' w (w0.heap.size + 1 + 1) (valC t) 24
section
variable {C : Phys} {lv : Value} {w0 w : World} {i : Inst} {r : IRow} {t : V} {m m' : Mach}
theorem St3.drew (h : St3 C lv w0 i r t m w) : St3 C lv w0 i r t m w.drew := by
  obtain ⟨l, a, b, c, d, e⟩ := h
  exact ⟨l, a.drew, b.drew, c.drew, d.drew, e.drew⟩
theorem St3.alloc (h : St3 C lv w0 i r t m w) (o : Obj) : St3 C lv w0 i r t m (w.alloc o) := by
  obtain ⟨l, a, b, c, d, e⟩ := h
  exact ⟨l, a.alloc o, b.alloc o, c.alloc o, d.alloc o, e.alloc o⟩
theorem St3.below {w' : World} (h : St3 C lv w0 i r t m w) (hb : Below w.heap.size w w') : St3 C lv w0 i r t m w' := by
  obtain ⟨l, a, b, c, d, e⟩ := h
  exact ⟨l, a.below hb, b.below hb, c.below hb, d.below hb, e.below hb⟩
theorem St3.after {w' : World} {lv1 : Value} (ho : Own w C lv1 m) (h : Acc C lv w0 lv1 w) (c : Box C lv1 w w0.heap.size (instC i) 30) (d : Box C lv1 w (w0.heap.size + 1) (rowC r) 47) (e : Box C lv1 w (w0.heap.size + 1 + 1) (valC t) 24) (ha : After C lv1 w m' w') : St3 C lv w0 i r t m' w' := by
  obtain ⟨l, h1, f1, k1⟩ := ha
  exact ⟨l, h1, h.trans ⟨f1, k1⟩, c.step f1 k1, d.step f1 k1, e.step f1 k1⟩
theorem St3.calls {f : FuncId} {args : Array Value} {v : Value} (hc : ∀ (w : World) (lv : Value), Own w C lv m → Calls Tryz.prog f args w fun e w' => e = .returned v ∧ After C lv w m' w') (w : World) (h : St3 C lv w0 i r t m w) :
    Calls Tryz.prog f args w fun e w' => e = .returned v ∧ St3 C lv w0 i r t m' w' := by
  obtain ⟨l, a, b, c, d, e⟩ := h
  exact (hc w l a).mono fun _ _ ⟨he, ha⟩ => ⟨he, St3.after a b c d e ha⟩
theorem St3.ci (h : St3 C lv w0 i r t m w) (j : Nat) : w.cell? ⟨w0.heap.size, j, none⟩ = (instC i)[j]? := by
  obtain ⟨l, a, b, c, d, e⟩ := h
  exact c.row.cell j
theorem St3.cr (h : St3 C lv w0 i r t m w) (j : Nat) : w.cell? ⟨w0.heap.size + 1, j, none⟩ = (rowC r)[j]? := by
  obtain ⟨l, a, b, c, d, e⟩ := h
  exact d.row.cell j
theorem St3.ct (h : St3 C lv w0 i r t m w) (j : Nat) : w.cell? ⟨w0.heap.size + 1 + 1, j, none⟩ = (valC t)[j]? := by
  obtain ⟨l, a, b, c, d, e⟩ := h
  exact e.row.cell j
theorem St3.fin (h : St3 C lv w0 i r t m w) : After C lv w0 m w := by
  obtain ⟨l, a, b, c, d, e⟩ := h
  exact After.mk a b
theorem St3.sees (h : St3 C lv w0 i r t m w) : Sees w C m := by
  obtain ⟨l, a, b, c, d, e⟩ := h
  exact a.sees
theorem St3.lt (h : St3 C lv w0 i r t m w) : w0.heap.size < w.heap.size ∧ w0.heap.size + 1 < w.heap.size ∧ w0.heap.size + 1 + 1 < w.heap.size := by
  obtain ⟨l, a, b, c, d, e⟩ := h
  exact ⟨c.row.lt, d.row.lt, e.row.lt⟩
end
theorem st3 {C : Phys} {lv : Value} {w : World} {m : Mach} (h : Own w C lv m) (i : Inst) (r : IRow) (t : V) : St3 C lv w i r t m (((w.alloc (.cells (instC i) 30)).alloc (.cells (rowC r) 47)).alloc (.cells (valC t) 24)) :=
  have d := doIn3 h i r t
  ⟨lv, d.o, d.a, d.i, d.r, d.t⟩

set_option maxRecDepth 100000 in
set_option maxHeartbeats 1600000 in
theorem port_out (w : World) (C : Phys) (lv : Value) (m : Mach) (h : Own w C lv m) (i : Inst) (r : IRow) (t : V) (hn : r.name = 79) (hga : GetOk i r.a) (hgb : GetOk i r.b) :
    Calls Tryz.prog 129 #[.pointer (some ⟨C.b, 0, none⟩), i.val, r.val, t.val] w fun e w' => e = .returned (.tuple #[]) ∧ After C lv w (m.doOut i r t) w' := by
  obtain ⟨name, ra, rb, rm⟩ := r
  dsimp only at hn hga hgb
  subst hn
  have hs := st3 h i ⟨79, ra, rb, rm⟩ t
  have HD := Lib.hid (show m.doOut i ⟨79, ra, rb, rm⟩ t = (let m1 := (m.getM i ra).plain (m.getV i ra t); let m2 := (m1.getM i rb).plain (m1.getV i rb t); if m2.state = 0 then ({ m2 with ev := noteL m2.ev ⟨2, (m.getV i ra t).v, (m1.getV i rb t).v, 0, 0, 0, 0⟩ } : Mach) else m2) from rfl)
  obtain ⟨v, hv⟩ : ∃ v, m.getV i ra t = v := ⟨_, rfl⟩
  obtain ⟨m0, hm0⟩ : ∃ m0, m.getM i ra = m0 := ⟨_, rfl⟩
  obtain ⟨m1, hm1⟩ : ∃ m1, m0.plain v = m1 := ⟨_, rfl⟩
  obtain ⟨u, hu⟩ : ∃ u, m1.getV i rb t = u := ⟨_, rfl⟩
  obtain ⟨m2, hm2⟩ : ∃ m2, m1.getM i rb = m2 := ⟨_, rfl⟩
  obtain ⟨m3, hm3⟩ : ∃ m3, m2.plain u = m3 := ⟨_, rfl⟩
  have HE := Lib.hid (show m.doOut i ⟨79, ra, rb, rm⟩ t = if m3.state = 0 then ({ m3 with ev := noteL m3.ev ⟨2, v.v, u.v, 0, 0, 0, 0⟩ } : Mach) else m3 from by rw [HD.out, ← hm3, ← hm2, ← hu, ← hm1, ← hm0, ← hv])
  have KA := Lib.hid (St3.calls (lv := lv) (w0 := w) (i := i) (r := ⟨79, ra, rb, rm⟩) (t := t) (fun w lv h => hm0 ▸ hv ▸ hga w C lv m h t))
  have KP := Lib.hid (St3.calls (lv := lv) (w0 := w) (i := i) (r := ⟨79, ra, rb, rm⟩) (t := t) (fun w lv h => hm1 ▸ plain_any w C lv m0 h v))
  have KB := Lib.hid (St3.calls (lv := lv) (w0 := w) (i := i) (r := ⟨79, ra, rb, rm⟩) (t := t) (fun w lv h => hm2 ▸ hu ▸ hgb w C lv m1 h t))
  have KQ := Lib.hid (St3.calls (lv := lv) (w0 := w) (i := i) (r := ⟨79, ra, rb, rm⟩) (t := t) (fun w lv h => hm3 ▸ plain_any w C lv m2 h u))
  clear h hga hgb hv hm0 hm1 hu hm2 hm3 HD
  have xi := hs.ci
  have xr := hs.cr
  have xt := hs.ct
  go_enter Tryz.func129, Tryz.ntmps129
  go_wp2_with fail
  generalize ((w.alloc (.cells (instC i) 30)).alloc (.cells (rowC ⟨79, ra, rb, rm⟩) 47)).alloc (.cells (valC t) 24) = W0 at *
  have S0 := Lib.hid hs.drew
  clear hs
  go_region_held3 (fun w' => (∀ j, w'.cell? ⟨w.heap.size, j, none⟩ = (instC i)[j]?) ∧ (∀ j, w'.cell? ⟨w.heap.size + 1, j, none⟩ = (rowC ⟨79, ra, rb, rm⟩)[j]?) ∧ (∀ j, w'.cell? ⟨w.heap.size + 1 + 1, j, none⟩ = (valC t)[j]?)) (go_keep) (first | (go_at_call 66; with_reducible refine (KA.out _ ?_).mono ?_; (focus (refine Hid.out ?_; assumption)); rintro e w1 ⟨rfl, hq⟩; have y1 := hq.ci; have y2 := hq.cr; have y3 := hq.ct; have S1 := Lib.hid hq; clear hq) | (go_at_call 115; with_reducible refine (KP.out _ ?_).mono ?_; (focus (refine Hid.out ?_; assumption)); rintro e w2 ⟨rfl, hq⟩; have y4 := hq.ci; have y5 := hq.cr; have y6 := hq.ct; have S2 := Lib.hid hq; clear hq) | (go_at_call 66; with_reducible refine (KB.out _ ?_).mono ?_; (focus (refine Hid.out ?_; assumption)); rintro e w3 ⟨rfl, hq⟩; have y7 := hq.ci; have y8 := hq.cr; have y9 := hq.ct; have S3 := Lib.hid hq; clear hq) | (go_at_call 115; with_reducible refine (KQ.out _ ?_).mono ?_; (focus (refine Hid.out ?_; assumption)); rintro e w4 ⟨rfl, hq⟩; have z1 := hq.ci; have z2 := hq.cr; have z3 := hq.ct; have S4 := Lib.hid hq; clear hq))
  all_goals
    obtain ⟨lv4, o4, a4, _, _, _⟩ := S4.out
    have HO4 := Lib.hid o4
    have HA4 := Lib.hid a4
    clear o4 a4
    go_wp2_with fail
    refine (state_any _ _ _ _ HO4.out).mono ?_
    rintro e w' ⟨rfl, rfl⟩; dsimp only
    by_cases h0 : m3.state = 0
    · have hb : (m3.state == 0) = true := by simp [h0]
      have H0 := Lib.hid h0
      clear h0
      have c27 : w4.cell? ⟨C.b, 27, none⟩ = some (.pointer (some ⟨C.wb, 0, none⟩)) := (HO4.out.row.cell 27).trans (mcell27 C m3)
      go_wp2_with fail
      refine (out_any _ (C.wp lv4) m3.rs m3.at_ m3.ev HO4.out.wor v.v u.v).mono ?_
      rintro e w5 ⟨rfl, hp⟩; dsimp only
      obtain ⟨lv5, h5, f5, k5⟩ := Own.world (m := m3) HO4.out hp
      have HO5 := Lib.hid h5
      have HA5 := Lib.hid (HA4.out.trans ⟨f5, k5⟩)
      clear hp h5 f5 k5
      go_wp2_with fail
      (first | go_end0 | (((try simp only [Exit.inBlock, Exit.then]); refine bodyPost_ret (results_none rfl _ _ _) rfl ?_)))
      rw [HE.out, if_pos H0.out]
      exact ⟨rfl, After.mk HO5.out HA5.out⟩
    · have hb : (m3.state == 0) = false := by simp [h0]
      have H0 := Lib.hid h0
      clear h0
      go_wp2_with fail
      (first | go_end0 | (((try simp only [Exit.inBlock, Exit.then]); refine bodyPost_ret (results_none rfl _ _ _) rfl ?_)))
      rw [HE.out, if_neg H0.out]
      exact ⟨rfl, After.mk HO4.out HA4.out⟩
end Go.Proofs.YtcglkefaopgjeaaGreatDoor

/- Package cpu: move, of MOV. -/
namespace Go.Proofs.YtcglkefaopgjeaaGreatDoor
set_option linter.unusedSimpArgs false
set_option linter.unusedVariables false
open Go.RowKit

def Mach.doMov (m : Mach) (i : Inst) (r : IRow) (t : V) : Mach := (m.getM i r.b).putV i r.a (m.getV i r.b t)

set_option maxRecDepth 100000 in
set_option maxHeartbeats 1600000 in
theorem move_mov (w : World) (C : Phys) (lv : Value) (m : Mach) (h : Own w C lv m) (i : Inst) (r : IRow) (t : V) (ht : t.wf) (hn : r.name = 35) (hg : GetOk i r.b) (hp : PutOk i r.a) :
    Calls Tryz.prog 128 #[.pointer (some ⟨C.b, 0, none⟩), i.val, r.val, t.val] w fun e w' => e = .returned (.tuple #[]) ∧ After C lv w (m.doMov i r t) w' := by
  obtain ⟨name, ra, rb, rm⟩ := r
  dsimp only at hn hg hp
  subst hn
  have hs := st3 h i ⟨35, ra, rb, rm⟩ t
  have hv0 := getV_wf h i rb ht
  obtain ⟨v, hv⟩ : ∃ v, m.getV i rb t = v := ⟨_, rfl⟩
  obtain ⟨m1, hm1⟩ : ∃ m1, m.getM i rb = m1 := ⟨_, rfl⟩
  obtain ⟨m2, hm2⟩ : ∃ m2, m1.putV i ra v = m2 := ⟨_, rfl⟩
  have HE := Lib.hid (show m.doMov i ⟨35, ra, rb, rm⟩ t = m2 from by rw [← hm2, ← hm1, ← hv]; rfl)
  rw [hv] at hv0
  have KG := Lib.hid (St3.calls (lv := lv) (w0 := w) (i := i) (r := ⟨35, ra, rb, rm⟩) (t := t) (fun w lv h => hm1 ▸ hv ▸ hg w C lv m h t))
  have KP := Lib.hid (St3.calls (lv := lv) (w0 := w) (i := i) (r := ⟨35, ra, rb, rm⟩) (t := t) (fun w lv h => hm2 ▸ hp w C lv m1 h v hv0))
  clear h hg hp hv hm1 hm2 hv0
  have xi := hs.ci
  have xr := hs.cr
  have xt := hs.ct
  go_enter Tryz.func128, Tryz.ntmps128
  go_wp2_with fail
  generalize ((w.alloc (.cells (instC i) 30)).alloc (.cells (rowC ⟨35, ra, rb, rm⟩) 47)).alloc (.cells (valC t) 24) = W0 at *
  have S0 := Lib.hid hs.drew
  clear hs
  go_region_held3 (fun w' => (∀ j, w'.cell? ⟨w.heap.size, j, none⟩ = (instC i)[j]?) ∧ (∀ j, w'.cell? ⟨w.heap.size + 1, j, none⟩ = (rowC ⟨35, ra, rb, rm⟩)[j]?) ∧ (∀ j, w'.cell? ⟨w.heap.size + 1 + 1, j, none⟩ = (valC t)[j]?)) (go_keep) (first | (go_at_call 66; with_reducible refine (KG.out _ ?_).mono ?_; (focus (refine Hid.out ?_; assumption)); rintro e w1 ⟨rfl, hq⟩; have y1 := hq.ci; have y2 := hq.cr; have y3 := hq.ct; have S1 := Lib.hid hq; clear hq) | (go_at_call 179; with_reducible refine (KP.out _ ?_).mono ?_; (focus (refine Hid.out ?_; assumption)); rintro e w2 ⟨rfl, hq⟩; have y4 := hq.ci; have y5 := hq.cr; have y6 := hq.ct; have S2 := Lib.hid hq; clear hq))
  all_goals
    go_wp2_with fail
    (first | go_end0 | (((try simp only [Exit.inBlock, Exit.then]); refine bodyPost_ret (results_none rfl _ _ _) rfl ?_)))
    rw [HE.out]
    exact ⟨rfl, S2.out.fin⟩
end Go.Proofs.YtcglkefaopgjeaaGreatDoor

/- Package cpu: do. -/
namespace Go.Proofs.YtcglkefaopgjeaaGreatDoor
set_option linter.unusedSimpArgs false
set_option linter.unusedVariables false
open Go.RowKit

set_option maxRecDepth 100000 in
set_option maxHeartbeats 3200000 in
theorem do_stack (w : World) (C : Phys) (lv : Value) (m m' : Mach) (h : Own w C lv m) (i : Inst) (r : IRow) (t : V) (hn : r.name = 9 ∨ r.name = 10 ∨ r.name = 42 ∨ r.name = 43)
    (hc : ∀ (w : World) (lv : Value), Own w C lv m → Calls Tryz.prog 127 #[.pointer (some ⟨C.b, 0, none⟩), i.val, r.val] w fun e w' => e = .returned (.tuple #[]) ∧ After C lv w m' w') :
    Calls Tryz.prog 75 #[.pointer (some ⟨C.b, 0, none⟩), i.val, r.val, t.val] w fun e w' => e = .returned (.tuple #[]) ∧ After C lv w m' w' := by
  obtain ⟨name, ra, rb, rm⟩ := r
  dsimp only at hn
  have hs := st3 h i ⟨name, ra, rb, rm⟩ t
  have KC := Lib.hid (St3.calls (lv := lv) (w0 := w) (i := i) (r := ⟨name, ra, rb, rm⟩) (t := t) hc)
  clear h hc
  have xi := hs.ci
  have xr := hs.cr
  have xt := hs.ct
  rcases hn with rfl | rfl | rfl | rfl
  all_goals
    go_enter Tryz.func75, Tryz.ntmps75
    go_wp2_with fail
    refine (KC.out _ hs).mono ?_
    clear hs xi xr xt
    rintro e w1 ⟨rfl, hq⟩; dsimp only
    have S1 := Lib.hid hq
    clear hq
    go_wp2_with fail
    (first | go_end0 | (((try simp only [Exit.inBlock, Exit.then]); refine bodyPost_ret (results_none rfl _ _ _) rfl ?_)))
    exact ⟨rfl, S1.out.fin⟩

set_option maxRecDepth 100000 in
set_option maxHeartbeats 3200000 in
theorem do_move (w : World) (C : Phys) (lv : Value) (m m' : Mach) (h : Own w C lv m) (i : Inst) (r : IRow) (t : V) (hn : r.name = 35 ∨ r.name = 34 ∨ r.name = 36 ∨ r.name = 58 ∨ r.name = 59 ∨ r.name = 72)
    (hc : ∀ (w : World) (lv : Value), Own w C lv m → Calls Tryz.prog 128 #[.pointer (some ⟨C.b, 0, none⟩), i.val, r.val, t.val] w fun e w' => e = .returned (.tuple #[]) ∧ After C lv w m' w') :
    Calls Tryz.prog 75 #[.pointer (some ⟨C.b, 0, none⟩), i.val, r.val, t.val] w fun e w' => e = .returned (.tuple #[]) ∧ After C lv w m' w' := by
  obtain ⟨name, ra, rb, rm⟩ := r
  dsimp only at hn
  have hs := st3 h i ⟨name, ra, rb, rm⟩ t
  have KC := Lib.hid (St3.calls (lv := lv) (w0 := w) (i := i) (r := ⟨name, ra, rb, rm⟩) (t := t) hc)
  clear h hc
  have xi := hs.ci
  have xr := hs.cr
  have xt := hs.ct
  rcases hn with rfl | rfl | rfl | rfl | rfl | rfl
  all_goals
    go_enter Tryz.func75, Tryz.ntmps75
    go_wp2_with fail
    refine (KC.out _ hs).mono ?_
    clear hs xi xr xt
    rintro e w1 ⟨rfl, hq⟩; dsimp only
    have S1 := Lib.hid hq
    clear hq
    go_wp2_with fail
    (first | go_end0 | (((try simp only [Exit.inBlock, Exit.then]); refine bodyPost_ret (results_none rfl _ _ _) rfl ?_)))
    exact ⟨rfl, S1.out.fin⟩

set_option maxRecDepth 100000 in
set_option maxHeartbeats 3200000 in
theorem do_port (w : World) (C : Phys) (lv : Value) (m m' : Mach) (h : Own w C lv m) (i : Inst) (r : IRow) (t : V) (hn : r.name = 78 ∨ r.name = 79)
    (hc : ∀ (w : World) (lv : Value), Own w C lv m → Calls Tryz.prog 129 #[.pointer (some ⟨C.b, 0, none⟩), i.val, r.val, t.val] w fun e w' => e = .returned (.tuple #[]) ∧ After C lv w m' w') :
    Calls Tryz.prog 75 #[.pointer (some ⟨C.b, 0, none⟩), i.val, r.val, t.val] w fun e w' => e = .returned (.tuple #[]) ∧ After C lv w m' w' := by
  obtain ⟨name, ra, rb, rm⟩ := r
  dsimp only at hn
  have hs := st3 h i ⟨name, ra, rb, rm⟩ t
  have KC := Lib.hid (St3.calls (lv := lv) (w0 := w) (i := i) (r := ⟨name, ra, rb, rm⟩) (t := t) hc)
  clear h hc
  have xi := hs.ci
  have xr := hs.cr
  have xt := hs.ct
  rcases hn with rfl | rfl
  all_goals
    go_enter Tryz.func75, Tryz.ntmps75
    go_wp2_with fail
    refine (KC.out _ hs).mono ?_
    clear hs xi xr xt
    rintro e w1 ⟨rfl, hq⟩; dsimp only
    have S1 := Lib.hid hq
    clear hq
    go_wp2_with fail
    (first | go_end0 | (((try simp only [Exit.inBlock, Exit.then]); refine bodyPost_ret (results_none rfl _ _ _) rfl ?_)))
    exact ⟨rfl, S1.out.fin⟩

set_option maxRecDepth 100000 in
set_option maxHeartbeats 3200000 in
theorem do_flags (w : World) (C : Phys) (lv : Value) (m m' : Mach) (h : Own w C lv m) (i : Inst) (r : IRow) (t : V) (hn : r.name = 90 ∨ r.name = 91 ∨ r.name = 92 ∨ r.name = 93 ∨ r.name = 94 ∨ r.name = 95 ∨ r.name = 83 ∨ r.name = 82 ∨ r.name = 45 ∨ r.name = 44 ∨ r.name = 37 ∨ r.name = 38)
    (hc : ∀ (w : World) (lv : Value), Own w C lv m → Calls Tryz.prog 130 #[.pointer (some ⟨C.b, 0, none⟩), r.val] w fun e w' => e = .returned (.tuple #[]) ∧ After C lv w m' w') :
    Calls Tryz.prog 75 #[.pointer (some ⟨C.b, 0, none⟩), i.val, r.val, t.val] w fun e w' => e = .returned (.tuple #[]) ∧ After C lv w m' w' := by
  obtain ⟨name, ra, rb, rm⟩ := r
  dsimp only at hn
  have hs := st3 h i ⟨name, ra, rb, rm⟩ t
  have KC := Lib.hid (St3.calls (lv := lv) (w0 := w) (i := i) (r := ⟨name, ra, rb, rm⟩) (t := t) hc)
  clear h hc
  have xi := hs.ci
  have xr := hs.cr
  have xt := hs.ct
  rcases hn with rfl | rfl | rfl | rfl | rfl | rfl | rfl | rfl | rfl | rfl | rfl | rfl
  all_goals
    go_enter Tryz.func75, Tryz.ntmps75
    go_wp2_with fail
    refine (KC.out _ hs).mono ?_
    clear hs xi xr xt
    rintro e w1 ⟨rfl, hq⟩; dsimp only
    have S1 := Lib.hid hq
    clear hq
    go_wp2_with fail
    (first | go_end0 | (((try simp only [Exit.inBlock, Exit.then]); refine bodyPost_ret (results_none rfl _ _ _) rfl ?_)))
    exact ⟨rfl, S1.out.fin⟩

set_option maxRecDepth 100000 in
set_option maxHeartbeats 3200000 in
theorem do_numbers (w : World) (C : Phys) (lv : Value) (m m' : Mach) (h : Own w C lv m) (i : Inst) (r : IRow) (t : V) (hn : r.name = 1 ∨ r.name = 2 ∨ r.name = 3 ∨ r.name = 4 ∨ r.name = 5 ∨ r.name = 6 ∨ r.name = 7 ∨ r.name = 8 ∨ r.name = 11 ∨ r.name = 12 ∨ r.name = 13 ∨ r.name = 14 ∨ r.name = 15 ∨ r.name = 16 ∨ r.name = 33 ∨ r.name = 63 ∨ r.name = 64 ∨ r.name = 65 ∨ r.name = 66 ∨ r.name = 67 ∨ r.name = 68 ∨ r.name = 69 ∨ r.name = 70 ∨ r.name = 71 ∨ r.name = 84 ∨ r.name = 85 ∨ r.name = 86 ∨ r.name = 87 ∨ r.name = 88 ∨ r.name = 89)
    (hc : ∀ (w : World) (lv : Value), Own w C lv m → Calls Tryz.prog 131 #[.pointer (some ⟨C.b, 0, none⟩), i.val, r.val, t.val] w fun e w' => e = .returned (.tuple #[]) ∧ After C lv w m' w') :
    Calls Tryz.prog 75 #[.pointer (some ⟨C.b, 0, none⟩), i.val, r.val, t.val] w fun e w' => e = .returned (.tuple #[]) ∧ After C lv w m' w' := by
  obtain ⟨name, ra, rb, rm⟩ := r
  dsimp only at hn
  have hs := st3 h i ⟨name, ra, rb, rm⟩ t
  have KC := Lib.hid (St3.calls (lv := lv) (w0 := w) (i := i) (r := ⟨name, ra, rb, rm⟩) (t := t) hc)
  clear h hc
  have xi := hs.ci
  have xr := hs.cr
  have xt := hs.ct
  rcases hn with rfl | rfl | rfl | rfl | rfl | rfl | rfl | rfl | rfl | rfl | rfl | rfl | rfl | rfl | rfl | rfl | rfl | rfl | rfl | rfl | rfl | rfl | rfl | rfl | rfl | rfl | rfl | rfl | rfl | rfl
  all_goals
    go_enter Tryz.func75, Tryz.ntmps75
    go_wp2_with fail
    refine (KC.out _ hs).mono ?_
    clear hs xi xr xt
    rintro e w1 ⟨rfl, hq⟩; dsimp only
    have S1 := Lib.hid hq
    clear hq
    go_wp2_with fail
    (first | go_end0 | (((try simp only [Exit.inBlock, Exit.then]); refine bodyPost_ret (results_none rfl _ _ _) rfl ?_)))
    exact ⟨rfl, S1.out.fin⟩

set_option maxRecDepth 100000 in
set_option maxHeartbeats 1600000 in
theorem do_idle (w : World) (C : Phys) (lv : Value) (m : Mach) (h : Own w C lv m) (i : Inst) (r : IRow) (t : V) (hn : r.name = 73 ∨ r.name = 41) :
    Calls Tryz.prog 75 #[.pointer (some ⟨C.b, 0, none⟩), i.val, r.val, t.val] w fun e w' => e = .returned (.tuple #[]) ∧ After C lv w m w' := by
  obtain ⟨name, ra, rb, rm⟩ := r
  dsimp only at hn
  have hs := st3 h i ⟨name, ra, rb, rm⟩ t
  clear h
  have xr := hs.cr
  rcases hn with rfl | rfl
  all_goals
    go_enter Tryz.func75, Tryz.ntmps75
    go_wp2_with fail
    (first | go_end0 | (((try simp only [Exit.inBlock, Exit.then]); refine bodyPost_ret (results_none rfl _ _ _) rfl ?_)))
    exact ⟨rfl, hs.fin⟩
end Go.Proofs.YtcglkefaopgjeaaGreatDoor

/- Package inst, continued: Two, Imms, Row, second. -/
namespace Go.Proofs.YtcglkefaopgjeaaGreatDoor
set_option linter.unusedSimpArgs false
set_option linter.unusedVariables false
open Go.RowKit

def modOf (op reg : Int) : Bool := ((isaOf op reg).getD zRow).mod
theorem modOf_isSome (op reg : Int) (h : modOf op reg = true) : (isaOf op reg).isSome = true := by
  unfold modOf at h
  cases he : isaOf op reg with
  | none => rw [he] at h; cases h
  | some r => rfl
theorem rowV_none : rowV none = .tuple #[.agg #[.int .i64 0, .int .i64 0, .int .i64 0, .bool false], .bool false] := rfl
theorem rowV_some (n a b : Int) (m : Bool) : rowV (some ⟨n, a, b, m⟩) = .tuple #[.agg #[.int .i64 n, .int .i64 a, .int .i64 b, .bool m], .bool true] := rfl
def twoTo (op : Int) : Nat → Bool
  | 0 => false
  | n + 1 => twoTo op n || modOf op n
def twoOf (op : Int) : Bool := twoTo op 8
theorem twoTo_true (op : Int) (n k : Nat) (hk : k < n) (h : modOf op k = true) : twoTo op n = true := by
  induction n with
  | zero => omega
  | succ n ih =>
    rw [twoTo]
    by_cases e : k = n
    · subst e; rw [h, Bool.or_true]
    · rw [ih (by omega), Bool.true_or]

set_option maxRecDepth 100000 in
set_option maxHeartbeats 1600000 in
theorem two_any (op : Int) (w : World) (h0 : 0 ≤ op) (h1 : op ≤ 255) : Calls Tryz.prog 148 #[.int .u8 op] w fun e w' => e = .returned (.bool (twoOf op)) ∧ Below w.heap.size w w' := by
  go_enter Tryz.func148, Tryz.ntmps148
  go_wp2_with fail
  go_loopw [6] (fun i wr => ∃ k : Nat, k ≤ 8 ∧ i = .int .i64 k ∧ twoTo op k = false ∧ Below w.heap.size w wr) (fun i _ => 8 - (intOf i).toNat)
  case atStart => exact ⟨0, by omega, rfl, rfl, Below.refl _ _⟩
  case round =>
    obtain ⟨k, hk, rfl, hno, hb⟩ := hrel
    have HB := Lib.hid hb
    have HN := Lib.hid hno
    clear hb hno
    by_cases hlt : k < 8
    · have hi : ((k : Nat) : Int) < 8 := by omega
      go_wp2_with fail
      refine (isaOf_any op _ _ h0 h1 (by omega) (by omega)).mono ?_
      cases hq : isaOf op (k : Int) with
      | none =>
        have HM := Lib.hid (show twoTo op (k + 1) = false by rw [twoTo, HN.out, modOf, hq]; rfl)
        rw [rowV_none]
        clear hq
        rintro e w1 ⟨rfl, hb1⟩; dsimp only
        have HB1 := Lib.hid (HB.out.trans (hb1.mono HB.out.size))
        clear hb1
        go_wp2_with fail
        exact ⟨⟨k + 1, by omega, by go_num, HM.out, HB1.out.alloc HB1.out.size _⟩, by simp [intOf]; omega⟩
      | some r =>
        obtain ⟨rn, ra, rb, rm⟩ := r
        rw [rowV_some]
        cases rm with
        | false =>
          have HM := Lib.hid (show twoTo op (k + 1) = false by rw [twoTo, HN.out, modOf, hq]; rfl)
          clear hq
          rintro e w1 ⟨rfl, hb1⟩; dsimp only
          have HB1 := Lib.hid (HB.out.trans (hb1.mono HB.out.size))
          clear hb1
          go_wp2_with fail
          exact ⟨⟨k + 1, by omega, by go_num, HM.out, HB1.out.alloc HB1.out.size _⟩, by simp [intOf]; omega⟩
        | true =>
          have HM := Lib.hid (show twoOf op = true from twoTo_true op 8 k hlt (by rw [modOf, hq]; rfl))
          clear hq
          rintro e w1 ⟨rfl, hb1⟩; dsimp only
          have HB1 := Lib.hid (HB.out.trans (hb1.mono HB.out.size))
          clear hb1
          go_wp2_with fail
          go_ret
          rw [HM.out]
          exact ⟨rfl, HB1.out.alloc HB1.out.size _⟩
    · go_wp2_with fail
      go_ret
      obtain rfl : k = 8 := by omega
      exact ⟨by rw [show twoOf op = twoTo op 8 from rfl, HN.out]; rfl, HB.out⟩

/-- What an instruction does, to what. -/
def instRow (op reg : Int) : Option IRow := if isPre op then none else isaOf op reg
set_option maxRecDepth 100000 in
set_option maxHeartbeats 1600000 in
theorem instRow_any (i : Inst) (w : World) (h0 : 0 ≤ i.op) (h1 : i.op ≤ 255) (r0 : 0 ≤ i.reg) (r1 : i.reg ≤ 7) : Calls Tryz.prog 61 #[i.val] w fun e w' => e = .returned (rowV (instRow i.op i.reg)) ∧ Below w.heap.size w w' := by
  obtain ⟨lock, rep, seg, op, mod, reg, rm, disp, imm, sel⟩ := i
  dsimp only at h0 h1 r0 r1
  have hb0 := ((Below.refl w.heap.size w).alloc (Nat.le_refl _) (.cells #[.bool lock, .int .i64 rep, .int .i64 seg, .int .u8 op, .int .i64 mod, .int .i64 reg, .int .i64 rm, .int .u16 disp, .int .u16 imm, .int .u16 sel] 30)).alloc (by simp) (.cells #[.int .i64 0, .int .i64 0, .int .i64 0, .bool false] 47)
  have hr0 := Row.new' (w := w.alloc (.cells #[.bool lock, .int .i64 rep, .int .i64 seg, .int .u8 op, .int .i64 mod, .int .i64 reg, .int .i64 rm, .int .u16 disp, .int .u16 imm, .int .u16 sel] 30)) (n := w.heap.size + 1) (cs := #[.int .i64 0, .int .i64 0, .int .i64 0, .bool false]) (t := 47) (by simp)
  have HB0 := Lib.hid hb0
  have HR0 := Lib.hid hr0
  clear hb0 hr0
  cases hp : isPre op with
  | true =>
    have HE := Lib.hid (show instRow op reg = none by rw [instRow, hp]; rfl)
    have HP := Lib.hid hp
    clear hp
    go_enter Tryz.func61, Tryz.ntmps61
    go_wp2_with (go_at_call 102; refine (isPre_any _ _).mono ?_; rw [HP.out]; rintro e w' ⟨rfl, rfl⟩)
    rw [HE.out, rowV_none]
    refine bodyPost_ret (v := .tuple #[.agg #[.int .i64 0, .int .i64 0, .int .i64 0, .bool false], .bool false]) (by simp [results, Tryz.results61, go_sem]) rfl ⟨rfl, ?_⟩
    (repeat (first | exact Below.refl _ _ | assumption | refine Below.setCell ?_ (by simp) _ | refine Below.alloc ?_ (by simp <;> omega) _ | refine Below.drew ?_ | refine Below.drewN ?_ | refine Below.setRow ?_ (by simp <;> omega) _))
  | false =>
    obtain ⟨rr, hrr⟩ : ∃ rr, isaOf op reg = rr := ⟨_, rfl⟩
    have HE := Lib.hid (show instRow op reg = rr by rw [instRow, hp, ← hrr]; rfl)
    have HRR := Lib.hid hrr
    have HP := Lib.hid hp
    clear hp hrr
    go_enter Tryz.func61, Tryz.ntmps61
    go_wp2_with (go_at_call 102; refine (isPre_any _ _).mono ?_; rw [HP.out]; rintro e w' ⟨rfl, rfl⟩)
    refine (isaOf_any op reg _ h0 h1 r0 r1).mono ?_
    rw [HRR.out]
    rintro e w1 ⟨rfl, hb1⟩; dsimp only
    have hr := Below.row hb1 HR0.out HR0.out.lt
    have HB1 := Lib.hid (HB0.out.trans (hb1.mono HB0.out.size))
    have rc := hr.cell
    have rf := hr.frozen
    have rl := hr.lt
    clear hb1 hr
    go_wp2_with fail
    rw [HE.out]
    refine bodyPost_ret (v := rowV rr) (by simp [results, Tryz.results61, go_sem, *]) rfl ⟨rfl, ?_⟩
    exact (((HB1.out.setCell (p := ⟨w.heap.size + 1, _, none⟩) (Nat.le_succ _) _).setCell (p := ⟨w.heap.size + 1, _, none⟩) (Nat.le_succ _) _).setCell (p := ⟨w.heap.size + 1, _, none⟩) (Nat.le_succ _) _).setCell (p := ⟨w.heap.size + 1, _, none⟩) (Nat.le_succ _) _

def immsOf (r : IRow) : Int := immOf r.a + immOf r.b
theorem immOf_lo (k : Int) : 0 ≤ immOf k := by unfold immOf; split; omega; split; omega; split <;> omega
theorem immOf_hi (k : Int) : immOf k ≤ 4 := by unfold immOf; split; omega; split; omega; split <;> omega
set_option maxHeartbeats 400000 in
theorem imms_any (r : IRow) (w : World) : Calls Tryz.prog 62 #[r.val] w fun e w' => e = .returned (.int .i64 (immsOf r)) ∧ Below w.heap.size w w' := by
  have a0 := immOf_lo r.a
  have a1 := immOf_hi r.a
  have b0 := immOf_lo r.b
  have b1 := immOf_hi r.b
  have hs : IntKind.i64.wrap (immOf r.a + immOf r.b) = immOf r.a + immOf r.b := IntWalk.i64_in _ (by omega)
  go_enter Tryz.func62, Tryz.ntmps62
  go_wp2_with fail
  go_quiet ((go_at_call 104; exact quietS (imm_any _ _)))
  go_wp2_with fail
  go_ret
  exact ⟨rfl, by (repeat (first | exact Below.refl _ _ | assumption | refine Below.setCell ?_ (by simp) _ | refine Below.alloc ?_ (by simp <;> omega) _ | refine Below.drew ?_ | refine Below.drewN ?_ | refine Below.setRow ?_ (by simp <;> omega) _))⟩
end Go.Proofs.YtcglkefaopgjeaaGreatDoor

/- Package inst, continued: second, behind, prefixes, May. -/
namespace Go.Proofs.YtcglkefaopgjeaaGreatDoor
set_option linter.unusedSimpArgs false
set_option linter.unusedVariables false
open Go.RowKit

structure Inst.wf (i : Inst) : Prop where
  op : 0 ≤ i.op ∧ i.op ≤ 255
  mod : 0 ≤ i.mod ∧ i.mod ≤ 3
  reg : 0 ≤ i.reg ∧ i.reg ≤ 7
  rm : 0 ≤ i.rm ∧ i.rm ≤ 7
  disp : 0 ≤ i.disp ∧ i.disp ≤ 65535
  imm : 0 ≤ i.imm ∧ i.imm ≤ 65535
  sel : 0 ≤ i.sel ∧ i.sel ≤ 65535

def secondB (i : Inst) (r : IRow) : Bool :=
  if r.mod = false then i.mod == 0 && i.reg == 0 && i.rm == 0 && i.disp == 0
  else if (i.mod == 3 && (r.a == 19 || r.b == 19 || r.b == 20)) then false
  else if dispsOf i.mod i.rm = 0 then i.disp == 0 else if dispsOf i.mod i.rm = 1 then fitsB i.disp else true

set_option maxRecDepth 100000 in
set_option maxHeartbeats 6400000 in
theorem second_any (i : Inst) (r : IRow) (w : World) (hi : i.wf) : Calls Tryz.prog 196 #[i.val, r.val] w fun e w' => e = .returned (.bool (secondB i r)) ∧ Below w.heap.size w w' := by
  obtain ⟨lock, rep, seg, op, mod, reg, rm, disp, imm, sel⟩ := i
  obtain ⟨rn, ra, rb, rmod⟩ := r
  have hd := hi.disp
  have hm := hi.mod
  have hg := hi.reg
  have hr := hi.rm
  dsimp only at hd hm hg hr
  have d1 : decide (mod < 0) = false := decide_eq_false (by omega)
  have d2 : decide (3 < mod) = false := decide_eq_false (by omega)
  have d3 : decide (reg < 0) = false := decide_eq_false (by omega)
  have d4 : decide (7 < reg) = false := decide_eq_false (by omega)
  have d5 : decide (rm < 0) = false := decide_eq_false (by omega)
  have d6 : decide (7 < rm) = false := decide_eq_false (by omega)
  clear hi hm hg hr
  cases rmod with
  | false =>
    have HE := Lib.hid (show secondB ⟨lock, rep, seg, op, mod, reg, rm, disp, imm, sel⟩ ⟨rn, ra, rb, false⟩ = (mod == 0 && reg == 0 && rm == 0 && disp == 0) from rfl)
    obtain ⟨b1, h1⟩ : ∃ b, (mod == 0) = b := ⟨_, rfl⟩
    obtain ⟨b2, h2⟩ : ∃ b, (reg == 0) = b := ⟨_, rfl⟩
    obtain ⟨b3, h3⟩ : ∃ b, (rm == 0) = b := ⟨_, rfl⟩
    obtain ⟨b4, h4⟩ : ∃ b, (disp == 0) = b := ⟨_, rfl⟩
    have HB := Lib.hid (show secondB ⟨lock, rep, seg, op, mod, reg, rm, disp, imm, sel⟩ ⟨rn, ra, rb, false⟩ = (b1 && b2 && b3 && b4) by rw [HE.out, h1, h2, h3, h4])
    clear HE
    cases b1 <;> cases b2 <;> cases b3
    all_goals
      go_enter Tryz.func196, Tryz.ntmps196
      go_wp2
      go_ret
      exact ⟨by rw [HB.out]; rfl, by (repeat (first | exact Below.refl _ _ | assumption | refine Below.setCell ?_ (by simp) _ | refine Below.alloc ?_ (by simp <;> omega) _ | refine Below.drew ?_ | refine Below.drewN ?_ | refine Below.setRow ?_ (by simp <;> omega) _))⟩
  | true =>
    obtain ⟨b1, h1⟩ : ∃ b, (mod == 3) = b := ⟨_, rfl⟩
    obtain ⟨b2, h2⟩ : ∃ b, (ra == 19) = b := ⟨_, rfl⟩
    obtain ⟨b3, h3⟩ : ∃ b, (rb == 19) = b := ⟨_, rfl⟩
    obtain ⟨b4, h4⟩ : ∃ b, (rb == 20) = b := ⟨_, rfl⟩
    have HB := Lib.hid (show secondB ⟨lock, rep, seg, op, mod, reg, rm, disp, imm, sel⟩ ⟨rn, ra, rb, true⟩ = if (b1 && (b2 || b3 || b4)) then false else if dispsOf mod rm = 0 then disp == 0 else if dispsOf mod rm = 1 then fitsB disp else true by rw [← h1, ← h2, ← h3, ← h4]; rfl)
    obtain ⟨dd, hdd⟩ : ∃ dd, dispsOf mod rm = dd := ⟨_, rfl⟩
    rw [hdd] at HB
    have HD := Lib.hid hdd
    have hd3 : dd = 0 ∨ dd = 1 ∨ dd = 2 := by rw [← hdd]; unfold dispsOf; split; simp; split <;> simp
    clear hdd
    cases b1
    · rcases hd3 with rfl | rfl | rfl
      all_goals
        go_enter Tryz.func196, Tryz.ntmps196
        go_wp2_with (first | (go_at_call 194; refine (disps_any _ _ _).mono ?_; rw [HD.out]; rintro e w' ⟨rfl, rfl⟩) | (go_at_call 213; refine (fits_any _ _ hd.1 hd.2).mono ?_; rintro e w' ⟨rfl, rfl⟩))
        go_ret
        exact ⟨by rw [HB.out]; rfl, by (repeat (first | exact Below.refl _ _ | assumption | refine Below.setCell ?_ (by simp) _ | refine Below.alloc ?_ (by simp <;> omega) _ | refine Below.drew ?_ | refine Below.drewN ?_ | refine Below.setRow ?_ (by simp <;> omega) _))⟩
    · cases b2 <;> cases b3 <;> cases b4
      · rcases hd3 with rfl | rfl | rfl
        all_goals
          go_enter Tryz.func196, Tryz.ntmps196
          go_wp2_with (first | (go_at_call 194; refine (disps_any _ _ _).mono ?_; rw [HD.out]; rintro e w' ⟨rfl, rfl⟩) | (go_at_call 213; refine (fits_any _ _ hd.1 hd.2).mono ?_; rintro e w' ⟨rfl, rfl⟩))
          go_ret
          exact ⟨by rw [HB.out]; rfl, by (repeat (first | exact Below.refl _ _ | assumption | refine Below.setCell ?_ (by simp) _ | refine Below.alloc ?_ (by simp <;> omega) _ | refine Below.drew ?_ | refine Below.drewN ?_ | refine Below.setRow ?_ (by simp <;> omega) _))⟩
      all_goals
        go_enter Tryz.func196, Tryz.ntmps196
        go_wp2
        go_ret
        exact ⟨by rw [HB.out]; rfl, by (repeat (first | exact Below.refl _ _ | assumption | refine Below.setCell ?_ (by simp) _ | refine Below.alloc ?_ (by simp <;> omega) _ | refine Below.drew ?_ | refine Below.drewN ?_ | refine Below.setRow ?_ (by simp <;> omega) _))⟩

def prefixesB (i : Inst) (r : IRow) : Bool :=
  (i.rep == 0 || (i.rep == 1 && decide (2 ≤ repsOf r.name)) || (i.rep == 2 && decide (1 ≤ repsOf r.name))) && decide (0 ≤ i.seg) && decide (i.seg ≤ 4)

set_option maxRecDepth 100000 in
set_option maxHeartbeats 6400000 in
theorem prefixes_any (i : Inst) (r : IRow) (w : World) : Calls Tryz.prog 198 #[i.val, r.val] w fun e w' => e = .returned (.bool (prefixesB i r)) ∧ Below w.heap.size w w' := by
  obtain ⟨lock, rep, seg, op, mod, reg, rm, disp, imm, sel⟩ := i
  obtain ⟨rn, ra, rb, rmod⟩ := r
  obtain ⟨n, hn⟩ : ∃ n, repsOf rn = n := ⟨_, rfl⟩
  have hn3 : n = 0 ∨ n = 1 ∨ n = 2 := by rw [← hn]; unfold repsOf; split; simp; split <;> simp
  have HN := Lib.hid hn
  have hr : rep = 0 ∨ rep = 1 ∨ rep = 2 ∨ ((rep == 0) = false ∧ (rep == 1) = false ∧ (rep == 2) = false) := by simp only [beq_eq_false_iff_ne]; omega
  obtain ⟨s1, hs1⟩ : ∃ b, decide (0 ≤ seg) = b := ⟨_, rfl⟩
  obtain ⟨s2, hs2⟩ : ∃ b, decide (seg ≤ 4) = b := ⟨_, rfl⟩
  have HB := Lib.hid (show prefixesB ⟨lock, rep, seg, op, mod, reg, rm, disp, imm, sel⟩ ⟨rn, ra, rb, rmod⟩ = ((rep == 0 || (rep == 1 && decide (2 ≤ n)) || (rep == 2 && decide (1 ≤ n))) && s1 && s2) by rw [prefixesB, hn, hs1, hs2])
  clear hn
  rcases hr with rfl | rfl | rfl | ⟨t0, t1, t2⟩ <;> rcases hn3 with rfl | rfl | rfl <;> cases s1
  all_goals
    go_enter Tryz.func198, Tryz.ntmps198
    go_wp2_with (go_at_call 71; refine (reps_any _ _).mono ?_; rw [HN.out]; rintro e w' ⟨rfl, rfl⟩)
    go_ret
    exact ⟨by rw [HB.out]; first | rfl | (simp only [*]; rfl), by (repeat (first | exact Below.refl _ _ | assumption | refine Below.setCell ?_ (by simp) _ | refine Below.alloc ?_ (by simp <;> omega) _ | refine Below.drew ?_ | refine Below.drewN ?_ | refine Below.setRow ?_ (by simp <;> omega) _))⟩
end Go.Proofs.YtcglkefaopgjeaaGreatDoor

/- Package inst, continued: behind, May. -/
namespace Go.Proofs.YtcglkefaopgjeaaGreatDoor
set_option linter.unusedSimpArgs false
set_option linter.unusedVariables false
open Go.RowKit

def tailB (imm sel name k : Int) : Option Bool :=
  if k = 6 then some (decide (imm < 256) && sel == 0 && ((name != 70 && name != 71) || imm == 10)) else if k = 8 ∨ k = 9 then some (fitsB imm && sel == 0) else
  if k = 7 ∨ k = 10 ∨ k = 12 ∨ k = 13 then some (sel == 0) else if k = 11 then some true else none
def behindB (i : Inst) (r : IRow) : Bool := ((tailB i.imm i.sel r.name r.a).getD ((tailB i.imm i.sel r.name r.b).getD (i.imm == 0 && i.sel == 0)))

set_option maxRecDepth 100000 in
set_option maxHeartbeats 6400000 in
theorem behind_any (i : Inst) (r : IRow) (w : World) (hi : i.wf) : Calls Tryz.prog 197 #[i.val, r.val] w fun e w' => e = .returned (.bool (behindB i r)) ∧ Below w.heap.size w w' := by
  obtain ⟨lock, rep, seg, op, mod, reg, rm, disp, imm, sel⟩ := i
  obtain ⟨rn, ra, rb, rmod⟩ := r
  have hm := hi.imm
  dsimp only at hm
  clear hi
  have HB := Lib.hid (show behindB ⟨lock, rep, seg, op, mod, reg, rm, disp, imm, sel⟩ ⟨rn, ra, rb, rmod⟩ = ((tailB imm sel rn ra).getD ((tailB imm sel rn rb).getD (imm == 0 && sel == 0))) from rfl)
  have hb0 := ((Below.refl w.heap.size w).alloc (Nat.le_refl _) (.cells #[.bool lock, .int .i64 rep, .int .i64 seg, .int .u8 op, .int .i64 mod, .int .i64 reg, .int .i64 rm, .int .u16 disp, .int .u16 imm, .int .u16 sel] 30)).alloc (by simp) (.cells #[.int .i64 rn, .int .i64 ra, .int .i64 rb, .bool rmod] 47)
  have hx := (Row.new w #[.bool lock, .int .i64 rep, .int .i64 seg, .int .u8 op, .int .i64 mod, .int .i64 reg, .int .i64 rm, .int .u16 disp, .int .u16 imm, .int .u16 sel] 30).alloc (.cells #[.int .i64 rn, .int .i64 ra, .int .i64 rb, .bool rmod] 47)
  have hy := Row.new' (w := w.alloc (.cells #[.bool lock, .int .i64 rep, .int .i64 seg, .int .u8 op, .int .i64 mod, .int .i64 reg, .int .i64 rm, .int .u16 disp, .int .u16 imm, .int .u16 sel] 30)) (n := w.heap.size + 1) (cs := #[.int .i64 rn, .int .i64 ra, .int .i64 rb, .bool rmod]) (t := 47) (by simp)
  have HB0 := Lib.hid hb0
  have HX := Lib.hid hx
  have HY := Lib.hid hy
  clear hb0 hx hy
  obtain ⟨b1, g1⟩ : ∃ b, decide (imm < 256) = b := ⟨_, rfl⟩
  obtain ⟨b2, g2⟩ : ∃ b, (sel == 0) = b := ⟨_, rfl⟩
  obtain ⟨b3, g3⟩ : ∃ b, (rn != 70) = b := ⟨_, rfl⟩
  obtain ⟨b4, g4⟩ : ∃ b, (rn != 71) = b := ⟨_, rfl⟩
  obtain ⟨b5, g5⟩ : ∃ b, (imm == 10) = b := ⟨_, rfl⟩
  obtain ⟨b6, g6⟩ : ∃ b, (imm == 0) = b := ⟨_, rfl⟩
  obtain ⟨b7, hf⟩ : ∃ b, fitsB imm = b := ⟨_, rfl⟩
  have i0 : ∀ w, (Instr.index 68 (.agg #[.int .i64 ra, .int .i64 rb]) (.int .i64 0)).run Tryz.prog w = .ok (.int .i64 ra) w := fun _ => by rfl
  have i1 : ∀ w, (Instr.index 68 (.agg #[.int .i64 ra, .int .i64 rb]) (.int .i64 1)).run Tryz.prog w = .ok (.int .i64 rb) w := fun _ => by rfl
  have T : ∀ k, tailB imm sel rn k = if k = 6 then some (b1 && b2 && ((b3 && b4) || b5)) else if k = 8 ∨ k = 9 then some (b7 && b2) else if k = 7 ∨ k = 10 ∨ k = 12 ∨ k = 13 then some b2 else if k = 11 then some true else none := by
    intro k; rw [tailB, g1, g2, g3, g4, g5, hf]
  have HB := Lib.hid (show behindB ⟨lock, rep, seg, op, mod, reg, rm, disp, imm, sel⟩ ⟨rn, ra, rb, rmod⟩ = ((tailB imm sel rn ra).getD ((tailB imm sel rn rb).getD (b6 && b2))) by rw [HB.out, g6, g2])
  have HT := Lib.hid T
  have HF := Lib.hid hf
  clear T hf
  have cls : ∀ k : Int, (k = 6 ∨ k = 8 ∨ k = 9 ∨ k = 7 ∨ k = 10 ∨ k = 12 ∨ k = 13 ∨ k = 11) ∨ (tailB imm sel rn k = none ∧ (k == 6) = false ∧ (k == 8) = false ∧ (k == 9) = false ∧ (k == 7) = false ∧ (k == 10) = false ∧ (k == 12) = false ∧ (k == 13) = false ∧ (k == 11) = false) := by
    intro k
    by_cases h : (k = 6 ∨ k = 8 ∨ k = 9 ∨ k = 7 ∨ k = 10 ∨ k = 12 ∨ k = 13 ∨ k = 11)
    · exact Or.inl h
    · refine Or.inr ⟨?_, ?_⟩
      · rw [HT.out, if_neg (by omega), if_neg (by omega), if_neg (by omega), if_neg (by omega)]
      · simp only [beq_eq_false_iff_ne]; omega
  have ha := cls ra
  have hb := cls rb
  have HCB := Lib.hid hb
  clear cls hb
  go_enter Tryz.func197, Tryz.ntmps197
  go_wp2_with fail
  generalize (w.alloc (.cells #[.bool lock, .int .i64 rep, .int .i64 seg, .int .u8 op, .int .i64 mod, .int .i64 reg, .int .i64 rm, .int .u16 disp, .int .u16 imm, .int .u16 sel] 30)).alloc (.cells #[.int .i64 rn, .int .i64 ra, .int .i64 rb, .bool rmod] 47) = W0 at *
  have xc := HX.out.cell
  have yc := HY.out.cell
  clear HX HY
  go_loop [12] (fun i => i = .int .i64 0 ∨ (i = .int .i64 1 ∧ tailB imm sel rn ra = none) ∨ (i = .int .i64 2 ∧ tailB imm sel rn ra = none ∧ tailB imm sel rn rb = none)) (fun i => 2 - (intOf i).toNat)
  case atStart => exact Or.inl rfl
  case round =>
    rcases hrel with rfl | ⟨rfl, hn⟩ | ⟨rfl, hn, hn2⟩
    · rcases ha with ha | ⟨hn, t1, t2, t3, t4, t5, t6, t7, t8⟩
      · rcases ha with rfl | rfl | rfl | rfl | rfl | rfl | rfl | rfl
        · cases b1 <;> cases b2 <;> cases b3 <;> cases b4
          all_goals
            go_wp2_with (go_at_call 213; refine (fits_any _ _ hm.1 hm.2).mono ?_; rw [HF.out]; rintro e w' ⟨rfl, rfl⟩)
            go_ret
            rw [HB.out, HT.out]
            exact ⟨by first | rfl | simp, HB0.out⟩
        · cases b7
          all_goals
            go_wp2_with (go_at_call 213; refine (fits_any _ _ hm.1 hm.2).mono ?_; rw [HF.out]; rintro e w' ⟨rfl, rfl⟩)
            go_ret
            rw [HB.out, HT.out]
            exact ⟨by first | rfl | simp, HB0.out⟩
        · cases b7
          all_goals
            go_wp2_with (go_at_call 213; refine (fits_any _ _ hm.1 hm.2).mono ?_; rw [HF.out]; rintro e w' ⟨rfl, rfl⟩)
            go_ret
            rw [HB.out, HT.out]
            exact ⟨by first | rfl | simp, HB0.out⟩
        · go_wp2_with (go_at_call 213; refine (fits_any _ _ hm.1 hm.2).mono ?_; rw [HF.out]; rintro e w' ⟨rfl, rfl⟩)
          go_ret
          rw [HB.out, HT.out]
          exact ⟨by first | rfl | simp, HB0.out⟩
        · go_wp2_with (go_at_call 213; refine (fits_any _ _ hm.1 hm.2).mono ?_; rw [HF.out]; rintro e w' ⟨rfl, rfl⟩)
          go_ret
          rw [HB.out, HT.out]
          exact ⟨by first | rfl | simp, HB0.out⟩
        · go_wp2_with (go_at_call 213; refine (fits_any _ _ hm.1 hm.2).mono ?_; rw [HF.out]; rintro e w' ⟨rfl, rfl⟩)
          go_ret
          rw [HB.out, HT.out]
          exact ⟨by first | rfl | simp, HB0.out⟩
        · go_wp2_with (go_at_call 213; refine (fits_any _ _ hm.1 hm.2).mono ?_; rw [HF.out]; rintro e w' ⟨rfl, rfl⟩)
          go_ret
          rw [HB.out, HT.out]
          exact ⟨by first | rfl | simp, HB0.out⟩
        · go_wp2_with (go_at_call 213; refine (fits_any _ _ hm.1 hm.2).mono ?_; rw [HF.out]; rintro e w' ⟨rfl, rfl⟩)
          go_ret
          rw [HB.out, HT.out]
          exact ⟨by first | rfl | simp, HB0.out⟩
      · have HN := Lib.hid hn
        clear hn
        go_wp2_with fail
        exact ⟨Or.inr (Or.inl ⟨rfl, HN.out⟩), by simp [intOf]⟩
    · have HN := Lib.hid hn
      clear hn ha
      rcases HCB.out with hb | ⟨hn, t1, t2, t3, t4, t5, t6, t7, t8⟩
      · rcases hb with rfl | rfl | rfl | rfl | rfl | rfl | rfl | rfl
        · cases b1 <;> cases b2 <;> cases b3 <;> cases b4
          all_goals
            go_wp2_with (go_at_call 213; refine (fits_any _ _ hm.1 hm.2).mono ?_; rw [HF.out]; rintro e w' ⟨rfl, rfl⟩)
            go_ret
            rw [HB.out, HN.out, HT.out]
            exact ⟨by first | rfl | simp, HB0.out⟩
        · cases b7
          all_goals
            go_wp2_with (go_at_call 213; refine (fits_any _ _ hm.1 hm.2).mono ?_; rw [HF.out]; rintro e w' ⟨rfl, rfl⟩)
            go_ret
            rw [HB.out, HN.out, HT.out]
            exact ⟨by first | rfl | simp, HB0.out⟩
        · cases b7
          all_goals
            go_wp2_with (go_at_call 213; refine (fits_any _ _ hm.1 hm.2).mono ?_; rw [HF.out]; rintro e w' ⟨rfl, rfl⟩)
            go_ret
            rw [HB.out, HN.out, HT.out]
            exact ⟨by first | rfl | simp, HB0.out⟩
        · go_wp2_with (go_at_call 213; refine (fits_any _ _ hm.1 hm.2).mono ?_; rw [HF.out]; rintro e w' ⟨rfl, rfl⟩)
          go_ret
          rw [HB.out, HN.out, HT.out]
          exact ⟨by first | rfl | simp, HB0.out⟩
        · go_wp2_with (go_at_call 213; refine (fits_any _ _ hm.1 hm.2).mono ?_; rw [HF.out]; rintro e w' ⟨rfl, rfl⟩)
          go_ret
          rw [HB.out, HN.out, HT.out]
          exact ⟨by first | rfl | simp, HB0.out⟩
        · go_wp2_with (go_at_call 213; refine (fits_any _ _ hm.1 hm.2).mono ?_; rw [HF.out]; rintro e w' ⟨rfl, rfl⟩)
          go_ret
          rw [HB.out, HN.out, HT.out]
          exact ⟨by first | rfl | simp, HB0.out⟩
        · go_wp2_with (go_at_call 213; refine (fits_any _ _ hm.1 hm.2).mono ?_; rw [HF.out]; rintro e w' ⟨rfl, rfl⟩)
          go_ret
          rw [HB.out, HN.out, HT.out]
          exact ⟨by first | rfl | simp, HB0.out⟩
        · go_wp2_with (go_at_call 213; refine (fits_any _ _ hm.1 hm.2).mono ?_; rw [HF.out]; rintro e w' ⟨rfl, rfl⟩)
          go_ret
          rw [HB.out, HN.out, HT.out]
          exact ⟨by first | rfl | simp, HB0.out⟩
      · have HN2 := Lib.hid hn
        clear hn
        go_wp2_with fail
        exact ⟨Or.inr (Or.inr ⟨rfl, HN.out, HN2.out⟩), by simp [intOf]⟩
    · have HN := Lib.hid hn
      have HN2 := Lib.hid hn2
      clear hn hn2 ha
      cases b6
      all_goals
        go_wp2_with fail
        go_ret
        rw [HB.out, HN.out, HN2.out]
        exact ⟨rfl, HB0.out⟩
end Go.Proofs.YtcglkefaopgjeaaGreatDoor

/- Package inst, continued: May. -/
namespace Go.Proofs.YtcglkefaopgjeaaGreatDoor
set_option linter.unusedSimpArgs false
set_option linter.unusedVariables false
open Go.RowKit

def mayB (i : Inst) : Bool := match instRow i.op i.reg with
  | none => false
  | some r => secondB i r && behindB i r && prefixesB i r
abbrev Inst.cells (i : Inst) : Array Value := #[.bool i.lock, .int .i64 i.rep, .int .i64 i.seg, .int .u8 i.op, .int .i64 i.mod, .int .i64 i.reg, .int .i64 i.rm, .int .u16 i.disp, .int .u16 i.imm, .int .u16 i.sel]

set_option maxRecDepth 100000 in
set_option maxHeartbeats 6400000 in
theorem may_any (i : Inst) (w : World) (hi : i.wf) : Calls Tryz.prog 151 #[i.val] w fun e w' => e = .returned (.bool (mayB i)) ∧ Below w.heap.size w w' := by
  have hx := Row.new w i.cells 30
  have HX := Lib.hid hx
  have HB0 := Lib.hid ((Below.refl w.heap.size w).alloc (Nat.le_refl _) (.cells i.cells 30))
  have xc := hx.cell
  clear hx
  cases hr : instRow i.op i.reg with
  | none =>
    have HE := Lib.hid (show mayB i = false by rw [mayB, hr])
    have HR := Lib.hid hr
    clear hr xc
    go_enter Tryz.func151, Tryz.ntmps151
    go_wp2_with fail
    refine (instRow_any i _ hi.op.1 hi.op.2 hi.reg.1 hi.reg.2).mono ?_
    rw [HR.out, rowV_none]
    rintro e w1 ⟨rfl, hb⟩; dsimp only
    have HB1 := Lib.hid (HB0.out.trans (hb.mono HB0.out.size))
    clear hb
    go_wp2_with fail
    go_ret
    rw [HE.out]
    exact ⟨rfl, HB1.out.alloc HB1.out.size _⟩
  | some r =>
    obtain ⟨rn, ra, rb, rm⟩ := r
    obtain ⟨b1, h1⟩ : ∃ b, secondB i ⟨rn, ra, rb, rm⟩ = b := ⟨_, rfl⟩
    obtain ⟨b2, h2⟩ : ∃ b, behindB i ⟨rn, ra, rb, rm⟩ = b := ⟨_, rfl⟩
    have HE := Lib.hid (show mayB i = (b1 && b2 && prefixesB i ⟨rn, ra, rb, rm⟩) by rw [mayB, hr]; dsimp only; rw [h1, h2])
    have HR := Lib.hid hr
    have H1 := Lib.hid h1
    have H2 := Lib.hid h2
    clear hr xc h1 h2
    go_enter Tryz.func151, Tryz.ntmps151
    go_wp2_with fail
    refine (instRow_any i _ hi.op.1 hi.op.2 hi.reg.1 hi.reg.2).mono ?_
    rw [HR.out, rowV_some]
    rintro e w1 ⟨rfl, hb⟩; dsimp only
    have HB1 := Lib.hid ((HB0.out.trans (hb.mono HB0.out.size)).alloc (HB0.out.trans (hb.mono HB0.out.size)).size (.cells #[.int .i64 rn, .int .i64 ra, .int .i64 rb, .bool rm] 47))
    have hx1 := (Below.row hb HX.out HX.out.lt).alloc (.cells #[.int .i64 rn, .int .i64 ra, .int .i64 rb, .bool rm] 47)
    have hy1 := Row.new w1 #[.int .i64 rn, .int .i64 ra, .int .i64 rb, .bool rm] 47
    have HX1 := Lib.hid hx1
    have HY1 := Lib.hid hy1
    have hl := (Below.row hb HX.out HX.out.lt).lt
    have xc := (Below.row hb HX.out HX.out.lt).cell
    clear hb hx1 hy1
    go_wp2_with fail
    refine (second_any i ⟨rn, ra, rb, rm⟩ _ hi).mono ?_
    rw [H1.out]
    rintro e w2 ⟨rfl, hb⟩; dsimp only
    have HB2 := Lib.hid (HB1.out.trans (hb.mono HB1.out.size))
    have HX2 := Lib.hid (Below.row hb HX1.out HX1.out.lt)
    have HY2 := Lib.hid (Below.row hb HY1.out HY1.out.lt)
    clear xc hb
    have xc := HX2.out.cell
    have yc := HY2.out.cell
    cases b1 with
    | false =>
      go_wp2_with fail
      go_ret
      rw [HE.out]
      exact ⟨rfl, HB2.out⟩
    | true =>
      go_wp2_with fail
      refine (behind_any i ⟨rn, ra, rb, rm⟩ _ hi).mono ?_
      rw [H2.out]
      rintro e w3 ⟨rfl, hb⟩; dsimp only
      have HB3 := Lib.hid (HB2.out.trans (hb.mono HB2.out.size))
      have HX3 := Lib.hid (Below.row hb HX2.out HX2.out.lt)
      have HY3 := Lib.hid (Below.row hb HY2.out HY2.out.lt)
      clear xc yc hb
      have xc := HX3.out.cell
      have yc := HY3.out.cell
      cases b2 with
      | false =>
        go_wp2_with fail
        go_ret
        rw [HE.out]
        exact ⟨rfl, HB3.out⟩
      | true =>
        go_wp2_with fail
        refine (prefixes_any i ⟨rn, ra, rb, rm⟩ _).mono ?_
        rintro e w4 ⟨rfl, hb⟩; dsimp only
        have HB4 := Lib.hid (HB3.out.trans (hb.mono HB3.out.size))
        clear xc yc hb
        go_wp2_with fail
        go_ret
        rw [HE.out]
        exact ⟨rfl, HB4.out⟩
end Go.Proofs.YtcglkefaopgjeaaGreatDoor

/- Package scan: the source of bytes: next, word. -/
namespace Go.Proofs.YtcglkefaopgjeaaGreatDoor
set_option linter.unusedSimpArgs false
set_option linter.unusedVariables false
open Go.RowKit

/-- A source of twelve bytes, so many of which are taken. -/
structure Src (w : World) (g b : Nat) (bs : Nat → Int) (n : Nat) : Prop where
  row : Row w g #[.slice (some ⟨b, 0, none⟩) 12 12, .int .i64 n] 152
  by_ : ∀ k, k < 12 → w.cell? ⟨b, k, none⟩ = some (.int .u8 (bs k))
  ne : g ≠ b
  lt : b < w.heap.size
  wf : ∀ k, 0 ≤ bs k ∧ bs k ≤ 255
abbrev one (g : Nat) : Nat → Prop := fun k => k = g
theorem Src.fr {w w' : World} {g b : Nat} {bs : Nat → Int} {n : Nat} (h : Src w g b bs n) {own : Nat → Prop} (hf : Fr own w w') (h1 : ¬ own g) (h2 : ¬ own b) : Src w' g b bs n :=
  ⟨hf.row h.row h1, fun k hk => (World.cell?_of_block (a := ⟨b, k, none⟩) (hf.block b h.lt h2)).trans (h.by_ k hk), h.ne, Nat.lt_of_lt_of_le h.lt hf.size, h.wf⟩
theorem Src.below {w w' : World} {g b : Nat} {bs : Nat → Int} {n : Nat} (h : Src w g b bs n) (hb : Below w.heap.size w w') : Src w' g b bs n := h.fr (own := fun _ => False) (Fr.of_below hb) id id
theorem Src.drewN {w : World} {g b : Nat} {bs : Nat → Int} {n m : Nat} (h : Src w g b bs n) : Src (w.drewN m) g b bs n := h.below (Below.drewN (Below.refl _ _))
theorem Src.drew {w : World} {g b : Nat} {bs : Nat → Int} {n : Nat} (h : Src w g b bs n) : Src w.drew g b bs n := h.below (Below.refl _ _).drew
theorem Src.step {w : World} {g b : Nat} {bs : Nat → Int} {n : Nat} (h : Src w g b bs n) (m : Nat) : Src (w.setCell ⟨g, 1, none⟩ (.int .i64 m)) g b bs m :=
  ⟨h.row.setCell 1 _, fun k hk => (World.cell?_of_block (a := ⟨b, k, none⟩) (Below.heap_setCell _ _ _ _ (Ne.symm h.ne))).trans (h.by_ k hk), h.ne, by simpa using h.lt, h.wf⟩

def SrcPost (w : World) (g b : Nat) (bs : Nat → Int) (n : Nat) (w' : World) : Prop := Src w' g b bs n ∧ Fr (one g) w w'

set_option maxRecDepth 100000 in
set_option maxHeartbeats 1600000 in
theorem next_byte (w : World) (g b : Nat) (bs : Nat → Int) (n : Nat) (h : Src w g b bs n) (hn : n < 12) :
    Calls Tryz.prog 193 #[.pointer (some ⟨g, 0, none⟩)] w fun e w' => e = .returned (.int .u8 (bs n)) ∧ SrcPost w g b bs (n + 1) w' := by
  have c0 : w.cell? ⟨g, 0, none⟩ = some (.slice (some ⟨b, 0, none⟩) 12 12) := h.row.cell 0
  have c1 : w.cell? ⟨g, 1, none⟩ = some (.int .i64 n) := h.row.cell 1
  have cb := h.by_ n hn
  have f1 := h.row.frozen 1
  have i0 : (0 : Int) ≤ (n : Int) := by omega
  have i1 : (n : Int) < 12 := by omega
  have i2 : ¬ (12 : Int) ≤ (n : Int) := by omega
  have H := Lib.hid h
  have HN := Lib.hid hn
  clear h hn
  go_enter Tryz.func193, Tryz.ntmps193
  go_wp2_with fail
  go_quiet (fail)
  go_wp2_with fail
  go_quiet (fail)
  go_wp2_with fail
  go_ret
  refine ⟨rfl, ?_, by (repeat (first | exact Fr.refl _ _ | assumption | refine Fr.alloc ?_ _ | refine Fr.drew ?_ | refine Fr.drewN ?_ | refine Fr.setCell ?_ (by first | exact Or.inl rfl | exact Or.inr rfl | rfl | assumption) _ | refine Fr.setRow ?_ (by first | exact Or.inl rfl | exact Or.inr rfl | rfl | assumption) _))⟩
  refine Src.step (n := n) ?_ (n + 1)
  repeat (first | exact H.out | refine Src.drewN ?_ | refine Src.drew ?_)

theorem SrcPost.trans {w w1 w2 : World} {g b : Nat} {bs : Nat → Int} {n m : Nat} (h : SrcPost w g b bs n w1) (k : SrcPost w1 g b bs m w2) : SrcPost w g b bs m w2 := ⟨k.1, h.2.trans k.2⟩

set_option maxRecDepth 100000 in
set_option maxHeartbeats 1600000 in
theorem next_word (w : World) (g b : Nat) (bs : Nat → Int) (n : Nat) (h : Src w g b bs n) (hn : n + 1 < 12) :
    Calls Tryz.prog 195 #[.pointer (some ⟨g, 0, none⟩)] w fun e w' => e = .returned (.int .u16 (bs n + 256 * bs (n + 1))) ∧ SrcPost w g b bs (n + 2) w' := by
  have H := Lib.hid h
  have wf0 := h.wf n
  have wf1 := h.wf (n + 1)
  clear h
  go_enter Tryz.func195, Tryz.ntmps195
  go_wp2_with fail
  refine (next_byte _ _ _ _ _ H.out (by omega)).mono ?_
  rintro e w1 ⟨rfl, h1⟩; dsimp only
  have H1 := Lib.hid h1
  clear h1
  go_wp2_with fail
  refine (next_byte _ _ _ _ _ H1.out.1 (by omega)).mono ?_
  rintro e w2 ⟨rfl, h2⟩; dsimp only
  have H2 := Lib.hid (H1.out.trans h2)
  clear h2
  go_wp2_with fail
  refine (bword_any _ _ _ wf0.1 wf0.2 wf1.1 wf1.2).mono ?_; rintro e w' ⟨rfl, rfl⟩; dsimp only
  go_wp2_with fail
  go_ret
  exact ⟨rfl, H2.out⟩
end Go.Proofs.YtcglkefaopgjeaaGreatDoor
