/- isa.Of. -/
import Derived.Test.YtcglkefaopgjeaaGreatDoorH1
import Derived.Test.YtcglkefaopgjeaaGreatDoorH2
namespace Go.Proofs.YtcglkefaopgjeaaGreatDoor
set_option linter.unusedSimpArgs false
set_option linter.unusedVariables false
open Go.RowKit



theorem i64_and7 (n : Int) : bits .and .i64 n 7 = n % 8 := by
  have h7 : (BitVec.ofInt 64 7).toNat = 2 ^ 3 - 1 := by decide
  have key : (BitVec.ofInt 64 n &&& BitVec.ofInt 64 7).toNat = (n % ((2 ^ 64 : Nat) : Int)).toNat % 2 ^ 3 := by
    rw [BitVec.toNat_and, BitVec.toNat_ofInt, h7, Nat.and_two_pow_sub_one_eq_mod]
  show IntKind.i64.wrap ((BitVec.ofInt 64 n &&& BitVec.ofInt 64 7).toNat : Nat) = n % 8
  rw [key, IntKind.wrap_i64]
  omega

set_option maxRecDepth 100000 in
set_option maxHeartbeats 8000000 in
theorem isaOf_any (op reg : Int) (w : World) (h0 : 0 ≤ op) (h1 : op ≤ 255) (r0 : 0 ≤ reg) (r1 : reg ≤ 7) : Calls Tryz.prog 103 #[.int .u8 op, .int .i64 reg] w fun e w' => e = .returned (rowV (isaOf op reg)) ∧ Below w.heap.size w w' := by
  have hreg : bits .and .i64 reg 7 = reg := by rw [i64_and7 reg]; omega
  have hc : (0 ≤ op ∧ op < 64) ∨ (64 ≤ op ∧ op < 96) ∨ (96 ≤ op ∧ op < 112) ∨ (112 ≤ op ∧ op < 128) ∨ (128 ≤ op ∧ op < 144) ∨ (144 ≤ op ∧ op < 160) ∨ (160 ≤ op ∧ op < 176) ∨ (176 ≤ op ∧ op < 184) ∨ (184 ≤ op ∧ op < 192) ∨ (192 ≤ op ∧ op < 208) ∨ (208 ≤ op ∧ op < 224) ∨ (224 ≤ op ∧ op < 240) ∨ (240 ≤ op ∧ op < 256) := by omega
  rcases hc with ⟨g0, g1⟩ | ⟨g0, g1⟩ | ⟨g0, g1⟩ | ⟨g0, g1⟩ | ⟨g0, g1⟩ | ⟨g0, g1⟩ | ⟨g0, g1⟩ | ⟨g0, g1⟩ | ⟨g0, g1⟩ | ⟨g0, g1⟩ | ⟨g0, g1⟩ | ⟨g0, g1⟩ | ⟨g0, g1⟩
  · have t0 : decide (op < 64) = true := decide_eq_true (by omega)
    have he : isaOf op reg = sumsOf op := by unfold isaOf; repeat (first | rw [if_neg (by omega)] | rw [if_pos (by omega)])
    rw [he]
    have HE := Lib.hid he
    clear he
    go_enter Tryz.func103, Tryz.ntmps103
    go_wp2_with (go_at_call 153; refine (sums_any op _ (by omega) (by omega)).mono ?_; rintro e w1 ⟨rfl, hb⟩; (first | (with_reducible have hx := hb_row2 hb) | (have hx := hb_row hb)); obtain ⟨hr, hb1⟩ := hx; have HB := Lib.hid hb1; have rc := hr.cell; have rf := hr.frozen; have rl := hr.lt; clear hb hb1 hr)
    refine bodyPost_ret (v := rowV _) (by simp [results, Tryz.results103, go_sem, zRow, *]) rfl ⟨rfl, ?_⟩
    exact (((HB.out.setCell (Nat.le_refl _) _).setCell (Nat.le_refl _) _).setCell (Nat.le_refl _) _).setCell (Nat.le_refl _) _
  · have hc : op = 64 ∨ op = 65 ∨ op = 66 ∨ op = 67 ∨ op = 68 ∨ op = 69 ∨ op = 70 ∨ op = 71 ∨ op = 72 ∨ op = 73 ∨ op = 74 ∨ op = 75 ∨ op = 76 ∨ op = 77 ∨ op = 78 ∨ op = 79 ∨ op = 80 ∨ op = 81 ∨ op = 82 ∨ op = 83 ∨ op = 84 ∨ op = 85 ∨ op = 86 ∨ op = 87 ∨ op = 88 ∨ op = 89 ∨ op = 90 ∨ op = 91 ∨ op = 92 ∨ op = 93 ∨ op = 94 ∨ op = 95 := by omega
    clear h0 h1 g0 g1 r0 r1
    rcases hc with rfl | rfl | rfl | rfl | rfl | rfl | rfl | rfl | rfl | rfl | rfl | rfl | rfl | rfl | rfl | rfl | rfl | rfl | rfl | rfl | rfl | rfl | rfl | rfl | rfl | rfl | rfl | rfl | rfl | rfl | rfl | rfl
    all_goals
      go_enter Tryz.func103, Tryz.ntmps103
      go_wp2_with (go_at_call 154; refine (isaRow_any _ _ _ _).mono ?_; rintro e w1 ⟨rfl, hb⟩; (first | (with_reducible have hx := hb_row2 hb) | (have hx := hb_row hb)); obtain ⟨hr, hb1⟩ := hx; have HB := Lib.hid hb1; have rc := hr.cell; have rf := hr.frozen; have rl := hr.lt; clear hb hb1 hr)
      refine bodyPost_ret (v := rowV _) (by simp [results, Tryz.results103, go_sem, isaOf, *]) rfl ⟨rfl, ?_⟩
      exact (((HB.out.setCell (Nat.le_refl _) _).setCell (Nat.le_refl _) _).setCell (Nat.le_refl _) _).setCell (Nat.le_refl _) _
  · have t0 : decide (op < 64) = false := decide_eq_false (by omega); have t1 : decide (op < 96) = false := decide_eq_false (by omega); have t2 : decide (op < 112) = true := decide_eq_true (by omega)
    have he : isaOf op reg = none := by unfold isaOf; repeat (first | rw [if_neg (by omega)] | rw [if_pos (by omega)])
    rw [he]
    have HE := Lib.hid he
    clear he
    go_enter Tryz.func103, Tryz.ntmps103
    go_wp2_with (go_at_call 155; refine (isaBad_any _).mono ?_; rintro e w1 ⟨rfl, hb⟩; (first | (with_reducible have hx := hb_row2 hb) | (have hx := hb_row hb)); obtain ⟨hr, hb1⟩ := hx; have HB := Lib.hid hb1; have rc := hr.cell; have rf := hr.frozen; have rl := hr.lt; clear hb hb1 hr)
    refine bodyPost_ret (v := rowV _) (by simp [results, Tryz.results103, go_sem, zRow, *]) rfl ⟨rfl, ?_⟩
    exact (((HB.out.setCell (Nat.le_refl _) _).setCell (Nat.le_refl _) _).setCell (Nat.le_refl _) _).setCell (Nat.le_refl _) _
  · have t0 : decide (op < 64) = false := decide_eq_false (by omega); have t1 : decide (op < 96) = false := decide_eq_false (by omega); have t2 : decide (op < 112) = false := decide_eq_false (by omega); have t3 : decide (op < 128) = true := decide_eq_true (by omega)
    have hw : IntKind.u8.wrap (op - 112) = op - 112 := by rw [IntKind.wrap_u8]; omega
    have he : isaOf op reg = rw0 (17 + (op - 112)) 9 0 := by unfold isaOf; repeat (first | rw [if_neg (by omega)] | rw [if_pos (by omega)])
    rw [he]
    have HE := Lib.hid he
    clear he
    go_enter Tryz.func103, Tryz.ntmps103
    go_wp2_with (go_at_call 154; refine (isaRow_any _ _ _ _).mono ?_; rintro e w1 ⟨rfl, hb⟩; (first | (with_reducible have hx := hb_row2 hb) | (have hx := hb_row hb)); obtain ⟨hr, hb1⟩ := hx; have HB := Lib.hid hb1; have rc := hr.cell; have rf := hr.frozen; have rl := hr.lt; clear hb hb1 hr)
    refine bodyPost_ret (v := rowV _) (by simp [results, Tryz.results103, go_sem, zRow, *]) rfl ⟨rfl, ?_⟩
    exact (((HB.out.setCell (Nat.le_refl _) _).setCell (Nat.le_refl _) _).setCell (Nat.le_refl _) _).setCell (Nat.le_refl _) _
  · have t0 : decide (op < 64) = false := decide_eq_false (by omega); have t1 : decide (op < 96) = false := decide_eq_false (by omega); have t2 : decide (op < 112) = false := decide_eq_false (by omega); have t3 : decide (op < 128) = false := decide_eq_false (by omega); have t4 : decide (op < 144) = true := decide_eq_true (by omega)
    have he : isaOf op reg = movesOf op reg := by unfold isaOf; repeat (first | rw [if_neg (by omega)] | rw [if_pos (by omega)])
    rw [he]
    have HE := Lib.hid he
    clear he
    go_enter Tryz.func103, Tryz.ntmps103
    go_wp2_with (go_at_call 156; refine (moves_any op reg _ (by omega) (by omega) r0 r1).mono ?_; rintro e w1 ⟨rfl, hb⟩; (first | (with_reducible have hx := hb_row2 hb) | (have hx := hb_row hb)); obtain ⟨hr, hb1⟩ := hx; have HB := Lib.hid hb1; have rc := hr.cell; have rf := hr.frozen; have rl := hr.lt; clear hb hb1 hr)
    refine bodyPost_ret (v := rowV _) (by simp [results, Tryz.results103, go_sem, zRow, *]) rfl ⟨rfl, ?_⟩
    exact (((HB.out.setCell (Nat.le_refl _) _).setCell (Nat.le_refl _) _).setCell (Nat.le_refl _) _).setCell (Nat.le_refl _) _
  · have t0 : decide (op < 64) = false := decide_eq_false (by omega); have t1 : decide (op < 96) = false := decide_eq_false (by omega); have t2 : decide (op < 112) = false := decide_eq_false (by omega); have t3 : decide (op < 128) = false := decide_eq_false (by omega); have t4 : decide (op < 144) = false := decide_eq_false (by omega); have t5 : decide (op < 160) = true := decide_eq_true (by omega)
    have he : isaOf op reg = wordsOf op := by unfold isaOf; repeat (first | rw [if_neg (by omega)] | rw [if_pos (by omega)])
    rw [he]
    have HE := Lib.hid he
    clear he
    go_enter Tryz.func103, Tryz.ntmps103
    go_wp2_with (go_at_call 157; refine (words_any op _ (by omega) (by omega)).mono ?_; rintro e w1 ⟨rfl, hb⟩; (first | (with_reducible have hx := hb_row2 hb) | (have hx := hb_row hb)); obtain ⟨hr, hb1⟩ := hx; have HB := Lib.hid hb1; have rc := hr.cell; have rf := hr.frozen; have rl := hr.lt; clear hb hb1 hr)
    refine bodyPost_ret (v := rowV _) (by simp [results, Tryz.results103, go_sem, zRow, *]) rfl ⟨rfl, ?_⟩
    exact (((HB.out.setCell (Nat.le_refl _) _).setCell (Nat.le_refl _) _).setCell (Nat.le_refl _) _).setCell (Nat.le_refl _) _
  · have t0 : decide (op < 64) = false := decide_eq_false (by omega); have t1 : decide (op < 96) = false := decide_eq_false (by omega); have t2 : decide (op < 112) = false := decide_eq_false (by omega); have t3 : decide (op < 128) = false := decide_eq_false (by omega); have t4 : decide (op < 144) = false := decide_eq_false (by omega); have t5 : decide (op < 160) = false := decide_eq_false (by omega); have t6 : decide (op < 176) = true := decide_eq_true (by omega)
    have he : isaOf op reg = textsOf op := by unfold isaOf; repeat (first | rw [if_neg (by omega)] | rw [if_pos (by omega)])
    rw [he]
    have HE := Lib.hid he
    clear he
    go_enter Tryz.func103, Tryz.ntmps103
    go_wp2_with (go_at_call 158; refine (texts_any op _ (by omega) (by omega)).mono ?_; rintro e w1 ⟨rfl, hb⟩; (first | (with_reducible have hx := hb_row2 hb) | (have hx := hb_row hb)); obtain ⟨hr, hb1⟩ := hx; have HB := Lib.hid hb1; have rc := hr.cell; have rf := hr.frozen; have rl := hr.lt; clear hb hb1 hr)
    refine bodyPost_ret (v := rowV _) (by simp [results, Tryz.results103, go_sem, zRow, *]) rfl ⟨rfl, ?_⟩
    exact (((HB.out.setCell (Nat.le_refl _) _).setCell (Nat.le_refl _) _).setCell (Nat.le_refl _) _).setCell (Nat.le_refl _) _
  · have t0 : decide (op < 64) = false := decide_eq_false (by omega); have t1 : decide (op < 96) = false := decide_eq_false (by omega); have t2 : decide (op < 112) = false := decide_eq_false (by omega); have t3 : decide (op < 128) = false := decide_eq_false (by omega); have t4 : decide (op < 144) = false := decide_eq_false (by omega); have t5 : decide (op < 160) = false := decide_eq_false (by omega); have t6 : decide (op < 176) = false := decide_eq_false (by omega); have t7 : decide (op < 184) = true := decide_eq_true (by omega)
    have he : isaOf op reg = rw0 35 21 6 := by unfold isaOf; repeat (first | rw [if_neg (by omega)] | rw [if_pos (by omega)])
    rw [he]
    have HE := Lib.hid he
    clear he
    go_enter Tryz.func103, Tryz.ntmps103
    go_wp2_with (go_at_call 154; refine (isaRow_any _ _ _ _).mono ?_; rintro e w1 ⟨rfl, hb⟩; (first | (with_reducible have hx := hb_row2 hb) | (have hx := hb_row hb)); obtain ⟨hr, hb1⟩ := hx; have HB := Lib.hid hb1; have rc := hr.cell; have rf := hr.frozen; have rl := hr.lt; clear hb hb1 hr)
    refine bodyPost_ret (v := rowV _) (by simp [results, Tryz.results103, go_sem, zRow, *]) rfl ⟨rfl, ?_⟩
    exact (((HB.out.setCell (Nat.le_refl _) _).setCell (Nat.le_refl _) _).setCell (Nat.le_refl _) _).setCell (Nat.le_refl _) _
  · have t0 : decide (op < 64) = false := decide_eq_false (by omega); have t1 : decide (op < 96) = false := decide_eq_false (by omega); have t2 : decide (op < 112) = false := decide_eq_false (by omega); have t3 : decide (op < 128) = false := decide_eq_false (by omega); have t4 : decide (op < 144) = false := decide_eq_false (by omega); have t5 : decide (op < 160) = false := decide_eq_false (by omega); have t6 : decide (op < 176) = false := decide_eq_false (by omega); have t7 : decide (op < 184) = false := decide_eq_false (by omega); have t8 : decide (op < 192) = true := decide_eq_true (by omega)
    have he : isaOf op reg = rw0 35 22 7 := by unfold isaOf; repeat (first | rw [if_neg (by omega)] | rw [if_pos (by omega)])
    rw [he]
    have HE := Lib.hid he
    clear he
    go_enter Tryz.func103, Tryz.ntmps103
    go_wp2_with (go_at_call 154; refine (isaRow_any _ _ _ _).mono ?_; rintro e w1 ⟨rfl, hb⟩; (first | (with_reducible have hx := hb_row2 hb) | (have hx := hb_row hb)); obtain ⟨hr, hb1⟩ := hx; have HB := Lib.hid hb1; have rc := hr.cell; have rf := hr.frozen; have rl := hr.lt; clear hb hb1 hr)
    refine bodyPost_ret (v := rowV _) (by simp [results, Tryz.results103, go_sem, zRow, *]) rfl ⟨rfl, ?_⟩
    exact (((HB.out.setCell (Nat.le_refl _) _).setCell (Nat.le_refl _) _).setCell (Nat.le_refl _) _).setCell (Nat.le_refl _) _
  · have t0 : decide (op < 64) = false := decide_eq_false (by omega); have t1 : decide (op < 96) = false := decide_eq_false (by omega); have t2 : decide (op < 112) = false := decide_eq_false (by omega); have t3 : decide (op < 128) = false := decide_eq_false (by omega); have t4 : decide (op < 144) = false := decide_eq_false (by omega); have t5 : decide (op < 160) = false := decide_eq_false (by omega); have t6 : decide (op < 176) = false := decide_eq_false (by omega); have t7 : decide (op < 184) = false := decide_eq_false (by omega); have t8 : decide (op < 192) = false := decide_eq_false (by omega); have t9 : decide (op < 208) = true := decide_eq_true (by omega)
    have he : isaOf op reg = backsOf op reg := by unfold isaOf; repeat (first | rw [if_neg (by omega)] | rw [if_pos (by omega)])
    rw [he]
    have HE := Lib.hid he
    clear he
    go_enter Tryz.func103, Tryz.ntmps103
    go_wp2_with (go_at_call 159; refine (backs_any op reg _ (by omega) (by omega) r0 r1).mono ?_; rintro e w1 ⟨rfl, hb⟩; (first | (with_reducible have hx := hb_row2 hb) | (have hx := hb_row hb)); obtain ⟨hr, hb1⟩ := hx; have HB := Lib.hid hb1; have rc := hr.cell; have rf := hr.frozen; have rl := hr.lt; clear hb hb1 hr)
    refine bodyPost_ret (v := rowV _) (by simp [results, Tryz.results103, go_sem, zRow, *]) rfl ⟨rfl, ?_⟩
    exact (((HB.out.setCell (Nat.le_refl _) _).setCell (Nat.le_refl _) _).setCell (Nat.le_refl _) _).setCell (Nat.le_refl _) _
  · have t0 : decide (op < 64) = false := decide_eq_false (by omega); have t1 : decide (op < 96) = false := decide_eq_false (by omega); have t2 : decide (op < 112) = false := decide_eq_false (by omega); have t3 : decide (op < 128) = false := decide_eq_false (by omega); have t4 : decide (op < 144) = false := decide_eq_false (by omega); have t5 : decide (op < 160) = false := decide_eq_false (by omega); have t6 : decide (op < 176) = false := decide_eq_false (by omega); have t7 : decide (op < 184) = false := decide_eq_false (by omega); have t8 : decide (op < 192) = false := decide_eq_false (by omega); have t9 : decide (op < 208) = false := decide_eq_false (by omega); have t10 : decide (op < 224) = true := decide_eq_true (by omega)
    have he : isaOf op reg = turnsOf op reg := by unfold isaOf; repeat (first | rw [if_neg (by omega)] | rw [if_pos (by omega)])
    rw [he]
    have HE := Lib.hid he
    clear he
    go_enter Tryz.func103, Tryz.ntmps103
    go_wp2_with (go_at_call 160; refine (turns_any op reg _ (by omega) (by omega) r0 r1).mono ?_; rintro e w1 ⟨rfl, hb⟩; (first | (with_reducible have hx := hb_row2 hb) | (have hx := hb_row hb)); obtain ⟨hr, hb1⟩ := hx; have HB := Lib.hid hb1; have rc := hr.cell; have rf := hr.frozen; have rl := hr.lt; clear hb hb1 hr)
    refine bodyPost_ret (v := rowV _) (by simp [results, Tryz.results103, go_sem, zRow, *]) rfl ⟨rfl, ?_⟩
    exact (((HB.out.setCell (Nat.le_refl _) _).setCell (Nat.le_refl _) _).setCell (Nat.le_refl _) _).setCell (Nat.le_refl _) _
  · have t0 : decide (op < 64) = false := decide_eq_false (by omega); have t1 : decide (op < 96) = false := decide_eq_false (by omega); have t2 : decide (op < 112) = false := decide_eq_false (by omega); have t3 : decide (op < 128) = false := decide_eq_false (by omega); have t4 : decide (op < 144) = false := decide_eq_false (by omega); have t5 : decide (op < 160) = false := decide_eq_false (by omega); have t6 : decide (op < 176) = false := decide_eq_false (by omega); have t7 : decide (op < 184) = false := decide_eq_false (by omega); have t8 : decide (op < 192) = false := decide_eq_false (by omega); have t9 : decide (op < 208) = false := decide_eq_false (by omega); have t10 : decide (op < 224) = false := decide_eq_false (by omega); have t11 : decide (op < 240) = true := decide_eq_true (by omega)
    have he : isaOf op reg = goesOf op := by unfold isaOf; repeat (first | rw [if_neg (by omega)] | rw [if_pos (by omega)])
    rw [he]
    have HE := Lib.hid he
    clear he
    go_enter Tryz.func103, Tryz.ntmps103
    go_wp2_with (go_at_call 161; refine (goes_any op _ (by omega) (by omega)).mono ?_; rintro e w1 ⟨rfl, hb⟩; (first | (with_reducible have hx := hb_row2 hb) | (have hx := hb_row hb)); obtain ⟨hr, hb1⟩ := hx; have HB := Lib.hid hb1; have rc := hr.cell; have rf := hr.frozen; have rl := hr.lt; clear hb hb1 hr)
    refine bodyPost_ret (v := rowV _) (by simp [results, Tryz.results103, go_sem, zRow, *]) rfl ⟨rfl, ?_⟩
    exact (((HB.out.setCell (Nat.le_refl _) _).setCell (Nat.le_refl _) _).setCell (Nat.le_refl _) _).setCell (Nat.le_refl _) _
  · have t0 : decide (op < 64) = false := decide_eq_false (by omega); have t1 : decide (op < 96) = false := decide_eq_false (by omega); have t2 : decide (op < 112) = false := decide_eq_false (by omega); have t3 : decide (op < 128) = false := decide_eq_false (by omega); have t4 : decide (op < 144) = false := decide_eq_false (by omega); have t5 : decide (op < 160) = false := decide_eq_false (by omega); have t6 : decide (op < 176) = false := decide_eq_false (by omega); have t7 : decide (op < 184) = false := decide_eq_false (by omega); have t8 : decide (op < 192) = false := decide_eq_false (by omega); have t9 : decide (op < 208) = false := decide_eq_false (by omega); have t10 : decide (op < 224) = false := decide_eq_false (by omega); have t11 : decide (op < 240) = false := decide_eq_false (by omega)
    have he : isaOf op reg = restOf op reg := by unfold isaOf; repeat (first | rw [if_neg (by omega)] | rw [if_pos (by omega)])
    rw [he]
    have HE := Lib.hid he
    clear he
    go_enter Tryz.func103, Tryz.ntmps103
    go_wp2_with (go_at_call 162; refine (rest_any op reg _ (by omega) (by omega) r0 r1).mono ?_; rintro e w1 ⟨rfl, hb⟩; (first | (with_reducible have hx := hb_row2 hb) | (have hx := hb_row hb)); obtain ⟨hr, hb1⟩ := hx; have HB := Lib.hid hb1; have rc := hr.cell; have rf := hr.frozen; have rl := hr.lt; clear hb hb1 hr)
    refine bodyPost_ret (v := rowV _) (by simp [results, Tryz.results103, go_sem, zRow, *]) rfl ⟨rfl, ?_⟩
    exact (((HB.out.setCell (Nat.le_refl _) _).setCell (Nat.le_refl _) _).setCell (Nat.le_refl _) _).setCell (Nat.le_refl _) _
end Go.Proofs.YtcglkefaopgjeaaGreatDoor
