/- Parts of the proof, in one text: YtcglkefaopgjeaaGreatDoorR4 YtcglkefaopgjeaaGreatDoorR1 YtcglkefaopgjeaaGreatDoorR5 YtcglkefaopgjeaaGreatDoorR6 YtcglkefaopgjeaaGreatDoorR7 YtcglkefaopgjeaaGreatDoorR8 YtcglkefaopgjeaaGreatDoorR9 YtcglkefaopgjeaaGreatDoorT4 YtcglkefaopgjeaaGreatDoorT7 YtcglkefaopgjeaaGreatDoorT5 YtcglkefaopgjeaaGreatDoorT6. Each part's own remark says what it proves; conditions: those of each theorem. -/
import Derived.Test.YtcglkefaopgjeaaGreatDoorR3
import Derived.Test.YtcglkefaopgjeaaGreatDoorR0
import Derived.Test.YtcglkefaopgjeaaGreatDoorV4

/- Package alu: less: the walk. -/
namespace Go.Proofs.YtcglkefaopgjeaaGreatDoor
set_option linter.unusedSimpArgs false
set_option linter.unusedVariables false
open Go.RowKit

theorem subC_walk (a b c : Int) : decide (a < b + c) = subC a b c := rfl
theorem subA_walk (a b c : Int) : decide (a % 16 < b % 16 + c) = subA a b c := rfl
set_option maxRecDepth 100000 in
set_option maxHeartbeats 1600000 in
theorem less_any (a b c : Int) (wide : Bool) (w : World) (a0 : 0 ≤ a) (a1 : a < 2 * topW wide) (b0 : 0 ≤ b) (b1 : b < 2 * topW wide) (c0 : 0 ≤ c) (c1 : c ≤ 1) :
    Calls Tryz.prog 206 #[.int .u16 a, .int .u16 b, .int .u16 c, .bool wide] w fun e w' => e = .returned (.tuple #[.int .u16 (subV a b c wide), .int .u16 (subF a b c wide)]) ∧ w = w' := by
  have ht : topW wide ≤ 32768 := by rcases topW_cases wide with ⟨_, e⟩ | ⟨_, e⟩ <;> rw [e] <;> decide
  have hv := subV_wf a b c wide
  have KV := Lib.hid (show ∀ x w, x = (a - b - c) % 65536 → Calls Tryz.prog 204 #[.int .u16 x, .bool wide] w fun e w' => e = .returned (.int .u16 (subV a b c wide)) ∧ w = w' by
    rintro _ w rfl
    have := aluCut_any ((a - b - c) % 65536) wide w (by omega) (by omega)
    rwa [show cutW ((a - b - c) % 65536) wide = subV a b c wide by unfold cutW subV; cases wide <;> simp [topW] <;> omega] at this)
  have HF := Lib.hid (show subF a b c wide = orW (orW (sgnF (subV a b c wide) wide) (ifI (decide (a < b + c)) 1)) (orW (ifI (decide (a % 16 < b % 16 + c)) 16) (ifI (andW (andW (xorW a b) (xorW a (subV a b c wide))) (topW wide) != 0) 2048)) by
    rw [xors_top a b a _ wide a0 (by omega) b0 (by omega) a0 (by omega) (by omega) (by omega), flags_six]
    rfl)
  generalize subV a b c wide = v at hv KV HF ⊢
  have KS := Lib.hid (fun w => aluSigns_any v wide w hv.1 (by omega))
  have e15a := and15 a a0 (by omega)
  have e15b := and15 b b0 (by omega)
  go_enter Tryz.func206, Tryz.ntmps206
  go_wp2_with (first | (go_at_call 204; refine (KV.out _ _ (by simp only [IntKind.wrap_u16]; omega)).mono ?_; rintro e w' ⟨rfl, rfl⟩) | (go_at_call 209; refine (KS.out _).mono ?_; rintro e w' ⟨rfl, rfl⟩) | (go_at_call 212; refine (aluFlag_any _ _ _).mono ?_; rintro e w' ⟨rfl, rfl⟩) | (go_at_call 216; refine (aluTop_any wide _).mono ?_; rintro e w' ⟨rfl, rfl⟩))
  go_ret2
  exact ⟨ret2_int rfl HF.out.symm, rfl⟩
end Go.Proofs.YtcglkefaopgjeaaGreatDoor

/- Shifts in plain numbers: bits behind a step are the bits of the number behind it: plain laws, no walk. -/
namespace Go.Proofs.YtcglkefaopgjeaaGreatDoor
set_option linter.unusedSimpArgs false
set_option linter.unusedVariables false
open Go.RowKit

/-- A number behind one step, and what goes out of it. -/
def stepV (name v c : Int) (wide : Bool) : Int :=
  if name = 63 then 2 * v % (2 * topW wide) + v / topW wide % 2 else if name = 64 then v / 2 + v % 2 * topW wide else
  if name = 65 then 2 * v % (2 * topW wide) + c else if name = 66 then v / 2 + c * topW wide else
  if name = 67 then 2 * v % (2 * topW wide) else if name = 68 then v / 2 else v / 2 + v / topW wide % 2 * topW wide
def stepC (name v : Int) (wide : Bool) : Int := if name = 63 ∨ name = 65 ∨ name = 67 then v / topW wide % 2 else v % 2
def leftB (name : Int) : Bool := name == 63 || name == 65 || name == 67
/-- What comes in at the end. -/
def stepIn (name v c : Int) (wide : Bool) : Int :=
  if name = 63 then v / topW wide % 2 else if name = 64 then v % 2 else if name = 65 then c else if name = 66 then c else if name = 67 then 0 else if name = 68 then 0 else v / topW wide % 2
theorem stepV_wf (name v c : Int) (wide : Bool) (v0 : 0 ≤ v) (v1 : v < 2 * topW wide) (c0 : 0 ≤ c) (c1 : c ≤ 1) : 0 ≤ stepV name v c wide ∧ stepV name v c wide < 2 * topW wide := by
  unfold stepV
  cases wide <;> simp only [topW, if_true, Bool.false_eq_true, if_false] at * <;> repeat' split
  all_goals omega
theorem stepC_wf (name v : Int) (wide : Bool) : 0 ≤ stepC name v wide ∧ stepC name v wide ≤ 1 := by
  unfold stepC
  split <;> omega
set_option maxHeartbeats 3200000 in
theorem step_bits8 (name v c : Int) (v0 : 0 ≤ v) (v1 : v < 256) (c0 : 0 ≤ c) (c1 : c ≤ 1) (i : Nat) (hi : i < 8) :
    bitI (stepV name v c false) i = if leftB name then (if i = 0 then stepIn name v c false else bitI v (i - 1)) else (if i = 7 then stepIn name v c false else bitI v (i + 1)) := by
  have hc : name = 63 ∨ name = 64 ∨ name = 65 ∨ name = 66 ∨ name = 67 ∨ name = 68 ∨ (name ≠ 63 ∧ name ≠ 64 ∧ name ≠ 65 ∧ name ≠ 66 ∧ name ≠ 67 ∧ name ≠ 68) := by omega
  have hi8 : i = 0 ∨ i = 1 ∨ i = 2 ∨ i = 3 ∨ i = 4 ∨ i = 5 ∨ i = 6 ∨ i = 7 := by omega
  rcases (show v / 128 = 0 ∨ v / 128 = 1 by omega) with e | e <;> rcases (show v % 2 = 0 ∨ v % 2 = 1 by omega) with e2 | e2 <;> rcases hc with rfl | rfl | rfl | rfl | rfl | rfl | ⟨n1, n2, n3, n4, n5, n6⟩ <;> rcases hi8 with rfl | rfl | rfl | rfl | rfl | rfl | rfl | rfl <;>
    simp [stepV, leftB, stepIn, bitI, topW, *] <;> omega
set_option maxHeartbeats 3200000 in
theorem step_bits16 (name v c : Int) (v0 : 0 ≤ v) (v1 : v < 65536) (c0 : 0 ≤ c) (c1 : c ≤ 1) (i : Nat) (hi : i < 16) :
    bitI (stepV name v c true) i = if leftB name then (if i = 0 then stepIn name v c true else bitI v (i - 1)) else (if i = 15 then stepIn name v c true else bitI v (i + 1)) := by
  have hc : name = 63 ∨ name = 64 ∨ name = 65 ∨ name = 66 ∨ name = 67 ∨ name = 68 ∨ (name ≠ 63 ∧ name ≠ 64 ∧ name ≠ 65 ∧ name ≠ 66 ∧ name ≠ 67 ∧ name ≠ 68) := by omega
  rcases (show v / 32768 = 0 ∨ v / 32768 = 1 by omega) with e | e <;> rcases (show v % 2 = 0 ∨ v % 2 = 1 by omega) with e2 | e2 <;> rcases hc with rfl | rfl | rfl | rfl | rfl | rfl | ⟨n1, n2, n3, n4, n5, n6⟩ <;> rcases below16 hi with rfl | rfl | rfl | rfl | rfl | rfl | rfl | rfl | rfl | rfl | rfl | rfl | rfl | rfl | rfl | rfl <;>
    simp [stepV, leftB, stepIn, bitI, topW, *] <;> omega
/-- A number, and what went out last, and the number ahead of the last step, behind so many steps. -/
def stepN (name : Int) (wide : Bool) : Nat → Int × Int × Int → Int × Int × Int
  | 0, p => p
  | n + 1, p => let q := stepN name wide n p; (stepV name q.1 q.2.1 wide, stepC name q.1 wide, q.1)
theorem stepN_wf (name : Int) (wide : Bool) (n : Nat) (p : Int × Int × Int) (h0 : 0 ≤ p.1 ∧ p.1 < 2 * topW wide) (h1 : 0 ≤ p.2.1 ∧ p.2.1 ≤ 1) (h2 : 0 ≤ p.2.2 ∧ p.2.2 < 2 * topW wide) :
    (0 ≤ (stepN name wide n p).1 ∧ (stepN name wide n p).1 < 2 * topW wide) ∧ (0 ≤ (stepN name wide n p).2.1 ∧ (stepN name wide n p).2.1 ≤ 1) ∧ (0 ≤ (stepN name wide n p).2.2 ∧ (stepN name wide n p).2.2 < 2 * topW wide) := by
  induction n with
  | zero => exact ⟨h0, h1, h2⟩
  | succ n ih => exact ⟨stepV_wf _ _ _ _ ih.1.1 ih.1.2 ih.2.1.1 ih.2.1.2, stepC_wf _ _ _, ih.1⟩
end Go.Proofs.YtcglkefaopgjeaaGreatDoor

/- Package shift: turns: the walk. -/
namespace Go.Proofs.YtcglkefaopgjeaaGreatDoor
set_option linter.unusedSimpArgs false
set_option linter.unusedVariables false
open Go.RowKit

theorem ret_bool {a b : Bool} (h : a = b) : Ending.returned (.bool a) = .returned (.bool b) := by rw [h]
set_option maxRecDepth 100000 in
theorem shTurns_any (k : Int) (w : World) :
    Calls Tryz.prog 208 #[.int .i64 k] w fun e w' => e = .returned (.bool (decide (63 ≤ k) && decide (k ≤ 66))) ∧ w = w' := by
  by_cases h : 63 ≤ k
  · go_enter Tryz.func208, Tryz.ntmps208
    go_wp2_with fail
    go_ret
    exact ⟨ret_bool (by simp [h]), rfl⟩
  · go_enter Tryz.func208, Tryz.ntmps208
    go_wp2_with fail
    go_ret
    exact ⟨ret_bool (by simp; omega), rfl⟩
end Go.Proofs.YtcglkefaopgjeaaGreatDoor

/- Package alu: One: the walk. -/
namespace Go.Proofs.YtcglkefaopgjeaaGreatDoor
set_option linter.unusedSimpArgs false
set_option linter.unusedVariables false
open Go.RowKit

set_option maxRecDepth 100000 in
set_option maxHeartbeats 800000 in
theorem oneInc_any (a f : Int) (wide : Bool) (w : World) (a0 : 0 ≤ a) (a1 : a < 65536) (f0 : 0 ≤ f) (f1 : f < 65536) :
    Calls Tryz.prog 184 #[.int .i64 15, .int .u16 a, .int .u16 f, .bool wide] w fun e w' => e = .returned (.tuple #[.int .u16 (addV (cutW a wide) 1 0 wide), .int .u16 (orW (bits .andNot .u16 (addF (cutW a wide) 1 0 wide) 1) (andW f 1)), .bool true]) ∧ w = w' := by
  have ha : 0 ≤ cutW a wide ∧ cutW a wide < 2 * topW wide := by unfold cutW; cases wide <;> simp [topW] <;> omega
  have KC := Lib.hid (fun w => aluCut_any a wide w a0 (by omega))
  generalize cutW a wide = x at ha KC ⊢
  have K := Lib.hid (fun w => sum_any x 1 0 wide w ha.1 ha.2 (by omega) (by cases wide <;> decide) (by omega) (by omega))
  go_enter Tryz.func184, Tryz.ntmps184
  go_wp2_with (first | (go_at_call 204; refine (KC.out _).mono ?_; rintro e w' ⟨rfl, rfl⟩) | (go_at_call 205; refine (K.out _).mono ?_; rintro e w' ⟨rfl, rfl⟩))
  go_ret3
  exact ⟨rfl, rfl⟩

set_option maxRecDepth 100000 in
set_option maxHeartbeats 800000 in
theorem oneDec_any (a f : Int) (wide : Bool) (w : World) (a0 : 0 ≤ a) (a1 : a < 65536) (f0 : 0 ≤ f) (f1 : f < 65536) :
    Calls Tryz.prog 184 #[.int .i64 16, .int .u16 a, .int .u16 f, .bool wide] w fun e w' => e = .returned (.tuple #[.int .u16 (subV (cutW a wide) 1 0 wide), .int .u16 (orW (bits .andNot .u16 (subF (cutW a wide) 1 0 wide) 1) (andW f 1)), .bool true]) ∧ w = w' := by
  have ha : 0 ≤ cutW a wide ∧ cutW a wide < 2 * topW wide := by unfold cutW; cases wide <;> simp [topW] <;> omega
  have KC := Lib.hid (fun w => aluCut_any a wide w a0 (by omega))
  generalize cutW a wide = x at ha KC ⊢
  have K := Lib.hid (fun w => less_any x 1 0 wide w ha.1 ha.2 (by omega) (by cases wide <;> decide) (by omega) (by omega))
  go_enter Tryz.func184, Tryz.ntmps184
  go_wp2_with (first | (go_at_call 204; with_reducible refine (KC.out _).mono ?_; rintro e w' ⟨rfl, rfl⟩) | (go_at_call 206; with_reducible refine (K.out _).mono ?_; rintro e w' ⟨rfl, rfl⟩))
  go_ret3
  exact ⟨rfl, rfl⟩

set_option maxRecDepth 100000 in
set_option maxHeartbeats 800000 in
theorem oneNeg_any (a f : Int) (wide : Bool) (w : World) (a0 : 0 ≤ a) (a1 : a < 65536) :
    Calls Tryz.prog 184 #[.int .i64 85, .int .u16 a, .int .u16 f, .bool wide] w fun e w' => e = .returned (.tuple #[.int .u16 (subV 0 (cutW a wide) 0 wide), .int .u16 (subF 0 (cutW a wide) 0 wide), .bool true]) ∧ w = w' := by
  have ha : 0 ≤ cutW a wide ∧ cutW a wide < 2 * topW wide := by unfold cutW; cases wide <;> simp [topW] <;> omega
  have KC := Lib.hid (fun w => aluCut_any a wide w a0 (by omega))
  generalize cutW a wide = x at ha KC ⊢
  have K := Lib.hid (fun w => less_any 0 x 0 wide w (by omega) (by cases wide <;> decide) ha.1 ha.2 (by omega) (by omega))
  go_enter Tryz.func184, Tryz.ntmps184
  go_wp2_with (first | (go_at_call 204; with_reducible refine (KC.out _).mono ?_; rintro e w' ⟨rfl, rfl⟩) | (go_at_call 206; with_reducible refine (K.out _).mono ?_; rintro e w' ⟨rfl, rfl⟩))
  go_ret3
  exact ⟨rfl, rfl⟩

theorem xor_ones (n : Nat) (h : n < 65536) : 65535 ^^^ n = 65535 - n := by
  apply Nat.eq_of_testBit_eq
  intro i
  rw [Nat.testBit_xor, show (65535 : Nat) = 2 ^ 16 - 1 from rfl, Nat.testBit_two_pow_sub_one, show 2 ^ 16 - 1 - n = 2 ^ 16 - (n + 1) by omega, Nat.testBit_two_pow_sub_succ (by omega)]
  by_cases hi : i < 16
  · simp [hi]
  · have h2 : n.testBit i = false := Nat.testBit_lt_two_pow (Nat.lt_of_lt_of_le h (show 2 ^ 16 ≤ 2 ^ i from Nat.pow_le_pow_right (by decide) (by omega)))
    simp [hi, h2]
theorem xor_max (x : Int) (h0 : 0 ≤ x) (h1 : x ≤ 65535) : bits .xor .u16 IntKind.u16.max x = 65535 - x := by
  obtain ⟨n, rfl⟩ := Int.eq_ofNat_of_zero_le h0
  have hn : n < 65536 := by omega
  refine (u16_xor_nat 65535 n (by decide) hn).trans ?_
  rw [xor_ones n hn]
  omega
set_option maxRecDepth 100000 in
set_option maxHeartbeats 800000 in
theorem oneNot_any (a f : Int) (wide : Bool) (w : World) (a0 : 0 ≤ a) (a1 : a < 65536) (f0 : 0 ≤ f) (f1 : f < 65536) :
    Calls Tryz.prog 184 #[.int .i64 84, .int .u16 a, .int .u16 f, .bool wide] w fun e w' => e = .returned (.tuple #[.int .u16 (cutW (65535 - cutW a wide) wide), .int .u16 (andW f 2261), .bool true]) ∧ w = w' := by
  have ha : 0 ≤ cutW a wide ∧ cutW a wide ≤ 65535 := by unfold cutW; cases wide <;> simp <;> omega
  have KC := Lib.hid (fun w => aluCut_any a wide w a0 (by omega))
  generalize cutW a wide = x at ha KC ⊢
  have K := Lib.hid (fun w => aluCut_any (65535 - x) wide w (by omega) (by omega))
  have HX := Lib.hid (xor_max x ha.1 ha.2)
  go_enter Tryz.func184, Tryz.ntmps184
  go_upto_region 10 with (go_at_call 204; with_reducible refine (KC.out _).mono ?_; rintro e w' ⟨rfl, rfl⟩)
  go_wp2_with fail
  rw [HX.out]
  refine (K.out _).mono ?_
  rintro e w' ⟨rfl, rfl⟩; dsimp only
  go_wp2_with fail
  go_ret3
  exact ⟨rfl, rfl⟩
end Go.Proofs.YtcglkefaopgjeaaGreatDoor

/- Package alu: Do: the walk. -/
namespace Go.Proofs.YtcglkefaopgjeaaGreatDoor
set_option linter.unusedSimpArgs false
set_option linter.unusedVariables false
open Go.RowKit

/-- What two numbers, cut already, and a carry come to; the flags behind it. -/
def doV (name x y c : Int) (wide : Bool) : Int :=
  if name = 1 then addV x y 0 wide else if name = 3 then addV x y c wide else if name = 6 ∨ name = 8 then subV x y 0 wide else if name = 4 then subV x y c wide else
  if name = 2 then orW x y else if name = 7 then xorW x y else andW x y
def doF (name x y c : Int) (wide : Bool) : Int :=
  if name = 1 then addF x y 0 wide else if name = 3 then addF x y c wide else if name = 6 ∨ name = 8 then subF x y 0 wide else if name = 4 then subF x y c wide else
  sgnF (doV name x y c wide) wide
theorem cut_in (a : Int) (wide : Bool) (a0 : 0 ≤ a) (a1 : a ≤ 65535) : 0 ≤ cutW a wide ∧ cutW a wide < 2 * topW wide := by unfold cutW; cases wide <;> simp [topW] <;> omega
theorem ifI_in (b : Bool) : 0 ≤ ifI b 1 ∧ ifI b 1 ≤ 1 := by cases b <;> decide
theorem top_le (wide : Bool) : 2 * topW wide ≤ 65536 := by cases wide <;> decide

set_option maxRecDepth 100000 in
set_option maxHeartbeats 800000 in
theorem aluDo_1 (a b : Int) (carry wide : Bool) (w : World) (a0 : 0 ≤ a) (a1 : a ≤ 65535) (b0 : 0 ≤ b) (b1 : b ≤ 65535) :
    Calls Tryz.prog 191 #[.int .i64 1, .int .u16 a, .int .u16 b, .bool carry, .bool wide] w fun e w' => e = .returned (.tuple #[.int .u16 (doV 1 (cutW a wide) (cutW b wide) (ifI carry 1) wide), .int .u16 (doF 1 (cutW a wide) (cutW b wide) (ifI carry 1) wide), .bool true]) ∧ w = w' := by
  have ha := cut_in a wide a0 a1
  have hb := cut_in b wide b0 b1
  have hc := ifI_in carry
  have KA := Lib.hid (fun w => aluCut_any a wide w a0 a1)
  have KB := Lib.hid (fun w => aluCut_any b wide w b0 b1)
  have KF := Lib.hid (fun w => aluFlag_any 1 carry w)
  generalize cutW a wide = x at ha KA ⊢
  generalize cutW b wide = y at hb KB ⊢
  generalize ifI carry 1 = c at hc KF ⊢
  have HV := Lib.hid (show doV 1 x y c wide = addV x y 0 wide from rfl)
  have HF := Lib.hid (show doF 1 x y c wide = addF x y 0 wide from rfl)
  have K := Lib.hid (fun w => sum_any x y 0 wide w ha.1 ha.2 hb.1 hb.2 (by omega) (by omega))
  go_enter Tryz.func191, Tryz.ntmps191
  go_wp2_with (first | (go_at_call 204; with_reducible refine (KA.out _).mono ?_; rintro e w' ⟨rfl, rfl⟩) | (go_at_call 204; with_reducible refine (KB.out _).mono ?_; rintro e w' ⟨rfl, rfl⟩) | (go_at_call 212; with_reducible refine (KF.out _).mono ?_; rintro e w' ⟨rfl, rfl⟩) | (go_at_call 205; with_reducible refine (K.out _).mono ?_; rintro e w' ⟨rfl, rfl⟩))
  go_ret3
  rw [HV.out, HF.out]
  exact ⟨rfl, rfl⟩

set_option maxRecDepth 100000 in
set_option maxHeartbeats 800000 in
theorem aluDo_3 (a b : Int) (carry wide : Bool) (w : World) (a0 : 0 ≤ a) (a1 : a ≤ 65535) (b0 : 0 ≤ b) (b1 : b ≤ 65535) :
    Calls Tryz.prog 191 #[.int .i64 3, .int .u16 a, .int .u16 b, .bool carry, .bool wide] w fun e w' => e = .returned (.tuple #[.int .u16 (doV 3 (cutW a wide) (cutW b wide) (ifI carry 1) wide), .int .u16 (doF 3 (cutW a wide) (cutW b wide) (ifI carry 1) wide), .bool true]) ∧ w = w' := by
  have ha := cut_in a wide a0 a1
  have hb := cut_in b wide b0 b1
  have hc := ifI_in carry
  have KA := Lib.hid (fun w => aluCut_any a wide w a0 a1)
  have KB := Lib.hid (fun w => aluCut_any b wide w b0 b1)
  have KF := Lib.hid (fun w => aluFlag_any 1 carry w)
  generalize cutW a wide = x at ha KA ⊢
  generalize cutW b wide = y at hb KB ⊢
  generalize ifI carry 1 = c at hc KF ⊢
  have HV := Lib.hid (show doV 3 x y c wide = addV x y c wide from rfl)
  have HF := Lib.hid (show doF 3 x y c wide = addF x y c wide from rfl)
  have K := Lib.hid (fun w => sum_any x y c wide w ha.1 ha.2 hb.1 hb.2 (by omega) (by omega))
  go_enter Tryz.func191, Tryz.ntmps191
  go_wp2_with (first | (go_at_call 204; with_reducible refine (KA.out _).mono ?_; rintro e w' ⟨rfl, rfl⟩) | (go_at_call 204; with_reducible refine (KB.out _).mono ?_; rintro e w' ⟨rfl, rfl⟩) | (go_at_call 212; with_reducible refine (KF.out _).mono ?_; rintro e w' ⟨rfl, rfl⟩) | (go_at_call 205; with_reducible refine (K.out _).mono ?_; rintro e w' ⟨rfl, rfl⟩))
  go_ret3
  rw [HV.out, HF.out]
  exact ⟨rfl, rfl⟩

set_option maxRecDepth 100000 in
set_option maxHeartbeats 800000 in
theorem aluDo_6 (a b : Int) (carry wide : Bool) (w : World) (a0 : 0 ≤ a) (a1 : a ≤ 65535) (b0 : 0 ≤ b) (b1 : b ≤ 65535) :
    Calls Tryz.prog 191 #[.int .i64 6, .int .u16 a, .int .u16 b, .bool carry, .bool wide] w fun e w' => e = .returned (.tuple #[.int .u16 (doV 6 (cutW a wide) (cutW b wide) (ifI carry 1) wide), .int .u16 (doF 6 (cutW a wide) (cutW b wide) (ifI carry 1) wide), .bool true]) ∧ w = w' := by
  have ha := cut_in a wide a0 a1
  have hb := cut_in b wide b0 b1
  have hc := ifI_in carry
  have KA := Lib.hid (fun w => aluCut_any a wide w a0 a1)
  have KB := Lib.hid (fun w => aluCut_any b wide w b0 b1)
  have KF := Lib.hid (fun w => aluFlag_any 1 carry w)
  generalize cutW a wide = x at ha KA ⊢
  generalize cutW b wide = y at hb KB ⊢
  generalize ifI carry 1 = c at hc KF ⊢
  have HV := Lib.hid (show doV 6 x y c wide = subV x y 0 wide from rfl)
  have HF := Lib.hid (show doF 6 x y c wide = subF x y 0 wide from rfl)
  have K := Lib.hid (fun w => less_any x y 0 wide w ha.1 ha.2 hb.1 hb.2 (by omega) (by omega))
  go_enter Tryz.func191, Tryz.ntmps191
  go_wp2_with (first | (go_at_call 204; with_reducible refine (KA.out _).mono ?_; rintro e w' ⟨rfl, rfl⟩) | (go_at_call 204; with_reducible refine (KB.out _).mono ?_; rintro e w' ⟨rfl, rfl⟩) | (go_at_call 212; with_reducible refine (KF.out _).mono ?_; rintro e w' ⟨rfl, rfl⟩) | (go_at_call 206; with_reducible refine (K.out _).mono ?_; rintro e w' ⟨rfl, rfl⟩))
  go_ret3
  rw [HV.out, HF.out]
  exact ⟨rfl, rfl⟩

set_option maxRecDepth 100000 in
set_option maxHeartbeats 800000 in
theorem aluDo_8 (a b : Int) (carry wide : Bool) (w : World) (a0 : 0 ≤ a) (a1 : a ≤ 65535) (b0 : 0 ≤ b) (b1 : b ≤ 65535) :
    Calls Tryz.prog 191 #[.int .i64 8, .int .u16 a, .int .u16 b, .bool carry, .bool wide] w fun e w' => e = .returned (.tuple #[.int .u16 (doV 8 (cutW a wide) (cutW b wide) (ifI carry 1) wide), .int .u16 (doF 8 (cutW a wide) (cutW b wide) (ifI carry 1) wide), .bool true]) ∧ w = w' := by
  have ha := cut_in a wide a0 a1
  have hb := cut_in b wide b0 b1
  have hc := ifI_in carry
  have KA := Lib.hid (fun w => aluCut_any a wide w a0 a1)
  have KB := Lib.hid (fun w => aluCut_any b wide w b0 b1)
  have KF := Lib.hid (fun w => aluFlag_any 1 carry w)
  generalize cutW a wide = x at ha KA ⊢
  generalize cutW b wide = y at hb KB ⊢
  generalize ifI carry 1 = c at hc KF ⊢
  have HV := Lib.hid (show doV 8 x y c wide = subV x y 0 wide from rfl)
  have HF := Lib.hid (show doF 8 x y c wide = subF x y 0 wide from rfl)
  have K := Lib.hid (fun w => less_any x y 0 wide w ha.1 ha.2 hb.1 hb.2 (by omega) (by omega))
  go_enter Tryz.func191, Tryz.ntmps191
  go_wp2_with (first | (go_at_call 204; with_reducible refine (KA.out _).mono ?_; rintro e w' ⟨rfl, rfl⟩) | (go_at_call 204; with_reducible refine (KB.out _).mono ?_; rintro e w' ⟨rfl, rfl⟩) | (go_at_call 212; with_reducible refine (KF.out _).mono ?_; rintro e w' ⟨rfl, rfl⟩) | (go_at_call 206; with_reducible refine (K.out _).mono ?_; rintro e w' ⟨rfl, rfl⟩))
  go_ret3
  rw [HV.out, HF.out]
  exact ⟨rfl, rfl⟩

set_option maxRecDepth 100000 in
set_option maxHeartbeats 800000 in
theorem aluDo_4 (a b : Int) (carry wide : Bool) (w : World) (a0 : 0 ≤ a) (a1 : a ≤ 65535) (b0 : 0 ≤ b) (b1 : b ≤ 65535) :
    Calls Tryz.prog 191 #[.int .i64 4, .int .u16 a, .int .u16 b, .bool carry, .bool wide] w fun e w' => e = .returned (.tuple #[.int .u16 (doV 4 (cutW a wide) (cutW b wide) (ifI carry 1) wide), .int .u16 (doF 4 (cutW a wide) (cutW b wide) (ifI carry 1) wide), .bool true]) ∧ w = w' := by
  have ha := cut_in a wide a0 a1
  have hb := cut_in b wide b0 b1
  have hc := ifI_in carry
  have KA := Lib.hid (fun w => aluCut_any a wide w a0 a1)
  have KB := Lib.hid (fun w => aluCut_any b wide w b0 b1)
  have KF := Lib.hid (fun w => aluFlag_any 1 carry w)
  generalize cutW a wide = x at ha KA ⊢
  generalize cutW b wide = y at hb KB ⊢
  generalize ifI carry 1 = c at hc KF ⊢
  have HV := Lib.hid (show doV 4 x y c wide = subV x y c wide from rfl)
  have HF := Lib.hid (show doF 4 x y c wide = subF x y c wide from rfl)
  have K := Lib.hid (fun w => less_any x y c wide w ha.1 ha.2 hb.1 hb.2 (by omega) (by omega))
  go_enter Tryz.func191, Tryz.ntmps191
  go_wp2_with (first | (go_at_call 204; with_reducible refine (KA.out _).mono ?_; rintro e w' ⟨rfl, rfl⟩) | (go_at_call 204; with_reducible refine (KB.out _).mono ?_; rintro e w' ⟨rfl, rfl⟩) | (go_at_call 212; with_reducible refine (KF.out _).mono ?_; rintro e w' ⟨rfl, rfl⟩) | (go_at_call 206; with_reducible refine (K.out _).mono ?_; rintro e w' ⟨rfl, rfl⟩))
  go_ret3
  rw [HV.out, HF.out]
  exact ⟨rfl, rfl⟩

set_option maxRecDepth 100000 in
set_option maxHeartbeats 800000 in
theorem aluDo_2 (a b : Int) (carry wide : Bool) (w : World) (a0 : 0 ≤ a) (a1 : a ≤ 65535) (b0 : 0 ≤ b) (b1 : b ≤ 65535) :
    Calls Tryz.prog 191 #[.int .i64 2, .int .u16 a, .int .u16 b, .bool carry, .bool wide] w fun e w' => e = .returned (.tuple #[.int .u16 (doV 2 (cutW a wide) (cutW b wide) (ifI carry 1) wide), .int .u16 (doF 2 (cutW a wide) (cutW b wide) (ifI carry 1) wide), .bool true]) ∧ w = w' := by
  have ha := cut_in a wide a0 a1
  have hb := cut_in b wide b0 b1
  have KA := Lib.hid (fun w => aluCut_any a wide w a0 a1)
  have KB := Lib.hid (fun w => aluCut_any b wide w b0 b1)
  have KF := Lib.hid (fun w => aluFlag_any 1 carry w)
  generalize cutW a wide = x at ha KA ⊢
  generalize cutW b wide = y at hb KB ⊢
  generalize ifI carry 1 = c at KF ⊢
  have HV := Lib.hid (show doV 2 x y c wide = orW x y from rfl)
  have HF := Lib.hid (show doF 2 x y c wide = sgnF (orW x y) wide from rfl)
  have K := Lib.hid (fun w => aluSigns_any (orW x y) wide w (w_or_lo x y) (by have h := w_or_hi x y; omega))
  go_enter Tryz.func191, Tryz.ntmps191
  go_wp2_with (first | (go_at_call 204; with_reducible refine (KA.out _).mono ?_; rintro e w' ⟨rfl, rfl⟩) | (go_at_call 204; with_reducible refine (KB.out _).mono ?_; rintro e w' ⟨rfl, rfl⟩) | (go_at_call 212; with_reducible refine (KF.out _).mono ?_; rintro e w' ⟨rfl, rfl⟩) | (go_at_call 209; with_reducible refine (K.out _).mono ?_; rintro e w' ⟨rfl, rfl⟩))
  go_ret3
  rw [HV.out, HF.out]
  exact ⟨rfl, rfl⟩

set_option maxRecDepth 100000 in
set_option maxHeartbeats 800000 in
theorem aluDo_5 (a b : Int) (carry wide : Bool) (w : World) (a0 : 0 ≤ a) (a1 : a ≤ 65535) (b0 : 0 ≤ b) (b1 : b ≤ 65535) :
    Calls Tryz.prog 191 #[.int .i64 5, .int .u16 a, .int .u16 b, .bool carry, .bool wide] w fun e w' => e = .returned (.tuple #[.int .u16 (doV 5 (cutW a wide) (cutW b wide) (ifI carry 1) wide), .int .u16 (doF 5 (cutW a wide) (cutW b wide) (ifI carry 1) wide), .bool true]) ∧ w = w' := by
  have ha := cut_in a wide a0 a1
  have hb := cut_in b wide b0 b1
  have KA := Lib.hid (fun w => aluCut_any a wide w a0 a1)
  have KB := Lib.hid (fun w => aluCut_any b wide w b0 b1)
  have KF := Lib.hid (fun w => aluFlag_any 1 carry w)
  generalize cutW a wide = x at ha KA ⊢
  generalize cutW b wide = y at hb KB ⊢
  generalize ifI carry 1 = c at KF ⊢
  have HV := Lib.hid (show doV 5 x y c wide = andW x y from rfl)
  have HF := Lib.hid (show doF 5 x y c wide = sgnF (andW x y) wide from rfl)
  have K := Lib.hid (fun w => aluSigns_any (andW x y) wide w (w_and_lo x y) (by have h := w_and_hi x y; omega))
  go_enter Tryz.func191, Tryz.ntmps191
  go_wp2_with (first | (go_at_call 204; with_reducible refine (KA.out _).mono ?_; rintro e w' ⟨rfl, rfl⟩) | (go_at_call 204; with_reducible refine (KB.out _).mono ?_; rintro e w' ⟨rfl, rfl⟩) | (go_at_call 212; with_reducible refine (KF.out _).mono ?_; rintro e w' ⟨rfl, rfl⟩) | (go_at_call 209; with_reducible refine (K.out _).mono ?_; rintro e w' ⟨rfl, rfl⟩))
  go_ret3
  rw [HV.out, HF.out]
  exact ⟨rfl, rfl⟩

set_option maxRecDepth 100000 in
set_option maxHeartbeats 800000 in
theorem aluDo_33 (a b : Int) (carry wide : Bool) (w : World) (a0 : 0 ≤ a) (a1 : a ≤ 65535) (b0 : 0 ≤ b) (b1 : b ≤ 65535) :
    Calls Tryz.prog 191 #[.int .i64 33, .int .u16 a, .int .u16 b, .bool carry, .bool wide] w fun e w' => e = .returned (.tuple #[.int .u16 (doV 33 (cutW a wide) (cutW b wide) (ifI carry 1) wide), .int .u16 (doF 33 (cutW a wide) (cutW b wide) (ifI carry 1) wide), .bool true]) ∧ w = w' := by
  have ha := cut_in a wide a0 a1
  have hb := cut_in b wide b0 b1
  have KA := Lib.hid (fun w => aluCut_any a wide w a0 a1)
  have KB := Lib.hid (fun w => aluCut_any b wide w b0 b1)
  have KF := Lib.hid (fun w => aluFlag_any 1 carry w)
  generalize cutW a wide = x at ha KA ⊢
  generalize cutW b wide = y at hb KB ⊢
  generalize ifI carry 1 = c at KF ⊢
  have HV := Lib.hid (show doV 33 x y c wide = andW x y from rfl)
  have HF := Lib.hid (show doF 33 x y c wide = sgnF (andW x y) wide from rfl)
  have K := Lib.hid (fun w => aluSigns_any (andW x y) wide w (w_and_lo x y) (by have h := w_and_hi x y; omega))
  go_enter Tryz.func191, Tryz.ntmps191
  go_wp2_with (first | (go_at_call 204; with_reducible refine (KA.out _).mono ?_; rintro e w' ⟨rfl, rfl⟩) | (go_at_call 204; with_reducible refine (KB.out _).mono ?_; rintro e w' ⟨rfl, rfl⟩) | (go_at_call 212; with_reducible refine (KF.out _).mono ?_; rintro e w' ⟨rfl, rfl⟩) | (go_at_call 209; with_reducible refine (K.out _).mono ?_; rintro e w' ⟨rfl, rfl⟩))
  go_ret3
  rw [HV.out, HF.out]
  exact ⟨rfl, rfl⟩

set_option maxRecDepth 100000 in
set_option maxHeartbeats 800000 in
theorem aluDo_7 (a b : Int) (carry wide : Bool) (w : World) (a0 : 0 ≤ a) (a1 : a ≤ 65535) (b0 : 0 ≤ b) (b1 : b ≤ 65535) :
    Calls Tryz.prog 191 #[.int .i64 7, .int .u16 a, .int .u16 b, .bool carry, .bool wide] w fun e w' => e = .returned (.tuple #[.int .u16 (doV 7 (cutW a wide) (cutW b wide) (ifI carry 1) wide), .int .u16 (doF 7 (cutW a wide) (cutW b wide) (ifI carry 1) wide), .bool true]) ∧ w = w' := by
  have ha := cut_in a wide a0 a1
  have hb := cut_in b wide b0 b1
  have KA := Lib.hid (fun w => aluCut_any a wide w a0 a1)
  have KB := Lib.hid (fun w => aluCut_any b wide w b0 b1)
  have KF := Lib.hid (fun w => aluFlag_any 1 carry w)
  generalize cutW a wide = x at ha KA ⊢
  generalize cutW b wide = y at hb KB ⊢
  generalize ifI carry 1 = c at KF ⊢
  have HV := Lib.hid (show doV 7 x y c wide = xorW x y from rfl)
  have HF := Lib.hid (show doF 7 x y c wide = sgnF (xorW x y) wide from rfl)
  have K := Lib.hid (fun w => aluSigns_any (xorW x y) wide w (w_xor_lo x y) (by have h := w_xor_hi x y; omega))
  go_enter Tryz.func191, Tryz.ntmps191
  go_wp2_with (first | (go_at_call 204; with_reducible refine (KA.out _).mono ?_; rintro e w' ⟨rfl, rfl⟩) | (go_at_call 204; with_reducible refine (KB.out _).mono ?_; rintro e w' ⟨rfl, rfl⟩) | (go_at_call 212; with_reducible refine (KF.out _).mono ?_; rintro e w' ⟨rfl, rfl⟩) | (go_at_call 209; with_reducible refine (K.out _).mono ?_; rintro e w' ⟨rfl, rfl⟩))
  go_ret3
  rw [HV.out, HF.out]
  exact ⟨rfl, rfl⟩
theorem aluDo_any (name a b : Int) (carry wide : Bool) (w : World) (hn : (1 ≤ name ∧ name ≤ 8) ∨ name = 33) (a0 : 0 ≤ a) (a1 : a ≤ 65535) (b0 : 0 ≤ b) (b1 : b ≤ 65535) :
    Calls Tryz.prog 191 #[.int .i64 name, .int .u16 a, .int .u16 b, .bool carry, .bool wide] w fun e w' => e = .returned (.tuple #[.int .u16 (doV name (cutW a wide) (cutW b wide) (ifI carry 1) wide), .int .u16 (doF name (cutW a wide) (cutW b wide) (ifI carry 1) wide), .bool true]) ∧ w = w' := by
  have hc : name = 1 ∨ name = 2 ∨ name = 3 ∨ name = 4 ∨ name = 5 ∨ name = 6 ∨ name = 7 ∨ name = 8 ∨ name = 33 := by omega
  rcases hc with rfl | rfl | rfl | rfl | rfl | rfl | rfl | rfl | rfl
  · exact aluDo_1 a b carry wide w a0 a1 b0 b1
  · exact aluDo_2 a b carry wide w a0 a1 b0 b1
  · exact aluDo_3 a b carry wide w a0 a1 b0 b1
  · exact aluDo_4 a b carry wide w a0 a1 b0 b1
  · exact aluDo_5 a b carry wide w a0 a1 b0 b1
  · exact aluDo_6 a b carry wide w a0 a1 b0 b1
  · exact aluDo_7 a b carry wide w a0 a1 b0 b1
  · exact aluDo_8 a b carry wide w a0 a1 b0 b1
  · exact aluDo_33 a b carry wide w a0 a1 b0 b1
end Go.Proofs.YtcglkefaopgjeaaGreatDoor

/- Package shift: step: the walk. -/
namespace Go.Proofs.YtcglkefaopgjeaaGreatDoor
set_option linter.unusedSimpArgs false
set_option linter.unusedVariables false
open Go.RowKit

theorem or_lo1 (x y : Int) (h0 : 0 ≤ x) (h1 : x ≤ 65535) (h2 : x % 2 = 0) (hy : 0 ≤ y ∧ y ≤ 1) : bits .or .u16 x y = x + y := by
  rw [u16_or _ _ (by omega) (by omega) (by omega) (by omega), nat_join 1 x.toNat y.toNat (by omega) (by omega)]
  omega
theorem or_top8 (x y : Int) (h0 : 0 ≤ x) (h1 : x ≤ 127) (hy : y = 0 ∨ y = 128) : bits .or .u16 x y = x + y := by
  rw [u16_or _ _ (by omega) (by omega) (by omega) (by omega), Nat.or_comm, nat_join 7 y.toNat x.toNat (by omega) (by omega)]
  omega
theorem or_top16 (x y : Int) (h0 : 0 ≤ x) (h1 : x ≤ 32767) (hy : y = 0 ∨ y = 32768) : bits .or .u16 x y = x + y := by
  rw [u16_or _ _ (by omega) (by omega) (by omega) (by omega), Nat.or_comm, nat_join 15 y.toNat x.toNat (by omega) (by omega)]
  omega
theorem and_one (x : Int) (h0 : 0 ≤ x) (h1 : x ≤ 65535) : bits .and .u16 x 1 = x % 2 := by
  obtain ⟨n, rfl⟩ := Int.eq_ofNat_of_zero_le h0
  refine (u16_and_nat n 1 (by omega) (by decide)).trans ?_
  rw [Nat.and_one_is_mod]
  omega
/-- A number behind one step, not yet cut. -/
def stepRaw (name v c : Int) (wide : Bool) : Int := if leftB name then (if wide then 2 * v % 65536 else 2 * v) + stepIn name v c wide else stepV name v c wide
theorem stepRaw_cut (name v c : Int) (wide : Bool) (hn : 63 ≤ name ∧ name ≤ 69) (v0 : 0 ≤ v) (v1 : v < 2 * topW wide) (hc : 0 ≤ c ∧ c ≤ 1) : (0 ≤ stepRaw name v c wide ∧ stepRaw name v c wide ≤ 65535) ∧ cutW (stepRaw name v c wide) wide = stepV name v c wide := by
  have hcs : name = 63 ∨ name = 64 ∨ name = 65 ∨ name = 66 ∨ name = 67 ∨ name = 68 ∨ name = 69 := by omega
  rcases hcs with rfl | rfl | rfl | rfl | rfl | rfl | rfl <;> cases wide <;> simp only [topW, if_true, Bool.false_eq_true, if_false] at v1 <;> simp [stepRaw, leftB, stepIn, stepV, cutW, topW] <;> omega
theorem ret_ib {a b : Int} {x y : Bool} (h : a = b) (k : x = y) : Ending.returned (.tuple #[.int .u16 a, .bool x]) = .returned (.tuple #[.int .u16 b, .bool y]) := by rw [h, k]

set_option maxRecDepth 100000 in
set_option maxHeartbeats 6400000 in
theorem shStep_any (name v : Int) (carry wide : Bool) (w : World) (hn : 63 ≤ name ∧ name ≤ 69) (v0 : 0 ≤ v) (v1 : v < 2 * topW wide) :
    Calls Tryz.prog 207 #[.int .i64 name, .int .u16 v, .bool carry, .bool wide] w fun e w' => e = .returned (.tuple #[.int .u16 (stepRaw name v (ifI carry 1) wide), .bool (stepC name v wide == 1)]) ∧ Below w.heap.size w w' := by
  have hcs : name = 63 ∨ name = 64 ∨ name = 65 ∨ name = 66 ∨ name = 67 ∨ name = 68 ∨ name = 69 := by omega
  clear hn
  obtain ⟨R, hR⟩ : ∃ R, stepRaw name v (ifI carry 1) wide = R := ⟨_, rfl⟩
  obtain ⟨S, hS⟩ : ∃ S, (stepC name v wide == 1) = S := ⟨_, rfl⟩
  rw [hR, hS]
  have HR := Lib.hid hR
  have HS := Lib.hid hS
  clear hR hS
  cases wide
  · have v2 : v ≤ 255 := by simp only [topW, Bool.false_eq_true, if_false] at v1; omega
    have e1 := and_one v v0 (by omega)
    have e2 := and_one (v / 128) (by omega) (by omega)
    clear v1
    rcases hcs with rfl | rfl | rfl | rfl | rfl | rfl | rfl <;> cases carry
    all_goals
      go_enter Tryz.func207, Tryz.ntmps207
      go_upto_region 4 with fail
      go_region
      all_goals
        go_wp2_with fail
        go_ret2
        rw [← HR.out, ← HS.out]
        refine ⟨ret_ib ?_ ?_, (Below.refl _ _).drew⟩
        · simp only [stepRaw, leftB, stepIn, stepV, ifI, topW]
          simp
          (try simp only [IntKind.wrap_u16])
          first | done | omega | (rw [or_lo1 _ _ (by omega) (by omega) (by omega) (by omega)] <;> omega) | (rw [or_top8 _ _ (by omega) (by omega) (by omega)] <;> omega)
        · simp only [stepC, topW]
          simp
  · have v2 : v ≤ 65535 := by simp only [topW, if_true] at v1; omega
    have e1 := and_one v v0 (by omega)
    have e2 := and_one (v / 32768) (by omega) (by omega)
    clear v1
    rcases hcs with rfl | rfl | rfl | rfl | rfl | rfl | rfl <;> cases carry
    all_goals
      go_enter Tryz.func207, Tryz.ntmps207
      go_upto_region 4 with fail
      go_region
      all_goals
        go_wp2_with fail
        go_ret2
        rw [← HR.out, ← HS.out]
        refine ⟨ret_ib ?_ ?_, (Below.refl _ _).drew⟩
        · simp only [stepRaw, leftB, stepIn, stepV, ifI, topW]
          simp
          (try simp only [IntKind.wrap_u16])
          first | done | omega | (rw [or_lo1 _ _ (by omega) (by omega) (by omega) (by omega)] <;> omega) | (rw [or_top16 _ _ (by omega) (by omega) (by omega)] <;> omega)
        · simp only [stepC, topW]
          simp
end Go.Proofs.YtcglkefaopgjeaaGreatDoor

/- Package shift: Do: the walk. -/
namespace Go.Proofs.YtcglkefaopgjeaaGreatDoor
set_option linter.unusedSimpArgs false
set_option linter.unusedVariables false
open Go.RowKit

/-- A number behind so many steps, what went out last, and the number ahead of the last step. -/
def shP (name x f0 : Int) (wide : Bool) (n : Nat) : Int × Int × Int := stepN name wide n (x, ifI (andW f0 1 != 0) 1, x)
/-- The flags behind it. -/
def shF (name f0 : Int) (p : Int × Int × Int) (wide : Bool) : Int :=
  let f1 := andNotW (if 63 ≤ name ∧ name ≤ 66 then f0 else sgnF p.1 wide) 2049
  let f2 := if p.2.1 = 1 then orW f1 1 else f1
  if andW (sgnF p.1 wide) 128 = andW (sgnF p.2.2 wide) 128 then f2 else orW f2 2048
theorem shP_wf (name x f0 : Int) (wide : Bool) (h0 : 0 ≤ x) (h1 : x < 2 * topW wide) (n : Nat) : (0 ≤ (shP name x f0 wide n).1 ∧ (shP name x f0 wide n).1 < 2 * topW wide) ∧ (0 ≤ (shP name x f0 wide n).2.1 ∧ (shP name x f0 wide n).2.1 ≤ 1) ∧ (0 ≤ (shP name x f0 wide n).2.2 ∧ (shP name x f0 wide n).2.2 < 2 * topW wide) :=
  stepN_wf name wide n _ ⟨h0, h1⟩ (ifI_in _) ⟨h0, h1⟩
theorem ifI_eq (c : Int) (h : 0 ≤ c ∧ c ≤ 1) : ifI (c == 1) 1 = c := by
  rcases (show c = 0 ∨ c = 1 by omega) with rfl | rfl <;> rfl

set_option maxRecDepth 100000 in
set_option maxHeartbeats 3200000 in
theorem shDo_any (name v was : Int) (n : Nat) (wide : Bool) (w : World) (hn : 63 ≤ name ∧ name ≤ 69) (v0 : 0 ≤ v) (v1 : v ≤ 65535) (n1 : n ≤ 255) (n0 : 1 ≤ n) :
    Calls Tryz.prog 186 #[.int .i64 name, .int .u16 v, .int .u8 (n : Int), .int .u16 was, .bool wide] w fun e w' => e = .returned (.tuple #[.int .u16 (shP name (cutW v wide) (andW was 2261) wide n).1, .int .u16 (shF name (andW was 2261) (shP name (cutW v wide) (andW was 2261) wide n) wide), .bool true]) ∧ Below w.heap.size w w' := by
  have hx := cut_in v wide v0 v1
  have KC := Lib.hid (fun w => aluCut_any v wide w v0 v1)
  generalize cutW v wide = x at hx KC ⊢
  obtain ⟨f0, hf0⟩ : ∃ f, andW was 2261 = f := ⟨_, rfl⟩
  have f00 : 0 ≤ f0 := hf0 ▸ w_and_lo _ _
  have f01 : f0 < 65536 := hf0 ▸ w_and_hi _ _
  rw [hf0]
  have P := shP_wf name x f0 wide hx.1 hx.2
  have tl := top_le wide
  have HP0 := Lib.hid (show shP name x f0 wide 0 = (x, ifI (andW f0 1 != 0) 1, x) from rfl)
  have HPS := Lib.hid (fun k => (show shP name x f0 wide (k + 1) = (stepV name (shP name x f0 wide k).1 (shP name x f0 wide k).2.1 wide, stepC name (shP name x f0 wide k).1 wide, (shP name x f0 wide k).1) from rfl))
  have HF := Lib.hid (fun p => (show shF name f0 p wide = (let f1 := andNotW (if 63 ≤ name ∧ name ≤ 66 then f0 else sgnF p.1 wide) 2049; let f2 := if p.2.1 = 1 then orW f1 1 else f1; if andW (sgnF p.1 wide) 128 = andW (sgnF p.2.2 wide) 128 then f2 else orW f2 2048) from rfl))
  generalize shP name x f0 wide = PP at P HP0 HPS ⊢
  have HPP := Lib.hid P
  clear P
  have g1 : ¬ name < 63 := by omega
  have g2 : ¬ 69 < name := by omega
  have gn : ((n : Int) == 0) = false := by simp; omega
  go_enter Tryz.func186, Tryz.ntmps186
  go_wp2_with fail
  refine (KC.out _).mono ?_
  rintro e w' ⟨rfl, rfl⟩; dsimp only
  go_wp2_with fail
  go_loopw [1, 13, 14, 36] (fun s1 s13 s14 s36 wr => ∃ k : Nat, k ≤ n ∧ s36 = .int .u8 k ∧ s1 = .int .u16 (PP k).1 ∧ s13 = .bool ((PP k).2.1 == 1) ∧ s14 = .int .u16 (PP k).2.2 ∧ Below w.heap.size w wr) (fun _ _ _ s36 _ => n - (intOf s36).toNat)
  case atStart =>
    refine ⟨0, by omega, rfl, ?_, ?_, ?_, Below.refl _ _⟩
    · rw [HP0.out]
    · rw [HP0.out]; cases (andW f0 1 != 0) <;> rfl
    · rw [HP0.out]
  case round =>
    obtain ⟨k, hk, rfl, rfl, rfl, rfl, hb⟩ := hrel
    have HB := Lib.hid hb
    clear hb
    obtain ⟨q1, q2, q3⟩ := HPP.out k
    by_cases hlt : k < n
    · have c1 : ((k : Nat) : Int) < n := by omega
      have HN := Lib.hid (HPS.out k)
      have HQ := Lib.hid (HPP.out (k + 1))
      generalize hpk : PP k = p at q1 q2 q3 HN ⊢
      obtain ⟨pv, pc, pa⟩ := p
      dsimp only at q1 q2 q3 HN ⊢
      clear hpk
      have KS := Lib.hid (fun w => shStep_any name pv (pc == 1) wide w hn q1.1 q1.2)
      rw [ifI_eq pc q2] at KS
      obtain ⟨r1, r2⟩ := stepRaw_cut name pv pc wide hn q1.1 q1.2 q2
      have KR := Lib.hid (fun w => aluCut_any (stepRaw name pv pc wide) wide w r1.1 r1.2)
      rw [r2] at KR
      generalize stepRaw name pv pc wide = raw at KS KR r1
      go_wp2_with fail
      refine (KS.out _).mono ?_
      rintro e w1 ⟨rfl, hb⟩; dsimp only
      have HB1 := Lib.hid (HB.out.trans (hb.mono HB.out.size))
      clear hb
      go_wp2_with fail
      refine (KR.out _).mono ?_
      rintro e w' ⟨rfl, rfl⟩; dsimp only
      go_wp2_with fail
      refine ⟨⟨k + 1, by omega, by go_num, ?_, ?_, ?_, HB1.out⟩, by simp [intOf]; omega⟩
      · rw [HN.out]
      · rw [HN.out]
      · rw [HN.out]
    · have c1 : ¬ ((k : Nat) : Int) < n := by omega
      obtain rfl : k = n := by omega
      have HE := Lib.hid (HF.out (PP k))
      obtain ⟨p, hpk⟩ : ∃ p, PP k = p := ⟨_, rfl⟩
      have HPK := Lib.hid hpk
      rw [hpk] at q1 q2 q3 HE ⊢
      clear hpk
      obtain ⟨pv, pc, pa⟩ := p
      dsimp only at q1 q2 q3 HE ⊢
      have KA := Lib.hid (fun w => aluSigns_any pv wide w q1.1 (by omega))
      have KB := Lib.hid (fun w => aluSigns_any pa wide w q3.1 (by omega))
      have KT := Lib.hid (fun w => shTurns_any name w)
      have g3 : decide (63 ≤ name) = true := by simp; omega
      rw [g3, Bool.true_and] at KT
      generalize sgnF pv wide = s1 at KA HE
      generalize sgnF pa wide = s2 at KB HE
      clear HPP HPS HP0 HF
      by_cases ht : name ≤ 66 <;> by_cases hc : pc = 1 <;> by_cases hs : andW s1 128 = andW s2 128
      all_goals
        have KT2 := KT.out
        simp only [ht, decide_true, decide_false] at KT2
        have KT3 := Lib.hid KT2
        have hcb : (pc == 1) = decide (pc = 1) := rfl
        have hsb : (andW s1 128 != andW s2 128) = !decide (andW s1 128 = andW s2 128) := rfl
        have hsd : decide (andW s1 128 = andW s2 128) = decide (andW s1 128 = andW s2 128) := rfl
        have he := HE.out
        simp only [show 63 ≤ name from hn.1, ht, hs, and_self, and_false, true_and, if_true, if_false] at he
        first | rw [decide_eq_true hc] at hcb | rw [decide_eq_false hc] at hcb
        first | rw [decide_eq_true hs, Bool.not_true] at hsb | rw [decide_eq_false hs, Bool.not_false] at hsb
        clear hsd
        first | rw [if_pos hc] at he | rw [if_neg hc] at he
        have HE2 := Lib.hid he
        clear he hc hs KT KT2 HE hn g1 g2 g3
        go_wp2_with fail
        refine (KT3.out _).mono ?_
        rintro e w' ⟨rfl, rfl⟩; dsimp only
        go_wp2_with (first | (go_at_call 209; with_reducible refine (KA.out _).mono ?_; rintro e w' ⟨rfl, rfl⟩) | (go_at_call 209; with_reducible refine (KB.out _).mono ?_; rintro e w' ⟨rfl, rfl⟩))
        go_ret3
        rw [HPK.out, HE2.out]
        exact ⟨rfl, HB.out⟩
end Go.Proofs.YtcglkefaopgjeaaGreatDoor

/- Package cpu: set: walk; package alu: One at its four operations. -/
namespace Go.Proofs.YtcglkefaopgjeaaGreatDoor
set_option linter.unusedSimpArgs false
set_option linter.unusedVariables false
open Go.RowKit

/-- The six flags that numbers tell are others. -/
def Mach.flagged (m : Mach) (f : Int) : Mach := m.setR { m.r with f := orW (andNotW m.r.f 2261) (andW f 2261) }
set_option maxRecDepth 100000 in
set_option maxHeartbeats 800000 in
theorem cset_any (w : World) (C : Phys) (lv : Value) (m : Mach) (h : Own w C lv m) (f : Int) :
    Calls Tryz.prog 185 #[.pointer (some ⟨C.b, 0, none⟩), .int .u16 f] w fun e w' => e = .returned (.tuple #[]) ∧ After C lv w (m.flagged f) w' := by
  have HWF := Lib.hid (show Regs.wf { m.r with f := orW (andNotW m.r.f 2261) (andW f 2261) } from { h.wf.r with f := ⟨or_lo _ _, or_hi _ _⟩ })
  have HO0 := Lib.hid h; have HA0 := Lib.hid (Acc.refl C lv w); have sc := HO0.out.sees.c; have sf := HO0.out.sees.f; have sr := HO0.out.sees.r; have ss := HO0.out.sees.s; have sl := HO0.out.sees.l; clear h
  go_enter Tryz.func185, Tryz.ntmps185
  go_wp2_with fail
  (first | go_end0 | (((try simp only [Exit.inBlock, Exit.then]); refine bodyPost_ret (results_none rfl _ _ _) rfl ?_)))
  exact ⟨rfl, After.mk (HO0.out.setFl _ (or_lo _ _) (or_hi _ _)) (HA0.out.setB 25 _)⟩
def oneV (name x : Int) (wide : Bool) : Int := if name = 15 then addV x 1 0 wide else if name = 16 then subV x 1 0 wide else if name = 84 then cutW (65535 - x) wide else subV 0 x 0 wide
def oneF (name x f : Int) (wide : Bool) : Int := if name = 15 then orW (andNotW (addF x 1 0 wide) 1) (andW f 1) else if name = 16 then orW (andNotW (subF x 1 0 wide) 1) (andW f 1) else if name = 84 then andW f 2261 else subF 0 x 0 wide
theorem one_any (name a f : Int) (wide : Bool) (w : World) (hn : name = 15 ∨ name = 16 ∨ name = 84 ∨ name = 85) (a0 : 0 ≤ a) (a1 : a ≤ 65535) (f0 : 0 ≤ f) (f1 : f < 65536) :
    Calls Tryz.prog 184 #[.int .i64 name, .int .u16 a, .int .u16 f, .bool wide] w fun e w' => e = .returned (.tuple #[.int .u16 (oneV name (cutW a wide) wide), .int .u16 (oneF name (cutW a wide) f wide), .bool true]) ∧ w = w' := by
  rcases hn with rfl | rfl | rfl | rfl
  · exact oneInc_any a f wide w a0 (by omega) f0 f1
  · exact oneDec_any a f wide w a0 (by omega) f0 f1
  · exact oneNot_any a f wide w a0 (by omega) f0 f1
  · exact oneNeg_any a f wide w a0 (by omega)
theorem oneV_wf (name a : Int) (wide : Bool) (a0 : 0 ≤ a) (a1 : a ≤ 65535) : 0 ≤ oneV name (cutW a wide) wide ∧ oneV name (cutW a wide) wide ≤ 65535 := by
  have hx := cut_in a wide a0 a1
  have tl := top_le wide
  have h1 := addV_wf (cutW a wide) 1 0 wide
  have h2 := subV_wf (cutW a wide) 1 0 wide
  have h3 := subV_wf 0 (cutW a wide) 0 wide
  have h4 := cut_in (65535 - cutW a wide) wide (by omega) (by omega)
  unfold oneV
  repeat' split
  all_goals omega
end Go.Proofs.YtcglkefaopgjeaaGreatDoor

/- Package cpu: numbers, of two operands: walks. -/
namespace Go.Proofs.YtcglkefaopgjeaaGreatDoor
set_option linter.unusedSimpArgs false
set_option linter.unusedVariables false
open Go.RowKit

theorem doV_wf (name x y c : Int) (wide : Bool) : V.wf ⟨doV name x y c wide, false⟩ := by
  have tl := top_le wide
  have h1 := addV_wf x y 0 wide
  have h2 := addV_wf x y c wide
  have h3 := subV_wf x y 0 wide
  have h4 := subV_wf x y c wide
  have b1 := w_or_lo x y
  have b2 := w_or_hi x y
  have b3 := w_and_lo x y
  have b4 := w_and_hi x y
  have b5 := w_xor_lo x y
  have b6 := w_xor_hi x y
  show 0 ≤ doV name x y c wide ∧ doV name x y c wide ≤ 65535
  unfold doV
  repeat' split
  all_goals omega
/-- The machine behind a sum and its like. -/
def Mach.sumM (m : Mach) (i : Inst) (r : IRow) (t : V) (name : Int) : Mach :=
  let va := m.getV i r.a t
  let m2 := (m.getM i r.a).plain va
  let vb := m2.getV i r.b t
  let m4 := (m2.getM i r.b).plain vb
  let x := cutW va.v (wideB r.a)
  let y := cutW vb.v (wideB r.a)
  let c := ifI (andW m4.r.f 1 != 0) 1
  (if name = 8 ∨ name = 33 then m4 else m4.putV i r.a ⟨doV name x y c (wideB r.a), false⟩).flagged (doF name x y c (wideB r.a))

set_option maxRecDepth 100000 in
set_option maxHeartbeats 3200000 in
theorem numbers_sums (w : World) (C : Phys) (lv : Value) (m : Mach) (h : Own w C lv m) (T : TypeId) (hb : Box C lv w 0 basesC T) (i : Inst) (r : IRow) (t : V) (ht : t.wf) (hn : (1 ≤ r.name ∧ r.name ≤ 8) ∨ r.name = 33) (ha0 : 0 ≤ r.a) (ha1 : r.a ≤ 24) (hga : GetOkG T i r.a) (hgb : GetOkG T i r.b) (hp : ¬ (r.name = 8 ∨ r.name = 33) → PutOkG T i r.a)
    (hw2 : V.wf (((m.getM i r.a).plain (m.getV i r.a t)).getV i r.b t)) :
    Calls Tryz.prog 131 #[.pointer (some ⟨C.b, 0, none⟩), i.val, r.val, t.val] w fun e w' => e = .returned (.tuple #[]) ∧ After C lv w (m.sumM i r t r.name) w' := by
  obtain ⟨name, ra, rb, rm⟩ := r
  dsimp only at hn hga hgb hp ha0 ha1 hw2
  have nk15 : (name == 15) = false := by simp; omega
  have nk16 : (name == 16) = false := by simp; omega
  have nk84 : (name == 84) = false := by simp; omega
  have nk85 : (name == 85) = false := by simp; omega
  have nk63 : (name == 63) = false := by simp; omega
  have nk64 : (name == 64) = false := by simp; omega
  have nk65 : (name == 65) = false := by simp; omega
  have nk66 : (name == 66) = false := by simp; omega
  have nk67 : (name == 67) = false := by simp; omega
  have nk68 : (name == 68) = false := by simp; omega
  have nk69 : (name == 69) = false := by simp; omega
  have nk86 : (name == 86) = false := by simp; omega
  have nk87 : (name == 87) = false := by simp; omega
  have nk88 : (name == 88) = false := by simp; omega
  have nk89 : (name == 89) = false := by simp; omega
  have nk13 : (name == 13) = false := by simp; omega
  have nk14 : (name == 14) = false := by simp; omega
  have nk11 : (name == 11) = false := by simp; omega
  have nk12 : (name == 12) = false := by simp; omega
  have nk70 : (name == 70) = false := by simp; omega
  have nk71 : (name == 71) = false := by simp; omega
  have hs := st3 h i ⟨name, ra, rb, rm⟩ t
  have hvw := getV_wf h i ra ht
  rw [show m.sumM i ⟨name, ra, rb, rm⟩ t name = (let va := m.getV i ra t; let m2 := (m.getM i ra).plain va; let vb := m2.getV i rb t; let m4 := (m2.getM i rb).plain vb; let x := cutW va.v (wideB ra); let y := cutW vb.v (wideB ra); let c := ifI (andW m4.r.f 1 != 0) 1; (if name = 8 ∨ name = 33 then m4 else m4.putV i ra ⟨doV name x y c (wideB ra), false⟩).flagged (doF name x y c (wideB ra))) from rfl]
  dsimp only
  obtain ⟨va, hva⟩ : ∃ v, m.getV i ra t = v := ⟨_, rfl⟩
  obtain ⟨m1, hm1⟩ : ∃ m1, m.getM i ra = m1 := ⟨_, rfl⟩
  obtain ⟨m2, hm2⟩ : ∃ m2, m1.plain va = m2 := ⟨_, rfl⟩
  obtain ⟨vb, hvb⟩ : ∃ v, m2.getV i rb t = v := ⟨_, rfl⟩
  obtain ⟨m3, hm3⟩ : ∃ m3, m2.getM i rb = m3 := ⟨_, rfl⟩
  obtain ⟨m4, hm4⟩ : ∃ m4, m3.plain vb = m4 := ⟨_, rfl⟩
  rw [hm1, hva, hm2, hvb] at hw2
  rw [hva] at hvw
  rw [hm1, hva, hm2, hvb, hm3, hm4]
  have KW := Lib.hid (fun w => wide_any ra w ha0 ha1)
  have KF := Lib.hid (fun w => flag_any m4.r 1 w)
  have hdo := fun w => aluDo_any name va.v vb.v (andW m4.r.f 1 != 0) (wideB ra) w hn hvw.1 hvw.2 hw2.1 hw2.2
  have hov : V.wf ⟨doV name (cutW va.v (wideB ra)) (cutW vb.v (wideB ra)) (ifI (andW m4.r.f 1 != 0) 1) (wideB ra), false⟩ := doV_wf name _ _ _ (wideB ra)
  have KA := Lib.hid (St3.callsG (lv := lv) (w0 := w) (i := i) (r := ⟨name, ra, rb, rm⟩) (t := t) hb (fun w lv h hb => hm1 ▸ hva ▸ hga w C lv m h hb t))
  have KP := Lib.hid (St3.calls (lv := lv) (w0 := w) (i := i) (r := ⟨name, ra, rb, rm⟩) (t := t) (fun w lv h => hm2 ▸ plain_any w C lv m1 h va))
  have KB := Lib.hid (St3.callsG (lv := lv) (w0 := w) (i := i) (r := ⟨name, ra, rb, rm⟩) (t := t) hb (fun w lv h hb => hm3 ▸ hvb ▸ hgb w C lv m2 h hb t))
  have KQ := Lib.hid (St3.calls (lv := lv) (w0 := w) (i := i) (r := ⟨name, ra, rb, rm⟩) (t := t) (fun w lv h => hm4 ▸ plain_any w C lv m3 h vb))
  generalize doV name (cutW va.v (wideB ra)) (cutW vb.v (wideB ra)) (ifI (andW m4.r.f 1 != 0) 1) (wideB ra) = ov at hdo hov ⊢
  generalize doF name (cutW va.v (wideB ra)) (cutW vb.v (wideB ra)) (ifI (andW m4.r.f 1 != 0) 1) (wideB ra) = of at hdo ⊢
  generalize hcb : (andW m4.r.f 1 != 0) = cb at hdo KF
  obtain ⟨m5, hm5⟩ : ∃ m5, (if name = 8 ∨ name = 33 then m4 else m4.putV i ra ⟨ov, false⟩) = m5 := ⟨_, rfl⟩
  obtain ⟨m6, hm6⟩ : ∃ m6, m5.flagged of = m6 := ⟨_, rfl⟩
  rw [hm5, hm6]
  have HM5 := Lib.hid hm5
  have KU := Lib.hid (fun hc : ¬ (name = 8 ∨ name = 33) => St3.callsG (lv := lv) (w0 := w) (i := i) (r := ⟨name, ra, rb, rm⟩) (t := t) (m := m4) (m' := m5) (f := 179) (args := #[.pointer (some ⟨C.b, 0, none⟩), i.val, .int .i64 ra, V.val ⟨ov, false⟩]) (v := .tuple #[]) hb (fun w lv h hb => (show m4.putV i ra ⟨ov, false⟩ = m5 from by rw [← hm5, if_neg hc]) ▸ hp hc w C lv m4 h hb ⟨ov, false⟩ hov))
  have KS := Lib.hid (St3.calls (lv := lv) (w0 := w) (i := i) (r := ⟨name, ra, rb, rm⟩) (t := t) (fun w lv h => hm6 ▸ cset_any w C lv m5 h of))
  have KO := Lib.hid hdo
  generalize wideB ra = wd at KW KO
  clear h hb hga hgb hp hvb hva hm1 hm2 hm3 hm4 hm5 hm6 hvw ha0 ha1 hdo hov hw2 hcb hn
  have xi := hs.ci
  have xr := hs.cr
  have xt := hs.ct
  have sc := hs.sees.c
  go_enter Tryz.func131, Tryz.ntmps131
  go_wp2_with fail
  refine (KW.out _).mono ?_
  rintro e w' ⟨rfl, rfl⟩; dsimp only
  go_upto_region 4 with fail
  generalize ((w.alloc (.cells (instC i) 30)).alloc (.cells (rowC ⟨name, ra, rb, rm⟩) 47)).alloc (.cells (valC t) 24) = W0 at *
  have S0 := Lib.hid hs.drew
  clear hs sc
  go_cut [23, 24] (fun s23 s24 wx => s23 = .int .u16 va.v ∧ s24 = .int .u16 vb.v ∧ St3 C lv w i ⟨name, ra, rb, rm⟩ t m4 wx)
  case first =>
    go_region_held3 (fun w' => (∀ j, w'.cell? ⟨w.heap.size, j, none⟩ = (instC i)[j]?) ∧ (∀ j, w'.cell? ⟨w.heap.size + 1, j, none⟩ = (rowC ⟨name, ra, rb, rm⟩)[j]?) ∧ (∀ j, w'.cell? ⟨w.heap.size + 1 + 1, j, none⟩ = (valC t)[j]?)) (go_keep) (first | (go_at_call 66; with_reducible refine (KA.out _ ?_).mono ?_; (focus (refine Hid.out ?_; assumption)); rintro e w1 ⟨rfl, hq⟩; have y1 := hq.ci; have y2 := hq.cr; have y3 := hq.ct; have S1 := Lib.hid hq; clear hq) | (go_at_call 115; with_reducible refine (KP.out _ ?_).mono ?_; (focus (refine Hid.out ?_; assumption)); rintro e w2 ⟨rfl, hq⟩; have y4 := hq.ci; have y5 := hq.cr; have y6 := hq.ct; have S2 := Lib.hid hq; clear hq) | (go_at_call 66; with_reducible refine (KB.out _ ?_).mono ?_; (focus (refine Hid.out ?_; assumption)); rintro e w3 ⟨rfl, hq⟩; have y7 := hq.ci; have y8 := hq.cr; have y9 := hq.ct; have S3 := Lib.hid hq; clear hq) | (go_at_call 115; with_reducible refine (KQ.out _ ?_).mono ?_; (focus (refine Hid.out ?_; assumption)); rintro e w4 ⟨rfl, hq⟩; have z1 := hq.ci; have z2 := hq.cr; have z3 := hq.ct; have S4 := Lib.hid hq; clear hq))
    all_goals
      go_wp2_with fail
      go_meet
      exact ⟨rfl, rfl, S4.out⟩
  case rest =>
    obtain ⟨rfl, rfl, hq⟩ := hcut
    have S5 := Lib.hid hq.drew
    have xr := hq.drew.cr
    have sr := hq.drew.sees.r
    have sl := hq.drew.sees.l
    clear hq xi xt KA KP KB KQ S0
    go_upto_region 5 with fail
    go_cut [25, 26, 27] (fun s25 s26 s27 wx => s25 = .int .u16 ov ∧ s26 = .int .u16 of ∧ s27 = .bool true ∧ St3 C lv w i ⟨name, ra, rb, rm⟩ t m4 wx)
    case first =>
      go_region_held3 (fun w' => (∀ j, w'.cell? ⟨w.heap.size + 1, j, none⟩ = (rowC ⟨name, ra, rb, rm⟩)[j]?) ∧ regsIn w' C.b = some m4.r.val) ((refine ⟨?_, ?_⟩; (focus (go_keep)); (focus ((repeat (first | assumption | (rw [regsIn_drew]) | (rw [regsIn_alloc_past _ _ _ (by first | assumption | (simp; omega))]))); done)))) (first | (go_at_call 117; with_reducible refine (KF.out _).mono ?_; rintro e w1 ⟨rfl, hb1⟩; have S6 := Lib.hid (St3.below S5.out hb1); have y1 := S6.out.cr; have y2 := S6.out.sees.r; clear hb1) | (go_at_call 191; with_reducible refine (KO.out _).mono ?_; rintro e w' ⟨rfl, rfl⟩))
      all_goals
        go_wp2_with fail
        go_meet
        exact ⟨rfl, rfl, rfl, S6.out⟩
    case rest =>
    obtain ⟨rfl, rfl, rfl, hq⟩ := hcut
    have S6 := Lib.hid hq
    clear hq xr sr sl S5 KF KO
    clear nk15 nk16 nk84 nk85 nk63 nk64 nk65 nk66 nk67 nk68 nk69 nk86 nk87 nk88 nk89 nk13 nk14 nk11 nk12 nk70 nk71
    have xi := S6.out.ci
    have xr := S6.out.cr
    have xt := S6.out.ct
    by_cases hcmp : name = 8 ∨ name = 33
    · have S7 := S6.out
      rw [show m4 = m5 from by rw [← HM5.out, if_pos hcmp]] at S7
      have S7 := Lib.hid S7
      clear KU HM5
      rcases hcmp with rfl | rfl
      · go_wp2_with fail
        with_reducible refine (KS.out _ S7.out).mono ?_
        rintro e w8 ⟨rfl, hq⟩; dsimp only
        have S8 := Lib.hid hq
        clear hq xi xr xt
        go_wp2_with fail
        (first | go_end0 | (((try simp only [Exit.inBlock, Exit.then]); refine bodyPost_ret (results_none rfl _ _ _) rfl ?_)))
        exact ⟨rfl, S8.out.fin⟩
      · go_wp2_with fail
        with_reducible refine (KS.out _ S7.out).mono ?_
        rintro e w8 ⟨rfl, hq⟩; dsimp only
        have S8 := Lib.hid hq
        clear hq xi xr xt
        go_wp2_with fail
        (first | go_end0 | (((try simp only [Exit.inBlock, Exit.then]); refine bodyPost_ret (results_none rfl _ _ _) rfl ?_)))
        exact ⟨rfl, S8.out.fin⟩
    · have KU2 := Lib.hid (KU.out hcmp)
      have n8 : (name != 8) = true := by simp; omega
      have n33 : (name != 33) = true := by simp; omega
      clear KU HM5 hcmp
      go_wp2_with fail
      with_reducible refine (KU2.out _ S6.out).mono ?_
      rintro e w7 ⟨rfl, hq⟩; dsimp only
      have S7 := Lib.hid hq
      clear hq xi xr xt
      go_wp2_with fail
      with_reducible refine (KS.out _ S7.out).mono ?_
      rintro e w8 ⟨rfl, hq⟩; dsimp only
      have S8 := Lib.hid hq
      clear hq
      go_wp2_with fail
      (first | go_end0 | (((try simp only [Exit.inBlock, Exit.then]); refine bodyPost_ret (results_none rfl _ _ _) rfl ?_)))
      exact ⟨rfl, S8.out.fin⟩
end Go.Proofs.YtcglkefaopgjeaaGreatDoor

/- Package cpu: numbers, of one operand: walks. -/
namespace Go.Proofs.YtcglkefaopgjeaaGreatDoor
set_option linter.unusedSimpArgs false
set_option linter.unusedVariables false
open Go.RowKit

set_option maxRecDepth 100000 in
set_option maxHeartbeats 3200000 in
theorem numbers_15 (w : World) (C : Phys) (lv : Value) (m : Mach) (h : Own w C lv m) (T : TypeId) (hb : Box C lv w 0 basesC T) (i : Inst) (r : IRow) (t : V) (ht : t.wf) (hn : r.name = 15) (ha0 : 0 ≤ r.a) (ha1 : r.a ≤ 24) (hg : GetOkG T i r.a) (hp : PutOkG T i r.a) :
    Calls Tryz.prog 131 #[.pointer (some ⟨C.b, 0, none⟩), i.val, r.val, t.val] w fun e w' => e = .returned (.tuple #[]) ∧ After C lv w ((((m.getM i r.a).plain (m.getV i r.a t)).putV i r.a ⟨oneV 15 (cutW (m.getV i r.a t).v (wideB r.a)) (wideB r.a), false⟩).flagged (oneF 15 (cutW (m.getV i r.a t).v (wideB r.a)) (andW m.r.f 2261) (wideB r.a))) w' := by
  obtain ⟨name, ra, rb, rm⟩ := r
  dsimp only at hn hg hp ha0 ha1
  subst hn
  have hs := st3 h i ⟨15, ra, rb, rm⟩ t
  have hvw := getV_wf h i ra ht
  dsimp only
  obtain ⟨v, hv⟩ : ∃ v, m.getV i ra t = v := ⟨_, rfl⟩
  obtain ⟨m1, hm1⟩ : ∃ m1, m.getM i ra = m1 := ⟨_, rfl⟩
  obtain ⟨m2, hm2⟩ : ∃ m2, m1.plain v = m2 := ⟨_, rfl⟩
  rw [hv] at hvw
  rw [hm1, hv, hm2]
  have KW := Lib.hid (fun w => wide_any ra w ha0 ha1)
  have hone := fun w => one_any 15 v.v (andW m.r.f 2261) (wideB ra) w (by decide) hvw.1 hvw.2 (w_and_lo _ _) (w_and_hi _ _)
  have hov := oneV_wf 15 v.v (wideB ra) hvw.1 hvw.2
  have KA := Lib.hid (St3.callsG (lv := lv) (w0 := w) (i := i) (r := ⟨15, ra, rb, rm⟩) (t := t) hb (fun w lv h hb => hm1 ▸ hv ▸ hg w C lv m h hb t))
  have KP := Lib.hid (St3.calls (lv := lv) (w0 := w) (i := i) (r := ⟨15, ra, rb, rm⟩) (t := t) (fun w lv h => hm2 ▸ plain_any w C lv m1 h v))
  generalize oneV 15 (cutW v.v (wideB ra)) (wideB ra) = ov at hone hov ⊢
  generalize oneF 15 (cutW v.v (wideB ra)) (andW m.r.f 2261) (wideB ra) = of at hone ⊢
  obtain ⟨m3, hm3⟩ : ∃ m3, m2.putV i ra ⟨ov, false⟩ = m3 := ⟨_, rfl⟩
  obtain ⟨m4, hm4⟩ : ∃ m4, m3.flagged of = m4 := ⟨_, rfl⟩
  rw [hm3, hm4]
  have KU := Lib.hid (St3.callsG (lv := lv) (w0 := w) (i := i) (r := ⟨15, ra, rb, rm⟩) (t := t) hb (fun w lv h hb => hm3 ▸ hp w C lv m2 h hb ⟨ov, false⟩ hov))
  have KS := Lib.hid (St3.calls (lv := lv) (w0 := w) (i := i) (r := ⟨15, ra, rb, rm⟩) (t := t) (fun w lv h => hm4 ▸ cset_any w C lv m3 h of))
  have KO := Lib.hid hone
  generalize wideB ra = wd at KW KO
  clear h hb hg hp hv hm1 hm2 hm3 hm4 hvw ha0 ha1 hone hov
  have xi := hs.ci
  have xr := hs.cr
  have xt := hs.ct
  have sc := hs.sees.c
  go_enter Tryz.func131, Tryz.ntmps131
  go_wp2_with fail
  refine (KW.out _).mono ?_
  rintro e w' ⟨rfl, rfl⟩; dsimp only
  go_upto_region 13 with fail
  generalize ((w.alloc (.cells (instC i) 30)).alloc (.cells (rowC ⟨15, ra, rb, rm⟩) 47)).alloc (.cells (valC t) 24) = W0 at *
  have S0 := Lib.hid hs.drew
  clear hs sc
  go_region_held3 (fun w' => (∀ j, w'.cell? ⟨w.heap.size, j, none⟩ = (instC i)[j]?) ∧ (∀ j, w'.cell? ⟨w.heap.size + 1, j, none⟩ = (rowC ⟨15, ra, rb, rm⟩)[j]?) ∧ (∀ j, w'.cell? ⟨w.heap.size + 1 + 1, j, none⟩ = (valC t)[j]?)) (go_keep) (first | (go_at_call 66; with_reducible refine (KA.out _ ?_).mono ?_; (focus (refine Hid.out ?_; assumption)); rintro e w1 ⟨rfl, hq⟩; have y1 := hq.ci; have y2 := hq.cr; have y3 := hq.ct; have S1 := Lib.hid hq; clear hq) | (go_at_call 115; with_reducible refine (KP.out _ ?_).mono ?_; (focus (refine Hid.out ?_; assumption)); rintro e w2 ⟨rfl, hq⟩; have y4 := hq.ci; have y5 := hq.cr; have y6 := hq.ct; have S2 := Lib.hid hq; clear hq) | (go_at_call 184; with_reducible refine (KO.out _).mono ?_; rintro e w' ⟨rfl, rfl⟩))
  all_goals
    go_wp2_with fail
    with_reducible refine (KU.out _ S2.out).mono ?_
    rintro e w3 ⟨rfl, hq⟩; dsimp only
    have S3 := Lib.hid hq
    clear hq
    go_wp2_with fail
    with_reducible refine (KS.out _ S3.out).mono ?_
    rintro e w4 ⟨rfl, hq⟩; dsimp only
    have S4 := Lib.hid hq
    clear hq
    go_wp2_with fail
    (first | go_end0 | (((try simp only [Exit.inBlock, Exit.then]); refine bodyPost_ret (results_none rfl _ _ _) rfl ?_)))
    exact ⟨rfl, S4.out.fin⟩
set_option maxRecDepth 100000 in
set_option maxHeartbeats 3200000 in
theorem numbers_16 (w : World) (C : Phys) (lv : Value) (m : Mach) (h : Own w C lv m) (T : TypeId) (hb : Box C lv w 0 basesC T) (i : Inst) (r : IRow) (t : V) (ht : t.wf) (hn : r.name = 16) (ha0 : 0 ≤ r.a) (ha1 : r.a ≤ 24) (hg : GetOkG T i r.a) (hp : PutOkG T i r.a) :
    Calls Tryz.prog 131 #[.pointer (some ⟨C.b, 0, none⟩), i.val, r.val, t.val] w fun e w' => e = .returned (.tuple #[]) ∧ After C lv w ((((m.getM i r.a).plain (m.getV i r.a t)).putV i r.a ⟨oneV 16 (cutW (m.getV i r.a t).v (wideB r.a)) (wideB r.a), false⟩).flagged (oneF 16 (cutW (m.getV i r.a t).v (wideB r.a)) (andW m.r.f 2261) (wideB r.a))) w' := by
  obtain ⟨name, ra, rb, rm⟩ := r
  dsimp only at hn hg hp ha0 ha1
  subst hn
  have hs := st3 h i ⟨16, ra, rb, rm⟩ t
  have hvw := getV_wf h i ra ht
  dsimp only
  obtain ⟨v, hv⟩ : ∃ v, m.getV i ra t = v := ⟨_, rfl⟩
  obtain ⟨m1, hm1⟩ : ∃ m1, m.getM i ra = m1 := ⟨_, rfl⟩
  obtain ⟨m2, hm2⟩ : ∃ m2, m1.plain v = m2 := ⟨_, rfl⟩
  rw [hv] at hvw
  rw [hm1, hv, hm2]
  have KW := Lib.hid (fun w => wide_any ra w ha0 ha1)
  have hone := fun w => one_any 16 v.v (andW m.r.f 2261) (wideB ra) w (by decide) hvw.1 hvw.2 (w_and_lo _ _) (w_and_hi _ _)
  have hov := oneV_wf 16 v.v (wideB ra) hvw.1 hvw.2
  have KA := Lib.hid (St3.callsG (lv := lv) (w0 := w) (i := i) (r := ⟨16, ra, rb, rm⟩) (t := t) hb (fun w lv h hb => hm1 ▸ hv ▸ hg w C lv m h hb t))
  have KP := Lib.hid (St3.calls (lv := lv) (w0 := w) (i := i) (r := ⟨16, ra, rb, rm⟩) (t := t) (fun w lv h => hm2 ▸ plain_any w C lv m1 h v))
  generalize oneV 16 (cutW v.v (wideB ra)) (wideB ra) = ov at hone hov ⊢
  generalize oneF 16 (cutW v.v (wideB ra)) (andW m.r.f 2261) (wideB ra) = of at hone ⊢
  obtain ⟨m3, hm3⟩ : ∃ m3, m2.putV i ra ⟨ov, false⟩ = m3 := ⟨_, rfl⟩
  obtain ⟨m4, hm4⟩ : ∃ m4, m3.flagged of = m4 := ⟨_, rfl⟩
  rw [hm3, hm4]
  have KU := Lib.hid (St3.callsG (lv := lv) (w0 := w) (i := i) (r := ⟨16, ra, rb, rm⟩) (t := t) hb (fun w lv h hb => hm3 ▸ hp w C lv m2 h hb ⟨ov, false⟩ hov))
  have KS := Lib.hid (St3.calls (lv := lv) (w0 := w) (i := i) (r := ⟨16, ra, rb, rm⟩) (t := t) (fun w lv h => hm4 ▸ cset_any w C lv m3 h of))
  have KO := Lib.hid hone
  generalize wideB ra = wd at KW KO
  clear h hb hg hp hv hm1 hm2 hm3 hm4 hvw ha0 ha1 hone hov
  have xi := hs.ci
  have xr := hs.cr
  have xt := hs.ct
  have sc := hs.sees.c
  go_enter Tryz.func131, Tryz.ntmps131
  go_wp2_with fail
  refine (KW.out _).mono ?_
  rintro e w' ⟨rfl, rfl⟩; dsimp only
  go_upto_region 13 with fail
  generalize ((w.alloc (.cells (instC i) 30)).alloc (.cells (rowC ⟨16, ra, rb, rm⟩) 47)).alloc (.cells (valC t) 24) = W0 at *
  have S0 := Lib.hid hs.drew
  clear hs sc
  go_region_held3 (fun w' => (∀ j, w'.cell? ⟨w.heap.size, j, none⟩ = (instC i)[j]?) ∧ (∀ j, w'.cell? ⟨w.heap.size + 1, j, none⟩ = (rowC ⟨16, ra, rb, rm⟩)[j]?) ∧ (∀ j, w'.cell? ⟨w.heap.size + 1 + 1, j, none⟩ = (valC t)[j]?)) (go_keep) (first | (go_at_call 66; with_reducible refine (KA.out _ ?_).mono ?_; (focus (refine Hid.out ?_; assumption)); rintro e w1 ⟨rfl, hq⟩; have y1 := hq.ci; have y2 := hq.cr; have y3 := hq.ct; have S1 := Lib.hid hq; clear hq) | (go_at_call 115; with_reducible refine (KP.out _ ?_).mono ?_; (focus (refine Hid.out ?_; assumption)); rintro e w2 ⟨rfl, hq⟩; have y4 := hq.ci; have y5 := hq.cr; have y6 := hq.ct; have S2 := Lib.hid hq; clear hq) | (go_at_call 184; with_reducible refine (KO.out _).mono ?_; rintro e w' ⟨rfl, rfl⟩))
  all_goals
    go_wp2_with fail
    with_reducible refine (KU.out _ S2.out).mono ?_
    rintro e w3 ⟨rfl, hq⟩; dsimp only
    have S3 := Lib.hid hq
    clear hq
    go_wp2_with fail
    with_reducible refine (KS.out _ S3.out).mono ?_
    rintro e w4 ⟨rfl, hq⟩; dsimp only
    have S4 := Lib.hid hq
    clear hq
    go_wp2_with fail
    (first | go_end0 | (((try simp only [Exit.inBlock, Exit.then]); refine bodyPost_ret (results_none rfl _ _ _) rfl ?_)))
    exact ⟨rfl, S4.out.fin⟩
set_option maxRecDepth 100000 in
set_option maxHeartbeats 3200000 in
theorem numbers_84 (w : World) (C : Phys) (lv : Value) (m : Mach) (h : Own w C lv m) (T : TypeId) (hb : Box C lv w 0 basesC T) (i : Inst) (r : IRow) (t : V) (ht : t.wf) (hn : r.name = 84) (ha0 : 0 ≤ r.a) (ha1 : r.a ≤ 24) (hg : GetOkG T i r.a) (hp : PutOkG T i r.a) :
    Calls Tryz.prog 131 #[.pointer (some ⟨C.b, 0, none⟩), i.val, r.val, t.val] w fun e w' => e = .returned (.tuple #[]) ∧ After C lv w ((((m.getM i r.a).plain (m.getV i r.a t)).putV i r.a ⟨oneV 84 (cutW (m.getV i r.a t).v (wideB r.a)) (wideB r.a), false⟩).flagged (oneF 84 (cutW (m.getV i r.a t).v (wideB r.a)) (andW m.r.f 2261) (wideB r.a))) w' := by
  obtain ⟨name, ra, rb, rm⟩ := r
  dsimp only at hn hg hp ha0 ha1
  subst hn
  have hs := st3 h i ⟨84, ra, rb, rm⟩ t
  have hvw := getV_wf h i ra ht
  dsimp only
  obtain ⟨v, hv⟩ : ∃ v, m.getV i ra t = v := ⟨_, rfl⟩
  obtain ⟨m1, hm1⟩ : ∃ m1, m.getM i ra = m1 := ⟨_, rfl⟩
  obtain ⟨m2, hm2⟩ : ∃ m2, m1.plain v = m2 := ⟨_, rfl⟩
  rw [hv] at hvw
  rw [hm1, hv, hm2]
  have KW := Lib.hid (fun w => wide_any ra w ha0 ha1)
  have hone := fun w => one_any 84 v.v (andW m.r.f 2261) (wideB ra) w (by decide) hvw.1 hvw.2 (w_and_lo _ _) (w_and_hi _ _)
  have hov := oneV_wf 84 v.v (wideB ra) hvw.1 hvw.2
  have KA := Lib.hid (St3.callsG (lv := lv) (w0 := w) (i := i) (r := ⟨84, ra, rb, rm⟩) (t := t) hb (fun w lv h hb => hm1 ▸ hv ▸ hg w C lv m h hb t))
  have KP := Lib.hid (St3.calls (lv := lv) (w0 := w) (i := i) (r := ⟨84, ra, rb, rm⟩) (t := t) (fun w lv h => hm2 ▸ plain_any w C lv m1 h v))
  generalize oneV 84 (cutW v.v (wideB ra)) (wideB ra) = ov at hone hov ⊢
  generalize oneF 84 (cutW v.v (wideB ra)) (andW m.r.f 2261) (wideB ra) = of at hone ⊢
  obtain ⟨m3, hm3⟩ : ∃ m3, m2.putV i ra ⟨ov, false⟩ = m3 := ⟨_, rfl⟩
  obtain ⟨m4, hm4⟩ : ∃ m4, m3.flagged of = m4 := ⟨_, rfl⟩
  rw [hm3, hm4]
  have KU := Lib.hid (St3.callsG (lv := lv) (w0 := w) (i := i) (r := ⟨84, ra, rb, rm⟩) (t := t) hb (fun w lv h hb => hm3 ▸ hp w C lv m2 h hb ⟨ov, false⟩ hov))
  have KS := Lib.hid (St3.calls (lv := lv) (w0 := w) (i := i) (r := ⟨84, ra, rb, rm⟩) (t := t) (fun w lv h => hm4 ▸ cset_any w C lv m3 h of))
  have KO := Lib.hid hone
  generalize wideB ra = wd at KW KO
  clear h hb hg hp hv hm1 hm2 hm3 hm4 hvw ha0 ha1 hone hov
  have xi := hs.ci
  have xr := hs.cr
  have xt := hs.ct
  have sc := hs.sees.c
  go_enter Tryz.func131, Tryz.ntmps131
  go_wp2_with fail
  refine (KW.out _).mono ?_
  rintro e w' ⟨rfl, rfl⟩; dsimp only
  go_upto_region 13 with fail
  generalize ((w.alloc (.cells (instC i) 30)).alloc (.cells (rowC ⟨84, ra, rb, rm⟩) 47)).alloc (.cells (valC t) 24) = W0 at *
  have S0 := Lib.hid hs.drew
  clear hs sc
  go_region_held3 (fun w' => (∀ j, w'.cell? ⟨w.heap.size, j, none⟩ = (instC i)[j]?) ∧ (∀ j, w'.cell? ⟨w.heap.size + 1, j, none⟩ = (rowC ⟨84, ra, rb, rm⟩)[j]?) ∧ (∀ j, w'.cell? ⟨w.heap.size + 1 + 1, j, none⟩ = (valC t)[j]?)) (go_keep) (first | (go_at_call 66; with_reducible refine (KA.out _ ?_).mono ?_; (focus (refine Hid.out ?_; assumption)); rintro e w1 ⟨rfl, hq⟩; have y1 := hq.ci; have y2 := hq.cr; have y3 := hq.ct; have S1 := Lib.hid hq; clear hq) | (go_at_call 115; with_reducible refine (KP.out _ ?_).mono ?_; (focus (refine Hid.out ?_; assumption)); rintro e w2 ⟨rfl, hq⟩; have y4 := hq.ci; have y5 := hq.cr; have y6 := hq.ct; have S2 := Lib.hid hq; clear hq) | (go_at_call 184; with_reducible refine (KO.out _).mono ?_; rintro e w' ⟨rfl, rfl⟩))
  all_goals
    go_wp2_with fail
    with_reducible refine (KU.out _ S2.out).mono ?_
    rintro e w3 ⟨rfl, hq⟩; dsimp only
    have S3 := Lib.hid hq
    clear hq
    go_wp2_with fail
    with_reducible refine (KS.out _ S3.out).mono ?_
    rintro e w4 ⟨rfl, hq⟩; dsimp only
    have S4 := Lib.hid hq
    clear hq
    go_wp2_with fail
    (first | go_end0 | (((try simp only [Exit.inBlock, Exit.then]); refine bodyPost_ret (results_none rfl _ _ _) rfl ?_)))
    exact ⟨rfl, S4.out.fin⟩
set_option maxRecDepth 100000 in
set_option maxHeartbeats 3200000 in
theorem numbers_85 (w : World) (C : Phys) (lv : Value) (m : Mach) (h : Own w C lv m) (T : TypeId) (hb : Box C lv w 0 basesC T) (i : Inst) (r : IRow) (t : V) (ht : t.wf) (hn : r.name = 85) (ha0 : 0 ≤ r.a) (ha1 : r.a ≤ 24) (hg : GetOkG T i r.a) (hp : PutOkG T i r.a) :
    Calls Tryz.prog 131 #[.pointer (some ⟨C.b, 0, none⟩), i.val, r.val, t.val] w fun e w' => e = .returned (.tuple #[]) ∧ After C lv w ((((m.getM i r.a).plain (m.getV i r.a t)).putV i r.a ⟨oneV 85 (cutW (m.getV i r.a t).v (wideB r.a)) (wideB r.a), false⟩).flagged (oneF 85 (cutW (m.getV i r.a t).v (wideB r.a)) (andW m.r.f 2261) (wideB r.a))) w' := by
  obtain ⟨name, ra, rb, rm⟩ := r
  dsimp only at hn hg hp ha0 ha1
  subst hn
  have hs := st3 h i ⟨85, ra, rb, rm⟩ t
  have hvw := getV_wf h i ra ht
  dsimp only
  obtain ⟨v, hv⟩ : ∃ v, m.getV i ra t = v := ⟨_, rfl⟩
  obtain ⟨m1, hm1⟩ : ∃ m1, m.getM i ra = m1 := ⟨_, rfl⟩
  obtain ⟨m2, hm2⟩ : ∃ m2, m1.plain v = m2 := ⟨_, rfl⟩
  rw [hv] at hvw
  rw [hm1, hv, hm2]
  have KW := Lib.hid (fun w => wide_any ra w ha0 ha1)
  have hone := fun w => one_any 85 v.v (andW m.r.f 2261) (wideB ra) w (by decide) hvw.1 hvw.2 (w_and_lo _ _) (w_and_hi _ _)
  have hov := oneV_wf 85 v.v (wideB ra) hvw.1 hvw.2
  have KA := Lib.hid (St3.callsG (lv := lv) (w0 := w) (i := i) (r := ⟨85, ra, rb, rm⟩) (t := t) hb (fun w lv h hb => hm1 ▸ hv ▸ hg w C lv m h hb t))
  have KP := Lib.hid (St3.calls (lv := lv) (w0 := w) (i := i) (r := ⟨85, ra, rb, rm⟩) (t := t) (fun w lv h => hm2 ▸ plain_any w C lv m1 h v))
  generalize oneV 85 (cutW v.v (wideB ra)) (wideB ra) = ov at hone hov ⊢
  generalize oneF 85 (cutW v.v (wideB ra)) (andW m.r.f 2261) (wideB ra) = of at hone ⊢
  obtain ⟨m3, hm3⟩ : ∃ m3, m2.putV i ra ⟨ov, false⟩ = m3 := ⟨_, rfl⟩
  obtain ⟨m4, hm4⟩ : ∃ m4, m3.flagged of = m4 := ⟨_, rfl⟩
  rw [hm3, hm4]
  have KU := Lib.hid (St3.callsG (lv := lv) (w0 := w) (i := i) (r := ⟨85, ra, rb, rm⟩) (t := t) hb (fun w lv h hb => hm3 ▸ hp w C lv m2 h hb ⟨ov, false⟩ hov))
  have KS := Lib.hid (St3.calls (lv := lv) (w0 := w) (i := i) (r := ⟨85, ra, rb, rm⟩) (t := t) (fun w lv h => hm4 ▸ cset_any w C lv m3 h of))
  have KO := Lib.hid hone
  generalize wideB ra = wd at KW KO
  clear h hb hg hp hv hm1 hm2 hm3 hm4 hvw ha0 ha1 hone hov
  have xi := hs.ci
  have xr := hs.cr
  have xt := hs.ct
  have sc := hs.sees.c
  go_enter Tryz.func131, Tryz.ntmps131
  go_wp2_with fail
  refine (KW.out _).mono ?_
  rintro e w' ⟨rfl, rfl⟩; dsimp only
  go_upto_region 13 with fail
  generalize ((w.alloc (.cells (instC i) 30)).alloc (.cells (rowC ⟨85, ra, rb, rm⟩) 47)).alloc (.cells (valC t) 24) = W0 at *
  have S0 := Lib.hid hs.drew
  clear hs sc
  go_region_held3 (fun w' => (∀ j, w'.cell? ⟨w.heap.size, j, none⟩ = (instC i)[j]?) ∧ (∀ j, w'.cell? ⟨w.heap.size + 1, j, none⟩ = (rowC ⟨85, ra, rb, rm⟩)[j]?) ∧ (∀ j, w'.cell? ⟨w.heap.size + 1 + 1, j, none⟩ = (valC t)[j]?)) (go_keep) (first | (go_at_call 66; with_reducible refine (KA.out _ ?_).mono ?_; (focus (refine Hid.out ?_; assumption)); rintro e w1 ⟨rfl, hq⟩; have y1 := hq.ci; have y2 := hq.cr; have y3 := hq.ct; have S1 := Lib.hid hq; clear hq) | (go_at_call 115; with_reducible refine (KP.out _ ?_).mono ?_; (focus (refine Hid.out ?_; assumption)); rintro e w2 ⟨rfl, hq⟩; have y4 := hq.ci; have y5 := hq.cr; have y6 := hq.ct; have S2 := Lib.hid hq; clear hq) | (go_at_call 184; with_reducible refine (KO.out _).mono ?_; rintro e w' ⟨rfl, rfl⟩))
  all_goals
    go_wp2_with fail
    with_reducible refine (KU.out _ S2.out).mono ?_
    rintro e w3 ⟨rfl, hq⟩; dsimp only
    have S3 := Lib.hid hq
    clear hq
    go_wp2_with fail
    with_reducible refine (KS.out _ S3.out).mono ?_
    rintro e w4 ⟨rfl, hq⟩; dsimp only
    have S4 := Lib.hid hq
    clear hq
    go_wp2_with fail
    (first | go_end0 | (((try simp only [Exit.inBlock, Exit.then]); refine bodyPost_ret (results_none rfl _ _ _) rfl ?_)))
    exact ⟨rfl, S4.out.fin⟩
end Go.Proofs.YtcglkefaopgjeaaGreatDoor

/- Package shift: Do at no step; package cpu: numbers, of shifts: walks. -/
namespace Go.Proofs.YtcglkefaopgjeaaGreatDoor
set_option linter.unusedSimpArgs false
set_option linter.unusedVariables false
open Go.RowKit

/-- The flags behind so many steps; behind none as they were. -/
def shG (name x f0 : Int) (wide : Bool) (n : Nat) : Int := if n = 0 then f0 else shF name f0 (shP name x f0 wide n) wide
set_option maxRecDepth 100000 in
set_option maxHeartbeats 800000 in
theorem shDo_zero (name v was : Int) (wide : Bool) (w : World) (hn : 63 ≤ name ∧ name ≤ 69) (v0 : 0 ≤ v) (v1 : v ≤ 65535) :
    Calls Tryz.prog 186 #[.int .i64 name, .int .u16 v, .int .u8 0, .int .u16 was, .bool wide] w fun e w' => e = .returned (.tuple #[.int .u16 (cutW v wide), .int .u16 (andW was 2261), .bool true]) ∧ w = w' := by
  have KC := Lib.hid (fun w => aluCut_any v wide w v0 v1)
  generalize cutW v wide = x at KC ⊢
  have g1 : ¬ name < 63 := by omega
  have g2 : ¬ 69 < name := by omega
  go_enter Tryz.func186, Tryz.ntmps186
  go_wp2_with fail
  refine (KC.out _).mono ?_
  rintro e w' ⟨rfl, rfl⟩; dsimp only
  go_wp2_with fail
  go_ret3
  exact ⟨rfl, rfl⟩
theorem shAll_any (name v was : Int) (n : Nat) (wide : Bool) (w : World) (hn : 63 ≤ name ∧ name ≤ 69) (v0 : 0 ≤ v) (v1 : v ≤ 65535) (n1 : n ≤ 255) :
    Calls Tryz.prog 186 #[.int .i64 name, .int .u16 v, .int .u8 (n : Int), .int .u16 was, .bool wide] w fun e w' => e = .returned (.tuple #[.int .u16 (shP name (cutW v wide) (andW was 2261) wide n).1, .int .u16 (shG name (cutW v wide) (andW was 2261) wide n), .bool true]) ∧ Below w.heap.size w w' := by
  by_cases h : n = 0
  · subst h
    refine (shDo_zero name v was wide w hn v0 v1).mono ?_
    rintro e w' ⟨rfl, rfl⟩
    exact ⟨rfl, Below.refl _ _⟩
  · have := shDo_any name v was n wide w hn v0 v1 n1 (by omega)
    rwa [show shF name (andW was 2261) (shP name (cutW v wide) (andW was 2261) wide n) wide = shG name (cutW v wide) (andW was 2261) wide n by rw [shG, if_neg h]] at this
/-- The machine behind a shift. -/
def Mach.shiftM (m : Mach) (i : Inst) (r : IRow) (t : V) (name : Int) : Mach :=
  let vb := m.getV i r.b t
  let m2 := (m.getM i r.b).plain vb
  let va := m2.getV i r.a t
  let x := cutW va.v (wideB r.a)
  let f0 := andW (andW m.r.f 2261) 2261
  (((m2.getM i r.a).plain va).putV i r.a ⟨(shP name x f0 (wideB r.a) (vb.v % 256).toNat).1, false⟩).flagged (shG name x f0 (wideB r.a) (vb.v % 256).toNat)

set_option maxRecDepth 100000 in
set_option maxHeartbeats 3200000 in
theorem numbers_63 (w : World) (C : Phys) (lv : Value) (m : Mach) (h : Own w C lv m) (T : TypeId) (hb : Box C lv w 0 basesC T) (i : Inst) (r : IRow) (t : V) (ht : t.wf) (hn : r.name = 63) (ha0 : 0 ≤ r.a) (ha1 : r.a ≤ 24) (hgb : GetOkG T i r.b) (hg : GetOkG T i r.a) (hp : PutOkG T i r.a)
    (hw2 : V.wf (((m.getM i r.b).plain (m.getV i r.b t)).getV i r.a t)) :
    Calls Tryz.prog 131 #[.pointer (some ⟨C.b, 0, none⟩), i.val, r.val, t.val] w fun e w' => e = .returned (.tuple #[]) ∧ After C lv w (m.shiftM i r t 63) w' := by
  obtain ⟨name, ra, rb, rm⟩ := r
  dsimp only at hn hg hgb hp ha0 ha1 hw2
  subst hn
  have hs := st3 h i ⟨63, ra, rb, rm⟩ t
  have hvw := getV_wf h i rb ht
  rw [show m.shiftM i ⟨63, ra, rb, rm⟩ t 63 = (let vb := m.getV i rb t; let m2 := (m.getM i rb).plain vb; let va := m2.getV i ra t; let x := cutW va.v (wideB ra); let f0 := andW (andW m.r.f 2261) 2261; ((((m2.getM i ra).plain va).putV i ra ⟨(shP 63 x f0 (wideB ra) (vb.v % 256).toNat).1, false⟩).flagged (shG 63 x f0 (wideB ra) (vb.v % 256).toNat))) from rfl]
  dsimp only
  obtain ⟨vb, hvb⟩ : ∃ v, m.getV i rb t = v := ⟨_, rfl⟩
  obtain ⟨m1, hm1⟩ : ∃ m1, m.getM i rb = m1 := ⟨_, rfl⟩
  obtain ⟨m2, hm2⟩ : ∃ m2, m1.plain vb = m2 := ⟨_, rfl⟩
  obtain ⟨va, hva⟩ : ∃ v, m2.getV i ra t = v := ⟨_, rfl⟩
  obtain ⟨m3, hm3⟩ : ∃ m3, m2.getM i ra = m3 := ⟨_, rfl⟩
  obtain ⟨m4, hm4⟩ : ∃ m4, m3.plain va = m4 := ⟨_, rfl⟩
  rw [hm1, hvb, hm2, hva] at hw2
  rw [hvb] at hvw
  rw [hm1, hvb, hm2, hva, hm3, hm4]
  have KW := Lib.hid (fun w => wide_any ra w ha0 ha1)
  have hnb : 0 ≤ vb.v % 256 ∧ vb.v % 256 ≤ 255 := by omega
  have KL := Lib.hid (fun w => low_any vb.v w hvw.1 hvw.2)
  obtain ⟨n, hn⟩ : ∃ n : Nat, vb.v % 256 = n := ⟨(vb.v % 256).toNat, by omega⟩
  rw [hn] at KL hnb ⊢
  rw [show ((n : Nat) : Int).toNat = n from Int.toNat_natCast n]
  have hsh := fun w => shAll_any 63 va.v (andW m.r.f 2261) n (wideB ra) w (by decide) hw2.1 hw2.2 (by omega)
  have hxw := cut_in va.v (wideB ra) hw2.1 hw2.2
  have hsw := (shP_wf 63 (cutW va.v (wideB ra)) (andW (andW m.r.f 2261) 2261) (wideB ra) hxw.1 hxw.2 n).1
  have hov : V.wf ⟨(shP 63 (cutW va.v (wideB ra)) (andW (andW m.r.f 2261) 2261) (wideB ra) n).1, false⟩ := ⟨hsw.1, by have := top_le (wideB ra); show (shP 63 (cutW va.v (wideB ra)) (andW (andW m.r.f 2261) 2261) (wideB ra) n).1 ≤ 65535; omega⟩
  have KB := Lib.hid (St3.callsG (lv := lv) (w0 := w) (i := i) (r := ⟨63, ra, rb, rm⟩) (t := t) hb (fun w lv h hb => hm1 ▸ hvb ▸ hgb w C lv m h hb t))
  have KQ := Lib.hid (St3.calls (lv := lv) (w0 := w) (i := i) (r := ⟨63, ra, rb, rm⟩) (t := t) (fun w lv h => hm2 ▸ plain_any w C lv m1 h vb))
  have KA := Lib.hid (St3.callsG (lv := lv) (w0 := w) (i := i) (r := ⟨63, ra, rb, rm⟩) (t := t) hb (fun w lv h hb => hm3 ▸ hva ▸ hg w C lv m2 h hb t))
  have KP := Lib.hid (St3.calls (lv := lv) (w0 := w) (i := i) (r := ⟨63, ra, rb, rm⟩) (t := t) (fun w lv h => hm4 ▸ plain_any w C lv m3 h va))
  generalize (shP 63 (cutW va.v (wideB ra)) (andW (andW m.r.f 2261) 2261) (wideB ra) n).1 = ov at hsh hov ⊢
  generalize shG 63 (cutW va.v (wideB ra)) (andW (andW m.r.f 2261) 2261) (wideB ra) n = of at hsh ⊢
  obtain ⟨m5, hm5⟩ : ∃ m5, m4.putV i ra ⟨ov, false⟩ = m5 := ⟨_, rfl⟩
  obtain ⟨m6, hm6⟩ : ∃ m6, m5.flagged of = m6 := ⟨_, rfl⟩
  rw [hm5, hm6]
  have KU := Lib.hid (St3.callsG (lv := lv) (w0 := w) (i := i) (r := ⟨63, ra, rb, rm⟩) (t := t) hb (fun w lv h hb => hm5 ▸ hp w C lv m4 h hb ⟨ov, false⟩ hov))
  have KS := Lib.hid (St3.calls (lv := lv) (w0 := w) (i := i) (r := ⟨63, ra, rb, rm⟩) (t := t) (fun w lv h => hm6 ▸ cset_any w C lv m5 h of))
  have KO := Lib.hid hsh
  generalize wideB ra = wd at KW KO
  clear h hb hg hgb hp hvb hva hm1 hm2 hm3 hm4 hm5 hm6 hvw ha0 ha1 hsh hov hsw hxw hw2 hn
  have xi := hs.ci
  have xr := hs.cr
  have xt := hs.ct
  have sc := hs.sees.c
  go_enter Tryz.func131, Tryz.ntmps131
  go_wp2_with fail
  refine (KW.out _).mono ?_
  rintro e w' ⟨rfl, rfl⟩; dsimp only
  go_upto_region 23 with fail
  generalize ((w.alloc (.cells (instC i) 30)).alloc (.cells (rowC ⟨63, ra, rb, rm⟩) 47)).alloc (.cells (valC t) 24) = W0 at *
  have S9 := Lib.hid hs
  clear hs sc
  go_wp2_with fail
  with_reducible refine (KB.out _ S9.out).mono ?_
  clear xi xr xt
  rintro e w8 ⟨rfl, hq⟩; dsimp only
  have S8 := Lib.hid hq
  clear hq
  go_wp2_with fail
  with_reducible refine (KQ.out _ S8.out).mono ?_
  rintro e w9 ⟨rfl, hq⟩; dsimp only
  have xi := hq.ci
  have xr := hq.cr
  have xt := hq.ct
  have S0 := Lib.hid hq.drew
  clear hq S8 S9
  go_upto_region 24 with fail
  go_region_held3 (fun w' => (∀ j, w'.cell? ⟨w.heap.size, j, none⟩ = (instC i)[j]?) ∧ (∀ j, w'.cell? ⟨w.heap.size + 1, j, none⟩ = (rowC ⟨63, ra, rb, rm⟩)[j]?) ∧ (∀ j, w'.cell? ⟨w.heap.size + 1 + 1, j, none⟩ = (valC t)[j]?)) (go_keep) (first | (go_at_call 66; with_reducible refine (KA.out _ ?_).mono ?_; (focus (refine Hid.out ?_; assumption)); rintro e w1 ⟨rfl, hq⟩; have y1 := hq.ci; have y2 := hq.cr; have y3 := hq.ct; have S1 := Lib.hid hq; clear hq) | (go_at_call 115; with_reducible refine (KP.out _ ?_).mono ?_; (focus (refine Hid.out ?_; assumption)); rintro e w2 ⟨rfl, hq⟩; have y4 := hq.ci; have y5 := hq.cr; have y6 := hq.ct; have S2 := Lib.hid hq; clear hq) | (go_at_call 85; with_reducible refine (KL.out _).mono ?_; rintro e w' ⟨rfl, rfl⟩) | (go_at_call 186; with_reducible refine (KO.out _).mono ?_; rintro e w7 ⟨rfl, hb7⟩; have S3 := Lib.hid (St3.below S2.out hb7); have z1 := S3.out.ci; have z2 := S3.out.cr; have z3 := S3.out.ct; clear hb7))
  all_goals
    go_wp2_with fail
    with_reducible refine (KU.out _ S3.out).mono ?_
    rintro e w3 ⟨rfl, hq⟩; dsimp only
    have S5 := Lib.hid hq
    clear hq
    go_wp2_with fail
    with_reducible refine (KS.out _ S5.out).mono ?_
    rintro e w4 ⟨rfl, hq⟩; dsimp only
    have S6 := Lib.hid hq
    clear hq
    go_wp2_with fail
    (first | go_end0 | (((try simp only [Exit.inBlock, Exit.then]); refine bodyPost_ret (results_none rfl _ _ _) rfl ?_)))
    exact ⟨rfl, S6.out.fin⟩
set_option maxRecDepth 100000 in
set_option maxHeartbeats 3200000 in
theorem numbers_64 (w : World) (C : Phys) (lv : Value) (m : Mach) (h : Own w C lv m) (T : TypeId) (hb : Box C lv w 0 basesC T) (i : Inst) (r : IRow) (t : V) (ht : t.wf) (hn : r.name = 64) (ha0 : 0 ≤ r.a) (ha1 : r.a ≤ 24) (hgb : GetOkG T i r.b) (hg : GetOkG T i r.a) (hp : PutOkG T i r.a)
    (hw2 : V.wf (((m.getM i r.b).plain (m.getV i r.b t)).getV i r.a t)) :
    Calls Tryz.prog 131 #[.pointer (some ⟨C.b, 0, none⟩), i.val, r.val, t.val] w fun e w' => e = .returned (.tuple #[]) ∧ After C lv w (m.shiftM i r t 64) w' := by
  obtain ⟨name, ra, rb, rm⟩ := r
  dsimp only at hn hg hgb hp ha0 ha1 hw2
  subst hn
  have hs := st3 h i ⟨64, ra, rb, rm⟩ t
  have hvw := getV_wf h i rb ht
  rw [show m.shiftM i ⟨64, ra, rb, rm⟩ t 64 = (let vb := m.getV i rb t; let m2 := (m.getM i rb).plain vb; let va := m2.getV i ra t; let x := cutW va.v (wideB ra); let f0 := andW (andW m.r.f 2261) 2261; ((((m2.getM i ra).plain va).putV i ra ⟨(shP 64 x f0 (wideB ra) (vb.v % 256).toNat).1, false⟩).flagged (shG 64 x f0 (wideB ra) (vb.v % 256).toNat))) from rfl]
  dsimp only
  obtain ⟨vb, hvb⟩ : ∃ v, m.getV i rb t = v := ⟨_, rfl⟩
  obtain ⟨m1, hm1⟩ : ∃ m1, m.getM i rb = m1 := ⟨_, rfl⟩
  obtain ⟨m2, hm2⟩ : ∃ m2, m1.plain vb = m2 := ⟨_, rfl⟩
  obtain ⟨va, hva⟩ : ∃ v, m2.getV i ra t = v := ⟨_, rfl⟩
  obtain ⟨m3, hm3⟩ : ∃ m3, m2.getM i ra = m3 := ⟨_, rfl⟩
  obtain ⟨m4, hm4⟩ : ∃ m4, m3.plain va = m4 := ⟨_, rfl⟩
  rw [hm1, hvb, hm2, hva] at hw2
  rw [hvb] at hvw
  rw [hm1, hvb, hm2, hva, hm3, hm4]
  have KW := Lib.hid (fun w => wide_any ra w ha0 ha1)
  have hnb : 0 ≤ vb.v % 256 ∧ vb.v % 256 ≤ 255 := by omega
  have KL := Lib.hid (fun w => low_any vb.v w hvw.1 hvw.2)
  obtain ⟨n, hn⟩ : ∃ n : Nat, vb.v % 256 = n := ⟨(vb.v % 256).toNat, by omega⟩
  rw [hn] at KL hnb ⊢
  rw [show ((n : Nat) : Int).toNat = n from Int.toNat_natCast n]
  have hsh := fun w => shAll_any 64 va.v (andW m.r.f 2261) n (wideB ra) w (by decide) hw2.1 hw2.2 (by omega)
  have hxw := cut_in va.v (wideB ra) hw2.1 hw2.2
  have hsw := (shP_wf 64 (cutW va.v (wideB ra)) (andW (andW m.r.f 2261) 2261) (wideB ra) hxw.1 hxw.2 n).1
  have hov : V.wf ⟨(shP 64 (cutW va.v (wideB ra)) (andW (andW m.r.f 2261) 2261) (wideB ra) n).1, false⟩ := ⟨hsw.1, by have := top_le (wideB ra); show (shP 64 (cutW va.v (wideB ra)) (andW (andW m.r.f 2261) 2261) (wideB ra) n).1 ≤ 65535; omega⟩
  have KB := Lib.hid (St3.callsG (lv := lv) (w0 := w) (i := i) (r := ⟨64, ra, rb, rm⟩) (t := t) hb (fun w lv h hb => hm1 ▸ hvb ▸ hgb w C lv m h hb t))
  have KQ := Lib.hid (St3.calls (lv := lv) (w0 := w) (i := i) (r := ⟨64, ra, rb, rm⟩) (t := t) (fun w lv h => hm2 ▸ plain_any w C lv m1 h vb))
  have KA := Lib.hid (St3.callsG (lv := lv) (w0 := w) (i := i) (r := ⟨64, ra, rb, rm⟩) (t := t) hb (fun w lv h hb => hm3 ▸ hva ▸ hg w C lv m2 h hb t))
  have KP := Lib.hid (St3.calls (lv := lv) (w0 := w) (i := i) (r := ⟨64, ra, rb, rm⟩) (t := t) (fun w lv h => hm4 ▸ plain_any w C lv m3 h va))
  generalize (shP 64 (cutW va.v (wideB ra)) (andW (andW m.r.f 2261) 2261) (wideB ra) n).1 = ov at hsh hov ⊢
  generalize shG 64 (cutW va.v (wideB ra)) (andW (andW m.r.f 2261) 2261) (wideB ra) n = of at hsh ⊢
  obtain ⟨m5, hm5⟩ : ∃ m5, m4.putV i ra ⟨ov, false⟩ = m5 := ⟨_, rfl⟩
  obtain ⟨m6, hm6⟩ : ∃ m6, m5.flagged of = m6 := ⟨_, rfl⟩
  rw [hm5, hm6]
  have KU := Lib.hid (St3.callsG (lv := lv) (w0 := w) (i := i) (r := ⟨64, ra, rb, rm⟩) (t := t) hb (fun w lv h hb => hm5 ▸ hp w C lv m4 h hb ⟨ov, false⟩ hov))
  have KS := Lib.hid (St3.calls (lv := lv) (w0 := w) (i := i) (r := ⟨64, ra, rb, rm⟩) (t := t) (fun w lv h => hm6 ▸ cset_any w C lv m5 h of))
  have KO := Lib.hid hsh
  generalize wideB ra = wd at KW KO
  clear h hb hg hgb hp hvb hva hm1 hm2 hm3 hm4 hm5 hm6 hvw ha0 ha1 hsh hov hsw hxw hw2 hn
  have xi := hs.ci
  have xr := hs.cr
  have xt := hs.ct
  have sc := hs.sees.c
  go_enter Tryz.func131, Tryz.ntmps131
  go_wp2_with fail
  refine (KW.out _).mono ?_
  rintro e w' ⟨rfl, rfl⟩; dsimp only
  go_upto_region 23 with fail
  generalize ((w.alloc (.cells (instC i) 30)).alloc (.cells (rowC ⟨64, ra, rb, rm⟩) 47)).alloc (.cells (valC t) 24) = W0 at *
  have S9 := Lib.hid hs
  clear hs sc
  go_wp2_with fail
  with_reducible refine (KB.out _ S9.out).mono ?_
  clear xi xr xt
  rintro e w8 ⟨rfl, hq⟩; dsimp only
  have S8 := Lib.hid hq
  clear hq
  go_wp2_with fail
  with_reducible refine (KQ.out _ S8.out).mono ?_
  rintro e w9 ⟨rfl, hq⟩; dsimp only
  have xi := hq.ci
  have xr := hq.cr
  have xt := hq.ct
  have S0 := Lib.hid hq.drew
  clear hq S8 S9
  go_upto_region 24 with fail
  go_region_held3 (fun w' => (∀ j, w'.cell? ⟨w.heap.size, j, none⟩ = (instC i)[j]?) ∧ (∀ j, w'.cell? ⟨w.heap.size + 1, j, none⟩ = (rowC ⟨64, ra, rb, rm⟩)[j]?) ∧ (∀ j, w'.cell? ⟨w.heap.size + 1 + 1, j, none⟩ = (valC t)[j]?)) (go_keep) (first | (go_at_call 66; with_reducible refine (KA.out _ ?_).mono ?_; (focus (refine Hid.out ?_; assumption)); rintro e w1 ⟨rfl, hq⟩; have y1 := hq.ci; have y2 := hq.cr; have y3 := hq.ct; have S1 := Lib.hid hq; clear hq) | (go_at_call 115; with_reducible refine (KP.out _ ?_).mono ?_; (focus (refine Hid.out ?_; assumption)); rintro e w2 ⟨rfl, hq⟩; have y4 := hq.ci; have y5 := hq.cr; have y6 := hq.ct; have S2 := Lib.hid hq; clear hq) | (go_at_call 85; with_reducible refine (KL.out _).mono ?_; rintro e w' ⟨rfl, rfl⟩) | (go_at_call 186; with_reducible refine (KO.out _).mono ?_; rintro e w7 ⟨rfl, hb7⟩; have S3 := Lib.hid (St3.below S2.out hb7); have z1 := S3.out.ci; have z2 := S3.out.cr; have z3 := S3.out.ct; clear hb7))
  all_goals
    go_wp2_with fail
    with_reducible refine (KU.out _ S3.out).mono ?_
    rintro e w3 ⟨rfl, hq⟩; dsimp only
    have S5 := Lib.hid hq
    clear hq
    go_wp2_with fail
    with_reducible refine (KS.out _ S5.out).mono ?_
    rintro e w4 ⟨rfl, hq⟩; dsimp only
    have S6 := Lib.hid hq
    clear hq
    go_wp2_with fail
    (first | go_end0 | (((try simp only [Exit.inBlock, Exit.then]); refine bodyPost_ret (results_none rfl _ _ _) rfl ?_)))
    exact ⟨rfl, S6.out.fin⟩
set_option maxRecDepth 100000 in
set_option maxHeartbeats 3200000 in
theorem numbers_65 (w : World) (C : Phys) (lv : Value) (m : Mach) (h : Own w C lv m) (T : TypeId) (hb : Box C lv w 0 basesC T) (i : Inst) (r : IRow) (t : V) (ht : t.wf) (hn : r.name = 65) (ha0 : 0 ≤ r.a) (ha1 : r.a ≤ 24) (hgb : GetOkG T i r.b) (hg : GetOkG T i r.a) (hp : PutOkG T i r.a)
    (hw2 : V.wf (((m.getM i r.b).plain (m.getV i r.b t)).getV i r.a t)) :
    Calls Tryz.prog 131 #[.pointer (some ⟨C.b, 0, none⟩), i.val, r.val, t.val] w fun e w' => e = .returned (.tuple #[]) ∧ After C lv w (m.shiftM i r t 65) w' := by
  obtain ⟨name, ra, rb, rm⟩ := r
  dsimp only at hn hg hgb hp ha0 ha1 hw2
  subst hn
  have hs := st3 h i ⟨65, ra, rb, rm⟩ t
  have hvw := getV_wf h i rb ht
  rw [show m.shiftM i ⟨65, ra, rb, rm⟩ t 65 = (let vb := m.getV i rb t; let m2 := (m.getM i rb).plain vb; let va := m2.getV i ra t; let x := cutW va.v (wideB ra); let f0 := andW (andW m.r.f 2261) 2261; ((((m2.getM i ra).plain va).putV i ra ⟨(shP 65 x f0 (wideB ra) (vb.v % 256).toNat).1, false⟩).flagged (shG 65 x f0 (wideB ra) (vb.v % 256).toNat))) from rfl]
  dsimp only
  obtain ⟨vb, hvb⟩ : ∃ v, m.getV i rb t = v := ⟨_, rfl⟩
  obtain ⟨m1, hm1⟩ : ∃ m1, m.getM i rb = m1 := ⟨_, rfl⟩
  obtain ⟨m2, hm2⟩ : ∃ m2, m1.plain vb = m2 := ⟨_, rfl⟩
  obtain ⟨va, hva⟩ : ∃ v, m2.getV i ra t = v := ⟨_, rfl⟩
  obtain ⟨m3, hm3⟩ : ∃ m3, m2.getM i ra = m3 := ⟨_, rfl⟩
  obtain ⟨m4, hm4⟩ : ∃ m4, m3.plain va = m4 := ⟨_, rfl⟩
  rw [hm1, hvb, hm2, hva] at hw2
  rw [hvb] at hvw
  rw [hm1, hvb, hm2, hva, hm3, hm4]
  have KW := Lib.hid (fun w => wide_any ra w ha0 ha1)
  have hnb : 0 ≤ vb.v % 256 ∧ vb.v % 256 ≤ 255 := by omega
  have KL := Lib.hid (fun w => low_any vb.v w hvw.1 hvw.2)
  obtain ⟨n, hn⟩ : ∃ n : Nat, vb.v % 256 = n := ⟨(vb.v % 256).toNat, by omega⟩
  rw [hn] at KL hnb ⊢
  rw [show ((n : Nat) : Int).toNat = n from Int.toNat_natCast n]
  have hsh := fun w => shAll_any 65 va.v (andW m.r.f 2261) n (wideB ra) w (by decide) hw2.1 hw2.2 (by omega)
  have hxw := cut_in va.v (wideB ra) hw2.1 hw2.2
  have hsw := (shP_wf 65 (cutW va.v (wideB ra)) (andW (andW m.r.f 2261) 2261) (wideB ra) hxw.1 hxw.2 n).1
  have hov : V.wf ⟨(shP 65 (cutW va.v (wideB ra)) (andW (andW m.r.f 2261) 2261) (wideB ra) n).1, false⟩ := ⟨hsw.1, by have := top_le (wideB ra); show (shP 65 (cutW va.v (wideB ra)) (andW (andW m.r.f 2261) 2261) (wideB ra) n).1 ≤ 65535; omega⟩
  have KB := Lib.hid (St3.callsG (lv := lv) (w0 := w) (i := i) (r := ⟨65, ra, rb, rm⟩) (t := t) hb (fun w lv h hb => hm1 ▸ hvb ▸ hgb w C lv m h hb t))
  have KQ := Lib.hid (St3.calls (lv := lv) (w0 := w) (i := i) (r := ⟨65, ra, rb, rm⟩) (t := t) (fun w lv h => hm2 ▸ plain_any w C lv m1 h vb))
  have KA := Lib.hid (St3.callsG (lv := lv) (w0 := w) (i := i) (r := ⟨65, ra, rb, rm⟩) (t := t) hb (fun w lv h hb => hm3 ▸ hva ▸ hg w C lv m2 h hb t))
  have KP := Lib.hid (St3.calls (lv := lv) (w0 := w) (i := i) (r := ⟨65, ra, rb, rm⟩) (t := t) (fun w lv h => hm4 ▸ plain_any w C lv m3 h va))
  generalize (shP 65 (cutW va.v (wideB ra)) (andW (andW m.r.f 2261) 2261) (wideB ra) n).1 = ov at hsh hov ⊢
  generalize shG 65 (cutW va.v (wideB ra)) (andW (andW m.r.f 2261) 2261) (wideB ra) n = of at hsh ⊢
  obtain ⟨m5, hm5⟩ : ∃ m5, m4.putV i ra ⟨ov, false⟩ = m5 := ⟨_, rfl⟩
  obtain ⟨m6, hm6⟩ : ∃ m6, m5.flagged of = m6 := ⟨_, rfl⟩
  rw [hm5, hm6]
  have KU := Lib.hid (St3.callsG (lv := lv) (w0 := w) (i := i) (r := ⟨65, ra, rb, rm⟩) (t := t) hb (fun w lv h hb => hm5 ▸ hp w C lv m4 h hb ⟨ov, false⟩ hov))
  have KS := Lib.hid (St3.calls (lv := lv) (w0 := w) (i := i) (r := ⟨65, ra, rb, rm⟩) (t := t) (fun w lv h => hm6 ▸ cset_any w C lv m5 h of))
  have KO := Lib.hid hsh
  generalize wideB ra = wd at KW KO
  clear h hb hg hgb hp hvb hva hm1 hm2 hm3 hm4 hm5 hm6 hvw ha0 ha1 hsh hov hsw hxw hw2 hn
  have xi := hs.ci
  have xr := hs.cr
  have xt := hs.ct
  have sc := hs.sees.c
  go_enter Tryz.func131, Tryz.ntmps131
  go_wp2_with fail
  refine (KW.out _).mono ?_
  rintro e w' ⟨rfl, rfl⟩; dsimp only
  go_upto_region 23 with fail
  generalize ((w.alloc (.cells (instC i) 30)).alloc (.cells (rowC ⟨65, ra, rb, rm⟩) 47)).alloc (.cells (valC t) 24) = W0 at *
  have S9 := Lib.hid hs
  clear hs sc
  go_wp2_with fail
  with_reducible refine (KB.out _ S9.out).mono ?_
  clear xi xr xt
  rintro e w8 ⟨rfl, hq⟩; dsimp only
  have S8 := Lib.hid hq
  clear hq
  go_wp2_with fail
  with_reducible refine (KQ.out _ S8.out).mono ?_
  rintro e w9 ⟨rfl, hq⟩; dsimp only
  have xi := hq.ci
  have xr := hq.cr
  have xt := hq.ct
  have S0 := Lib.hid hq.drew
  clear hq S8 S9
  go_upto_region 24 with fail
  go_region_held3 (fun w' => (∀ j, w'.cell? ⟨w.heap.size, j, none⟩ = (instC i)[j]?) ∧ (∀ j, w'.cell? ⟨w.heap.size + 1, j, none⟩ = (rowC ⟨65, ra, rb, rm⟩)[j]?) ∧ (∀ j, w'.cell? ⟨w.heap.size + 1 + 1, j, none⟩ = (valC t)[j]?)) (go_keep) (first | (go_at_call 66; with_reducible refine (KA.out _ ?_).mono ?_; (focus (refine Hid.out ?_; assumption)); rintro e w1 ⟨rfl, hq⟩; have y1 := hq.ci; have y2 := hq.cr; have y3 := hq.ct; have S1 := Lib.hid hq; clear hq) | (go_at_call 115; with_reducible refine (KP.out _ ?_).mono ?_; (focus (refine Hid.out ?_; assumption)); rintro e w2 ⟨rfl, hq⟩; have y4 := hq.ci; have y5 := hq.cr; have y6 := hq.ct; have S2 := Lib.hid hq; clear hq) | (go_at_call 85; with_reducible refine (KL.out _).mono ?_; rintro e w' ⟨rfl, rfl⟩) | (go_at_call 186; with_reducible refine (KO.out _).mono ?_; rintro e w7 ⟨rfl, hb7⟩; have S3 := Lib.hid (St3.below S2.out hb7); have z1 := S3.out.ci; have z2 := S3.out.cr; have z3 := S3.out.ct; clear hb7))
  all_goals
    go_wp2_with fail
    with_reducible refine (KU.out _ S3.out).mono ?_
    rintro e w3 ⟨rfl, hq⟩; dsimp only
    have S5 := Lib.hid hq
    clear hq
    go_wp2_with fail
    with_reducible refine (KS.out _ S5.out).mono ?_
    rintro e w4 ⟨rfl, hq⟩; dsimp only
    have S6 := Lib.hid hq
    clear hq
    go_wp2_with fail
    (first | go_end0 | (((try simp only [Exit.inBlock, Exit.then]); refine bodyPost_ret (results_none rfl _ _ _) rfl ?_)))
    exact ⟨rfl, S6.out.fin⟩
set_option maxRecDepth 100000 in
set_option maxHeartbeats 3200000 in
theorem numbers_66 (w : World) (C : Phys) (lv : Value) (m : Mach) (h : Own w C lv m) (T : TypeId) (hb : Box C lv w 0 basesC T) (i : Inst) (r : IRow) (t : V) (ht : t.wf) (hn : r.name = 66) (ha0 : 0 ≤ r.a) (ha1 : r.a ≤ 24) (hgb : GetOkG T i r.b) (hg : GetOkG T i r.a) (hp : PutOkG T i r.a)
    (hw2 : V.wf (((m.getM i r.b).plain (m.getV i r.b t)).getV i r.a t)) :
    Calls Tryz.prog 131 #[.pointer (some ⟨C.b, 0, none⟩), i.val, r.val, t.val] w fun e w' => e = .returned (.tuple #[]) ∧ After C lv w (m.shiftM i r t 66) w' := by
  obtain ⟨name, ra, rb, rm⟩ := r
  dsimp only at hn hg hgb hp ha0 ha1 hw2
  subst hn
  have hs := st3 h i ⟨66, ra, rb, rm⟩ t
  have hvw := getV_wf h i rb ht
  rw [show m.shiftM i ⟨66, ra, rb, rm⟩ t 66 = (let vb := m.getV i rb t; let m2 := (m.getM i rb).plain vb; let va := m2.getV i ra t; let x := cutW va.v (wideB ra); let f0 := andW (andW m.r.f 2261) 2261; ((((m2.getM i ra).plain va).putV i ra ⟨(shP 66 x f0 (wideB ra) (vb.v % 256).toNat).1, false⟩).flagged (shG 66 x f0 (wideB ra) (vb.v % 256).toNat))) from rfl]
  dsimp only
  obtain ⟨vb, hvb⟩ : ∃ v, m.getV i rb t = v := ⟨_, rfl⟩
  obtain ⟨m1, hm1⟩ : ∃ m1, m.getM i rb = m1 := ⟨_, rfl⟩
  obtain ⟨m2, hm2⟩ : ∃ m2, m1.plain vb = m2 := ⟨_, rfl⟩
  obtain ⟨va, hva⟩ : ∃ v, m2.getV i ra t = v := ⟨_, rfl⟩
  obtain ⟨m3, hm3⟩ : ∃ m3, m2.getM i ra = m3 := ⟨_, rfl⟩
  obtain ⟨m4, hm4⟩ : ∃ m4, m3.plain va = m4 := ⟨_, rfl⟩
  rw [hm1, hvb, hm2, hva] at hw2
  rw [hvb] at hvw
  rw [hm1, hvb, hm2, hva, hm3, hm4]
  have KW := Lib.hid (fun w => wide_any ra w ha0 ha1)
  have hnb : 0 ≤ vb.v % 256 ∧ vb.v % 256 ≤ 255 := by omega
  have KL := Lib.hid (fun w => low_any vb.v w hvw.1 hvw.2)
  obtain ⟨n, hn⟩ : ∃ n : Nat, vb.v % 256 = n := ⟨(vb.v % 256).toNat, by omega⟩
  rw [hn] at KL hnb ⊢
  rw [show ((n : Nat) : Int).toNat = n from Int.toNat_natCast n]
  have hsh := fun w => shAll_any 66 va.v (andW m.r.f 2261) n (wideB ra) w (by decide) hw2.1 hw2.2 (by omega)
  have hxw := cut_in va.v (wideB ra) hw2.1 hw2.2
  have hsw := (shP_wf 66 (cutW va.v (wideB ra)) (andW (andW m.r.f 2261) 2261) (wideB ra) hxw.1 hxw.2 n).1
  have hov : V.wf ⟨(shP 66 (cutW va.v (wideB ra)) (andW (andW m.r.f 2261) 2261) (wideB ra) n).1, false⟩ := ⟨hsw.1, by have := top_le (wideB ra); show (shP 66 (cutW va.v (wideB ra)) (andW (andW m.r.f 2261) 2261) (wideB ra) n).1 ≤ 65535; omega⟩
  have KB := Lib.hid (St3.callsG (lv := lv) (w0 := w) (i := i) (r := ⟨66, ra, rb, rm⟩) (t := t) hb (fun w lv h hb => hm1 ▸ hvb ▸ hgb w C lv m h hb t))
  have KQ := Lib.hid (St3.calls (lv := lv) (w0 := w) (i := i) (r := ⟨66, ra, rb, rm⟩) (t := t) (fun w lv h => hm2 ▸ plain_any w C lv m1 h vb))
  have KA := Lib.hid (St3.callsG (lv := lv) (w0 := w) (i := i) (r := ⟨66, ra, rb, rm⟩) (t := t) hb (fun w lv h hb => hm3 ▸ hva ▸ hg w C lv m2 h hb t))
  have KP := Lib.hid (St3.calls (lv := lv) (w0 := w) (i := i) (r := ⟨66, ra, rb, rm⟩) (t := t) (fun w lv h => hm4 ▸ plain_any w C lv m3 h va))
  generalize (shP 66 (cutW va.v (wideB ra)) (andW (andW m.r.f 2261) 2261) (wideB ra) n).1 = ov at hsh hov ⊢
  generalize shG 66 (cutW va.v (wideB ra)) (andW (andW m.r.f 2261) 2261) (wideB ra) n = of at hsh ⊢
  obtain ⟨m5, hm5⟩ : ∃ m5, m4.putV i ra ⟨ov, false⟩ = m5 := ⟨_, rfl⟩
  obtain ⟨m6, hm6⟩ : ∃ m6, m5.flagged of = m6 := ⟨_, rfl⟩
  rw [hm5, hm6]
  have KU := Lib.hid (St3.callsG (lv := lv) (w0 := w) (i := i) (r := ⟨66, ra, rb, rm⟩) (t := t) hb (fun w lv h hb => hm5 ▸ hp w C lv m4 h hb ⟨ov, false⟩ hov))
  have KS := Lib.hid (St3.calls (lv := lv) (w0 := w) (i := i) (r := ⟨66, ra, rb, rm⟩) (t := t) (fun w lv h => hm6 ▸ cset_any w C lv m5 h of))
  have KO := Lib.hid hsh
  generalize wideB ra = wd at KW KO
  clear h hb hg hgb hp hvb hva hm1 hm2 hm3 hm4 hm5 hm6 hvw ha0 ha1 hsh hov hsw hxw hw2 hn
  have xi := hs.ci
  have xr := hs.cr
  have xt := hs.ct
  have sc := hs.sees.c
  go_enter Tryz.func131, Tryz.ntmps131
  go_wp2_with fail
  refine (KW.out _).mono ?_
  rintro e w' ⟨rfl, rfl⟩; dsimp only
  go_upto_region 23 with fail
  generalize ((w.alloc (.cells (instC i) 30)).alloc (.cells (rowC ⟨66, ra, rb, rm⟩) 47)).alloc (.cells (valC t) 24) = W0 at *
  have S9 := Lib.hid hs
  clear hs sc
  go_wp2_with fail
  with_reducible refine (KB.out _ S9.out).mono ?_
  clear xi xr xt
  rintro e w8 ⟨rfl, hq⟩; dsimp only
  have S8 := Lib.hid hq
  clear hq
  go_wp2_with fail
  with_reducible refine (KQ.out _ S8.out).mono ?_
  rintro e w9 ⟨rfl, hq⟩; dsimp only
  have xi := hq.ci
  have xr := hq.cr
  have xt := hq.ct
  have S0 := Lib.hid hq.drew
  clear hq S8 S9
  go_upto_region 24 with fail
  go_region_held3 (fun w' => (∀ j, w'.cell? ⟨w.heap.size, j, none⟩ = (instC i)[j]?) ∧ (∀ j, w'.cell? ⟨w.heap.size + 1, j, none⟩ = (rowC ⟨66, ra, rb, rm⟩)[j]?) ∧ (∀ j, w'.cell? ⟨w.heap.size + 1 + 1, j, none⟩ = (valC t)[j]?)) (go_keep) (first | (go_at_call 66; with_reducible refine (KA.out _ ?_).mono ?_; (focus (refine Hid.out ?_; assumption)); rintro e w1 ⟨rfl, hq⟩; have y1 := hq.ci; have y2 := hq.cr; have y3 := hq.ct; have S1 := Lib.hid hq; clear hq) | (go_at_call 115; with_reducible refine (KP.out _ ?_).mono ?_; (focus (refine Hid.out ?_; assumption)); rintro e w2 ⟨rfl, hq⟩; have y4 := hq.ci; have y5 := hq.cr; have y6 := hq.ct; have S2 := Lib.hid hq; clear hq) | (go_at_call 85; with_reducible refine (KL.out _).mono ?_; rintro e w' ⟨rfl, rfl⟩) | (go_at_call 186; with_reducible refine (KO.out _).mono ?_; rintro e w7 ⟨rfl, hb7⟩; have S3 := Lib.hid (St3.below S2.out hb7); have z1 := S3.out.ci; have z2 := S3.out.cr; have z3 := S3.out.ct; clear hb7))
  all_goals
    go_wp2_with fail
    with_reducible refine (KU.out _ S3.out).mono ?_
    rintro e w3 ⟨rfl, hq⟩; dsimp only
    have S5 := Lib.hid hq
    clear hq
    go_wp2_with fail
    with_reducible refine (KS.out _ S5.out).mono ?_
    rintro e w4 ⟨rfl, hq⟩; dsimp only
    have S6 := Lib.hid hq
    clear hq
    go_wp2_with fail
    (first | go_end0 | (((try simp only [Exit.inBlock, Exit.then]); refine bodyPost_ret (results_none rfl _ _ _) rfl ?_)))
    exact ⟨rfl, S6.out.fin⟩
set_option maxRecDepth 100000 in
set_option maxHeartbeats 3200000 in
theorem numbers_67 (w : World) (C : Phys) (lv : Value) (m : Mach) (h : Own w C lv m) (T : TypeId) (hb : Box C lv w 0 basesC T) (i : Inst) (r : IRow) (t : V) (ht : t.wf) (hn : r.name = 67) (ha0 : 0 ≤ r.a) (ha1 : r.a ≤ 24) (hgb : GetOkG T i r.b) (hg : GetOkG T i r.a) (hp : PutOkG T i r.a)
    (hw2 : V.wf (((m.getM i r.b).plain (m.getV i r.b t)).getV i r.a t)) :
    Calls Tryz.prog 131 #[.pointer (some ⟨C.b, 0, none⟩), i.val, r.val, t.val] w fun e w' => e = .returned (.tuple #[]) ∧ After C lv w (m.shiftM i r t 67) w' := by
  obtain ⟨name, ra, rb, rm⟩ := r
  dsimp only at hn hg hgb hp ha0 ha1 hw2
  subst hn
  have hs := st3 h i ⟨67, ra, rb, rm⟩ t
  have hvw := getV_wf h i rb ht
  rw [show m.shiftM i ⟨67, ra, rb, rm⟩ t 67 = (let vb := m.getV i rb t; let m2 := (m.getM i rb).plain vb; let va := m2.getV i ra t; let x := cutW va.v (wideB ra); let f0 := andW (andW m.r.f 2261) 2261; ((((m2.getM i ra).plain va).putV i ra ⟨(shP 67 x f0 (wideB ra) (vb.v % 256).toNat).1, false⟩).flagged (shG 67 x f0 (wideB ra) (vb.v % 256).toNat))) from rfl]
  dsimp only
  obtain ⟨vb, hvb⟩ : ∃ v, m.getV i rb t = v := ⟨_, rfl⟩
  obtain ⟨m1, hm1⟩ : ∃ m1, m.getM i rb = m1 := ⟨_, rfl⟩
  obtain ⟨m2, hm2⟩ : ∃ m2, m1.plain vb = m2 := ⟨_, rfl⟩
  obtain ⟨va, hva⟩ : ∃ v, m2.getV i ra t = v := ⟨_, rfl⟩
  obtain ⟨m3, hm3⟩ : ∃ m3, m2.getM i ra = m3 := ⟨_, rfl⟩
  obtain ⟨m4, hm4⟩ : ∃ m4, m3.plain va = m4 := ⟨_, rfl⟩
  rw [hm1, hvb, hm2, hva] at hw2
  rw [hvb] at hvw
  rw [hm1, hvb, hm2, hva, hm3, hm4]
  have KW := Lib.hid (fun w => wide_any ra w ha0 ha1)
  have hnb : 0 ≤ vb.v % 256 ∧ vb.v % 256 ≤ 255 := by omega
  have KL := Lib.hid (fun w => low_any vb.v w hvw.1 hvw.2)
  obtain ⟨n, hn⟩ : ∃ n : Nat, vb.v % 256 = n := ⟨(vb.v % 256).toNat, by omega⟩
  rw [hn] at KL hnb ⊢
  rw [show ((n : Nat) : Int).toNat = n from Int.toNat_natCast n]
  have hsh := fun w => shAll_any 67 va.v (andW m.r.f 2261) n (wideB ra) w (by decide) hw2.1 hw2.2 (by omega)
  have hxw := cut_in va.v (wideB ra) hw2.1 hw2.2
  have hsw := (shP_wf 67 (cutW va.v (wideB ra)) (andW (andW m.r.f 2261) 2261) (wideB ra) hxw.1 hxw.2 n).1
  have hov : V.wf ⟨(shP 67 (cutW va.v (wideB ra)) (andW (andW m.r.f 2261) 2261) (wideB ra) n).1, false⟩ := ⟨hsw.1, by have := top_le (wideB ra); show (shP 67 (cutW va.v (wideB ra)) (andW (andW m.r.f 2261) 2261) (wideB ra) n).1 ≤ 65535; omega⟩
  have KB := Lib.hid (St3.callsG (lv := lv) (w0 := w) (i := i) (r := ⟨67, ra, rb, rm⟩) (t := t) hb (fun w lv h hb => hm1 ▸ hvb ▸ hgb w C lv m h hb t))
  have KQ := Lib.hid (St3.calls (lv := lv) (w0 := w) (i := i) (r := ⟨67, ra, rb, rm⟩) (t := t) (fun w lv h => hm2 ▸ plain_any w C lv m1 h vb))
  have KA := Lib.hid (St3.callsG (lv := lv) (w0 := w) (i := i) (r := ⟨67, ra, rb, rm⟩) (t := t) hb (fun w lv h hb => hm3 ▸ hva ▸ hg w C lv m2 h hb t))
  have KP := Lib.hid (St3.calls (lv := lv) (w0 := w) (i := i) (r := ⟨67, ra, rb, rm⟩) (t := t) (fun w lv h => hm4 ▸ plain_any w C lv m3 h va))
  generalize (shP 67 (cutW va.v (wideB ra)) (andW (andW m.r.f 2261) 2261) (wideB ra) n).1 = ov at hsh hov ⊢
  generalize shG 67 (cutW va.v (wideB ra)) (andW (andW m.r.f 2261) 2261) (wideB ra) n = of at hsh ⊢
  obtain ⟨m5, hm5⟩ : ∃ m5, m4.putV i ra ⟨ov, false⟩ = m5 := ⟨_, rfl⟩
  obtain ⟨m6, hm6⟩ : ∃ m6, m5.flagged of = m6 := ⟨_, rfl⟩
  rw [hm5, hm6]
  have KU := Lib.hid (St3.callsG (lv := lv) (w0 := w) (i := i) (r := ⟨67, ra, rb, rm⟩) (t := t) hb (fun w lv h hb => hm5 ▸ hp w C lv m4 h hb ⟨ov, false⟩ hov))
  have KS := Lib.hid (St3.calls (lv := lv) (w0 := w) (i := i) (r := ⟨67, ra, rb, rm⟩) (t := t) (fun w lv h => hm6 ▸ cset_any w C lv m5 h of))
  have KO := Lib.hid hsh
  generalize wideB ra = wd at KW KO
  clear h hb hg hgb hp hvb hva hm1 hm2 hm3 hm4 hm5 hm6 hvw ha0 ha1 hsh hov hsw hxw hw2 hn
  have xi := hs.ci
  have xr := hs.cr
  have xt := hs.ct
  have sc := hs.sees.c
  go_enter Tryz.func131, Tryz.ntmps131
  go_wp2_with fail
  refine (KW.out _).mono ?_
  rintro e w' ⟨rfl, rfl⟩; dsimp only
  go_upto_region 23 with fail
  generalize ((w.alloc (.cells (instC i) 30)).alloc (.cells (rowC ⟨67, ra, rb, rm⟩) 47)).alloc (.cells (valC t) 24) = W0 at *
  have S9 := Lib.hid hs
  clear hs sc
  go_wp2_with fail
  with_reducible refine (KB.out _ S9.out).mono ?_
  clear xi xr xt
  rintro e w8 ⟨rfl, hq⟩; dsimp only
  have S8 := Lib.hid hq
  clear hq
  go_wp2_with fail
  with_reducible refine (KQ.out _ S8.out).mono ?_
  rintro e w9 ⟨rfl, hq⟩; dsimp only
  have xi := hq.ci
  have xr := hq.cr
  have xt := hq.ct
  have S0 := Lib.hid hq.drew
  clear hq S8 S9
  go_upto_region 24 with fail
  go_region_held3 (fun w' => (∀ j, w'.cell? ⟨w.heap.size, j, none⟩ = (instC i)[j]?) ∧ (∀ j, w'.cell? ⟨w.heap.size + 1, j, none⟩ = (rowC ⟨67, ra, rb, rm⟩)[j]?) ∧ (∀ j, w'.cell? ⟨w.heap.size + 1 + 1, j, none⟩ = (valC t)[j]?)) (go_keep) (first | (go_at_call 66; with_reducible refine (KA.out _ ?_).mono ?_; (focus (refine Hid.out ?_; assumption)); rintro e w1 ⟨rfl, hq⟩; have y1 := hq.ci; have y2 := hq.cr; have y3 := hq.ct; have S1 := Lib.hid hq; clear hq) | (go_at_call 115; with_reducible refine (KP.out _ ?_).mono ?_; (focus (refine Hid.out ?_; assumption)); rintro e w2 ⟨rfl, hq⟩; have y4 := hq.ci; have y5 := hq.cr; have y6 := hq.ct; have S2 := Lib.hid hq; clear hq) | (go_at_call 85; with_reducible refine (KL.out _).mono ?_; rintro e w' ⟨rfl, rfl⟩) | (go_at_call 186; with_reducible refine (KO.out _).mono ?_; rintro e w7 ⟨rfl, hb7⟩; have S3 := Lib.hid (St3.below S2.out hb7); have z1 := S3.out.ci; have z2 := S3.out.cr; have z3 := S3.out.ct; clear hb7))
  all_goals
    go_wp2_with fail
    with_reducible refine (KU.out _ S3.out).mono ?_
    rintro e w3 ⟨rfl, hq⟩; dsimp only
    have S5 := Lib.hid hq
    clear hq
    go_wp2_with fail
    with_reducible refine (KS.out _ S5.out).mono ?_
    rintro e w4 ⟨rfl, hq⟩; dsimp only
    have S6 := Lib.hid hq
    clear hq
    go_wp2_with fail
    (first | go_end0 | (((try simp only [Exit.inBlock, Exit.then]); refine bodyPost_ret (results_none rfl _ _ _) rfl ?_)))
    exact ⟨rfl, S6.out.fin⟩
set_option maxRecDepth 100000 in
set_option maxHeartbeats 3200000 in
theorem numbers_68 (w : World) (C : Phys) (lv : Value) (m : Mach) (h : Own w C lv m) (T : TypeId) (hb : Box C lv w 0 basesC T) (i : Inst) (r : IRow) (t : V) (ht : t.wf) (hn : r.name = 68) (ha0 : 0 ≤ r.a) (ha1 : r.a ≤ 24) (hgb : GetOkG T i r.b) (hg : GetOkG T i r.a) (hp : PutOkG T i r.a)
    (hw2 : V.wf (((m.getM i r.b).plain (m.getV i r.b t)).getV i r.a t)) :
    Calls Tryz.prog 131 #[.pointer (some ⟨C.b, 0, none⟩), i.val, r.val, t.val] w fun e w' => e = .returned (.tuple #[]) ∧ After C lv w (m.shiftM i r t 68) w' := by
  obtain ⟨name, ra, rb, rm⟩ := r
  dsimp only at hn hg hgb hp ha0 ha1 hw2
  subst hn
  have hs := st3 h i ⟨68, ra, rb, rm⟩ t
  have hvw := getV_wf h i rb ht
  rw [show m.shiftM i ⟨68, ra, rb, rm⟩ t 68 = (let vb := m.getV i rb t; let m2 := (m.getM i rb).plain vb; let va := m2.getV i ra t; let x := cutW va.v (wideB ra); let f0 := andW (andW m.r.f 2261) 2261; ((((m2.getM i ra).plain va).putV i ra ⟨(shP 68 x f0 (wideB ra) (vb.v % 256).toNat).1, false⟩).flagged (shG 68 x f0 (wideB ra) (vb.v % 256).toNat))) from rfl]
  dsimp only
  obtain ⟨vb, hvb⟩ : ∃ v, m.getV i rb t = v := ⟨_, rfl⟩
  obtain ⟨m1, hm1⟩ : ∃ m1, m.getM i rb = m1 := ⟨_, rfl⟩
  obtain ⟨m2, hm2⟩ : ∃ m2, m1.plain vb = m2 := ⟨_, rfl⟩
  obtain ⟨va, hva⟩ : ∃ v, m2.getV i ra t = v := ⟨_, rfl⟩
  obtain ⟨m3, hm3⟩ : ∃ m3, m2.getM i ra = m3 := ⟨_, rfl⟩
  obtain ⟨m4, hm4⟩ : ∃ m4, m3.plain va = m4 := ⟨_, rfl⟩
  rw [hm1, hvb, hm2, hva] at hw2
  rw [hvb] at hvw
  rw [hm1, hvb, hm2, hva, hm3, hm4]
  have KW := Lib.hid (fun w => wide_any ra w ha0 ha1)
  have hnb : 0 ≤ vb.v % 256 ∧ vb.v % 256 ≤ 255 := by omega
  have KL := Lib.hid (fun w => low_any vb.v w hvw.1 hvw.2)
  obtain ⟨n, hn⟩ : ∃ n : Nat, vb.v % 256 = n := ⟨(vb.v % 256).toNat, by omega⟩
  rw [hn] at KL hnb ⊢
  rw [show ((n : Nat) : Int).toNat = n from Int.toNat_natCast n]
  have hsh := fun w => shAll_any 68 va.v (andW m.r.f 2261) n (wideB ra) w (by decide) hw2.1 hw2.2 (by omega)
  have hxw := cut_in va.v (wideB ra) hw2.1 hw2.2
  have hsw := (shP_wf 68 (cutW va.v (wideB ra)) (andW (andW m.r.f 2261) 2261) (wideB ra) hxw.1 hxw.2 n).1
  have hov : V.wf ⟨(shP 68 (cutW va.v (wideB ra)) (andW (andW m.r.f 2261) 2261) (wideB ra) n).1, false⟩ := ⟨hsw.1, by have := top_le (wideB ra); show (shP 68 (cutW va.v (wideB ra)) (andW (andW m.r.f 2261) 2261) (wideB ra) n).1 ≤ 65535; omega⟩
  have KB := Lib.hid (St3.callsG (lv := lv) (w0 := w) (i := i) (r := ⟨68, ra, rb, rm⟩) (t := t) hb (fun w lv h hb => hm1 ▸ hvb ▸ hgb w C lv m h hb t))
  have KQ := Lib.hid (St3.calls (lv := lv) (w0 := w) (i := i) (r := ⟨68, ra, rb, rm⟩) (t := t) (fun w lv h => hm2 ▸ plain_any w C lv m1 h vb))
  have KA := Lib.hid (St3.callsG (lv := lv) (w0 := w) (i := i) (r := ⟨68, ra, rb, rm⟩) (t := t) hb (fun w lv h hb => hm3 ▸ hva ▸ hg w C lv m2 h hb t))
  have KP := Lib.hid (St3.calls (lv := lv) (w0 := w) (i := i) (r := ⟨68, ra, rb, rm⟩) (t := t) (fun w lv h => hm4 ▸ plain_any w C lv m3 h va))
  generalize (shP 68 (cutW va.v (wideB ra)) (andW (andW m.r.f 2261) 2261) (wideB ra) n).1 = ov at hsh hov ⊢
  generalize shG 68 (cutW va.v (wideB ra)) (andW (andW m.r.f 2261) 2261) (wideB ra) n = of at hsh ⊢
  obtain ⟨m5, hm5⟩ : ∃ m5, m4.putV i ra ⟨ov, false⟩ = m5 := ⟨_, rfl⟩
  obtain ⟨m6, hm6⟩ : ∃ m6, m5.flagged of = m6 := ⟨_, rfl⟩
  rw [hm5, hm6]
  have KU := Lib.hid (St3.callsG (lv := lv) (w0 := w) (i := i) (r := ⟨68, ra, rb, rm⟩) (t := t) hb (fun w lv h hb => hm5 ▸ hp w C lv m4 h hb ⟨ov, false⟩ hov))
  have KS := Lib.hid (St3.calls (lv := lv) (w0 := w) (i := i) (r := ⟨68, ra, rb, rm⟩) (t := t) (fun w lv h => hm6 ▸ cset_any w C lv m5 h of))
  have KO := Lib.hid hsh
  generalize wideB ra = wd at KW KO
  clear h hb hg hgb hp hvb hva hm1 hm2 hm3 hm4 hm5 hm6 hvw ha0 ha1 hsh hov hsw hxw hw2 hn
  have xi := hs.ci
  have xr := hs.cr
  have xt := hs.ct
  have sc := hs.sees.c
  go_enter Tryz.func131, Tryz.ntmps131
  go_wp2_with fail
  refine (KW.out _).mono ?_
  rintro e w' ⟨rfl, rfl⟩; dsimp only
  go_upto_region 23 with fail
  generalize ((w.alloc (.cells (instC i) 30)).alloc (.cells (rowC ⟨68, ra, rb, rm⟩) 47)).alloc (.cells (valC t) 24) = W0 at *
  have S9 := Lib.hid hs
  clear hs sc
  go_wp2_with fail
  with_reducible refine (KB.out _ S9.out).mono ?_
  clear xi xr xt
  rintro e w8 ⟨rfl, hq⟩; dsimp only
  have S8 := Lib.hid hq
  clear hq
  go_wp2_with fail
  with_reducible refine (KQ.out _ S8.out).mono ?_
  rintro e w9 ⟨rfl, hq⟩; dsimp only
  have xi := hq.ci
  have xr := hq.cr
  have xt := hq.ct
  have S0 := Lib.hid hq.drew
  clear hq S8 S9
  go_upto_region 24 with fail
  go_region_held3 (fun w' => (∀ j, w'.cell? ⟨w.heap.size, j, none⟩ = (instC i)[j]?) ∧ (∀ j, w'.cell? ⟨w.heap.size + 1, j, none⟩ = (rowC ⟨68, ra, rb, rm⟩)[j]?) ∧ (∀ j, w'.cell? ⟨w.heap.size + 1 + 1, j, none⟩ = (valC t)[j]?)) (go_keep) (first | (go_at_call 66; with_reducible refine (KA.out _ ?_).mono ?_; (focus (refine Hid.out ?_; assumption)); rintro e w1 ⟨rfl, hq⟩; have y1 := hq.ci; have y2 := hq.cr; have y3 := hq.ct; have S1 := Lib.hid hq; clear hq) | (go_at_call 115; with_reducible refine (KP.out _ ?_).mono ?_; (focus (refine Hid.out ?_; assumption)); rintro e w2 ⟨rfl, hq⟩; have y4 := hq.ci; have y5 := hq.cr; have y6 := hq.ct; have S2 := Lib.hid hq; clear hq) | (go_at_call 85; with_reducible refine (KL.out _).mono ?_; rintro e w' ⟨rfl, rfl⟩) | (go_at_call 186; with_reducible refine (KO.out _).mono ?_; rintro e w7 ⟨rfl, hb7⟩; have S3 := Lib.hid (St3.below S2.out hb7); have z1 := S3.out.ci; have z2 := S3.out.cr; have z3 := S3.out.ct; clear hb7))
  all_goals
    go_wp2_with fail
    with_reducible refine (KU.out _ S3.out).mono ?_
    rintro e w3 ⟨rfl, hq⟩; dsimp only
    have S5 := Lib.hid hq
    clear hq
    go_wp2_with fail
    with_reducible refine (KS.out _ S5.out).mono ?_
    rintro e w4 ⟨rfl, hq⟩; dsimp only
    have S6 := Lib.hid hq
    clear hq
    go_wp2_with fail
    (first | go_end0 | (((try simp only [Exit.inBlock, Exit.then]); refine bodyPost_ret (results_none rfl _ _ _) rfl ?_)))
    exact ⟨rfl, S6.out.fin⟩
set_option maxRecDepth 100000 in
set_option maxHeartbeats 3200000 in
theorem numbers_69 (w : World) (C : Phys) (lv : Value) (m : Mach) (h : Own w C lv m) (T : TypeId) (hb : Box C lv w 0 basesC T) (i : Inst) (r : IRow) (t : V) (ht : t.wf) (hn : r.name = 69) (ha0 : 0 ≤ r.a) (ha1 : r.a ≤ 24) (hgb : GetOkG T i r.b) (hg : GetOkG T i r.a) (hp : PutOkG T i r.a)
    (hw2 : V.wf (((m.getM i r.b).plain (m.getV i r.b t)).getV i r.a t)) :
    Calls Tryz.prog 131 #[.pointer (some ⟨C.b, 0, none⟩), i.val, r.val, t.val] w fun e w' => e = .returned (.tuple #[]) ∧ After C lv w (m.shiftM i r t 69) w' := by
  obtain ⟨name, ra, rb, rm⟩ := r
  dsimp only at hn hg hgb hp ha0 ha1 hw2
  subst hn
  have hs := st3 h i ⟨69, ra, rb, rm⟩ t
  have hvw := getV_wf h i rb ht
  rw [show m.shiftM i ⟨69, ra, rb, rm⟩ t 69 = (let vb := m.getV i rb t; let m2 := (m.getM i rb).plain vb; let va := m2.getV i ra t; let x := cutW va.v (wideB ra); let f0 := andW (andW m.r.f 2261) 2261; ((((m2.getM i ra).plain va).putV i ra ⟨(shP 69 x f0 (wideB ra) (vb.v % 256).toNat).1, false⟩).flagged (shG 69 x f0 (wideB ra) (vb.v % 256).toNat))) from rfl]
  dsimp only
  obtain ⟨vb, hvb⟩ : ∃ v, m.getV i rb t = v := ⟨_, rfl⟩
  obtain ⟨m1, hm1⟩ : ∃ m1, m.getM i rb = m1 := ⟨_, rfl⟩
  obtain ⟨m2, hm2⟩ : ∃ m2, m1.plain vb = m2 := ⟨_, rfl⟩
  obtain ⟨va, hva⟩ : ∃ v, m2.getV i ra t = v := ⟨_, rfl⟩
  obtain ⟨m3, hm3⟩ : ∃ m3, m2.getM i ra = m3 := ⟨_, rfl⟩
  obtain ⟨m4, hm4⟩ : ∃ m4, m3.plain va = m4 := ⟨_, rfl⟩
  rw [hm1, hvb, hm2, hva] at hw2
  rw [hvb] at hvw
  rw [hm1, hvb, hm2, hva, hm3, hm4]
  have KW := Lib.hid (fun w => wide_any ra w ha0 ha1)
  have hnb : 0 ≤ vb.v % 256 ∧ vb.v % 256 ≤ 255 := by omega
  have KL := Lib.hid (fun w => low_any vb.v w hvw.1 hvw.2)
  obtain ⟨n, hn⟩ : ∃ n : Nat, vb.v % 256 = n := ⟨(vb.v % 256).toNat, by omega⟩
  rw [hn] at KL hnb ⊢
  rw [show ((n : Nat) : Int).toNat = n from Int.toNat_natCast n]
  have hsh := fun w => shAll_any 69 va.v (andW m.r.f 2261) n (wideB ra) w (by decide) hw2.1 hw2.2 (by omega)
  have hxw := cut_in va.v (wideB ra) hw2.1 hw2.2
  have hsw := (shP_wf 69 (cutW va.v (wideB ra)) (andW (andW m.r.f 2261) 2261) (wideB ra) hxw.1 hxw.2 n).1
  have hov : V.wf ⟨(shP 69 (cutW va.v (wideB ra)) (andW (andW m.r.f 2261) 2261) (wideB ra) n).1, false⟩ := ⟨hsw.1, by have := top_le (wideB ra); show (shP 69 (cutW va.v (wideB ra)) (andW (andW m.r.f 2261) 2261) (wideB ra) n).1 ≤ 65535; omega⟩
  have KB := Lib.hid (St3.callsG (lv := lv) (w0 := w) (i := i) (r := ⟨69, ra, rb, rm⟩) (t := t) hb (fun w lv h hb => hm1 ▸ hvb ▸ hgb w C lv m h hb t))
  have KQ := Lib.hid (St3.calls (lv := lv) (w0 := w) (i := i) (r := ⟨69, ra, rb, rm⟩) (t := t) (fun w lv h => hm2 ▸ plain_any w C lv m1 h vb))
  have KA := Lib.hid (St3.callsG (lv := lv) (w0 := w) (i := i) (r := ⟨69, ra, rb, rm⟩) (t := t) hb (fun w lv h hb => hm3 ▸ hva ▸ hg w C lv m2 h hb t))
  have KP := Lib.hid (St3.calls (lv := lv) (w0 := w) (i := i) (r := ⟨69, ra, rb, rm⟩) (t := t) (fun w lv h => hm4 ▸ plain_any w C lv m3 h va))
  generalize (shP 69 (cutW va.v (wideB ra)) (andW (andW m.r.f 2261) 2261) (wideB ra) n).1 = ov at hsh hov ⊢
  generalize shG 69 (cutW va.v (wideB ra)) (andW (andW m.r.f 2261) 2261) (wideB ra) n = of at hsh ⊢
  obtain ⟨m5, hm5⟩ : ∃ m5, m4.putV i ra ⟨ov, false⟩ = m5 := ⟨_, rfl⟩
  obtain ⟨m6, hm6⟩ : ∃ m6, m5.flagged of = m6 := ⟨_, rfl⟩
  rw [hm5, hm6]
  have KU := Lib.hid (St3.callsG (lv := lv) (w0 := w) (i := i) (r := ⟨69, ra, rb, rm⟩) (t := t) hb (fun w lv h hb => hm5 ▸ hp w C lv m4 h hb ⟨ov, false⟩ hov))
  have KS := Lib.hid (St3.calls (lv := lv) (w0 := w) (i := i) (r := ⟨69, ra, rb, rm⟩) (t := t) (fun w lv h => hm6 ▸ cset_any w C lv m5 h of))
  have KO := Lib.hid hsh
  generalize wideB ra = wd at KW KO
  clear h hb hg hgb hp hvb hva hm1 hm2 hm3 hm4 hm5 hm6 hvw ha0 ha1 hsh hov hsw hxw hw2 hn
  have xi := hs.ci
  have xr := hs.cr
  have xt := hs.ct
  have sc := hs.sees.c
  go_enter Tryz.func131, Tryz.ntmps131
  go_wp2_with fail
  refine (KW.out _).mono ?_
  rintro e w' ⟨rfl, rfl⟩; dsimp only
  go_upto_region 23 with fail
  generalize ((w.alloc (.cells (instC i) 30)).alloc (.cells (rowC ⟨69, ra, rb, rm⟩) 47)).alloc (.cells (valC t) 24) = W0 at *
  have S9 := Lib.hid hs
  clear hs sc
  go_wp2_with fail
  with_reducible refine (KB.out _ S9.out).mono ?_
  clear xi xr xt
  rintro e w8 ⟨rfl, hq⟩; dsimp only
  have S8 := Lib.hid hq
  clear hq
  go_wp2_with fail
  with_reducible refine (KQ.out _ S8.out).mono ?_
  rintro e w9 ⟨rfl, hq⟩; dsimp only
  have xi := hq.ci
  have xr := hq.cr
  have xt := hq.ct
  have S0 := Lib.hid hq.drew
  clear hq S8 S9
  go_upto_region 24 with fail
  go_region_held3 (fun w' => (∀ j, w'.cell? ⟨w.heap.size, j, none⟩ = (instC i)[j]?) ∧ (∀ j, w'.cell? ⟨w.heap.size + 1, j, none⟩ = (rowC ⟨69, ra, rb, rm⟩)[j]?) ∧ (∀ j, w'.cell? ⟨w.heap.size + 1 + 1, j, none⟩ = (valC t)[j]?)) (go_keep) (first | (go_at_call 66; with_reducible refine (KA.out _ ?_).mono ?_; (focus (refine Hid.out ?_; assumption)); rintro e w1 ⟨rfl, hq⟩; have y1 := hq.ci; have y2 := hq.cr; have y3 := hq.ct; have S1 := Lib.hid hq; clear hq) | (go_at_call 115; with_reducible refine (KP.out _ ?_).mono ?_; (focus (refine Hid.out ?_; assumption)); rintro e w2 ⟨rfl, hq⟩; have y4 := hq.ci; have y5 := hq.cr; have y6 := hq.ct; have S2 := Lib.hid hq; clear hq) | (go_at_call 85; with_reducible refine (KL.out _).mono ?_; rintro e w' ⟨rfl, rfl⟩) | (go_at_call 186; with_reducible refine (KO.out _).mono ?_; rintro e w7 ⟨rfl, hb7⟩; have S3 := Lib.hid (St3.below S2.out hb7); have z1 := S3.out.ci; have z2 := S3.out.cr; have z3 := S3.out.ct; clear hb7))
  all_goals
    go_wp2_with fail
    with_reducible refine (KU.out _ S3.out).mono ?_
    rintro e w3 ⟨rfl, hq⟩; dsimp only
    have S5 := Lib.hid hq
    clear hq
    go_wp2_with fail
    with_reducible refine (KS.out _ S5.out).mono ?_
    rintro e w4 ⟨rfl, hq⟩; dsimp only
    have S6 := Lib.hid hq
    clear hq
    go_wp2_with fail
    (first | go_end0 | (((try simp only [Exit.inBlock, Exit.then]); refine bodyPost_ret (results_none rfl _ _ _) rfl ?_)))
    exact ⟨rfl, S6.out.fin⟩
end Go.Proofs.YtcglkefaopgjeaaGreatDoor
