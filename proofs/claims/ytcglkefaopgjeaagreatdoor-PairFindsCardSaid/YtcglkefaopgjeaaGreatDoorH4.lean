/- Package inst: which instructions there are. -/
import Derived.Test.YtcglkefaopgjeaaGreatDoorH3
namespace Go.Proofs.YtcglkefaopgjeaaGreatDoor
set_option linter.unusedSimpArgs false
set_option linter.unusedVariables false
open Go.RowKit

def signW (b : Int) : Int := if b < 128 then b else b + 65280
def fitsB (x : Int) : Bool := signW (x % 256) == x
def isPre (c : Int) : Bool := c == 38 || c == 46 || c == 54 || c == 62 || c == 240 || c == 242 || c == 243
def dispsOf (mod rm : Int) : Int := if mod = 1 then 1 else if mod = 2 ∨ (mod = 0 ∧ rm = 6) then 2 else 0
def immOf (k : Int) : Int := if k = 6 ∨ k = 8 ∨ k = 9 then 1 else if k = 7 ∨ k = 10 ∨ k = 12 ∨ k = 13 then 2 else if k = 11 then 4 else 0
def repsOf (n : Int) : Int := if n = 46 ∨ n = 47 ∨ n = 50 ∨ n = 51 ∨ n = 52 ∨ n = 53 then 1 else if n = 48 ∨ n = 49 ∨ n = 54 ∨ n = 55 then 2 else 0

theorem signW_wrap (b : Int) (h0 : 0 ≤ b) (h1 : b ≤ 255) : IntKind.u16.wrap (IntKind.i16.wrap (IntKind.i8.wrap b)) = signW b := by
  obtain ⟨n, rfl⟩ := Int.eq_ofNat_of_zero_le h0
  have key : ∀ m : Fin 256, IntKind.u16.wrap (IntKind.i16.wrap (IntKind.i8.wrap ((m.val : Nat) : Int))) = signW ((m.val : Nat) : Int) := by decide +kernel
  exact key ⟨n, by omega⟩
theorem signW_lo (b : Int) (h0 : 0 ≤ b) : 0 ≤ signW b := by unfold signW; split <;> omega
theorem signW_hi (b : Int) (h1 : b ≤ 255) : signW b ≤ 65535 := by unfold signW; split <;> omega

set_option maxHeartbeats 400000 in
theorem sign_any (b : Int) (w : World) (h0 : 0 ≤ b) (h1 : b ≤ 255) : Calls Tryz.prog 183 #[.int .u8 b] w fun e w' => e = .returned (.int .u16 (signW b)) ∧ w = w' := by
  have hs := Lib.hid (signW_wrap b h0 h1)
  go_enter Tryz.func183, Tryz.ntmps183
  go_wp2
  go_ret
  exact ⟨by rw [← hs.out]; rfl, rfl⟩
set_option maxHeartbeats 400000 in
theorem isPre_any (c : Int) (w : World) : Calls Tryz.prog 102 #[.int .u8 c] w fun e w' => e = .returned (.bool (isPre c)) ∧ w = w' := by
  have hc : (c = 38 ∨ c = 46 ∨ c = 54 ∨ c = 62 ∨ c = 240 ∨ c = 242 ∨ c = 243) ∨ ((c == 38) = false ∧ (c == 46) = false ∧ (c == 54) = false ∧ (c == 62) = false ∧ (c == 240) = false ∧ (c == 242) = false ∧ (c == 243) = false) := by
    simp only [beq_eq_false_iff_ne]; omega
  rcases hc with (rfl | rfl | rfl | rfl | rfl | rfl | rfl) | ⟨h1, h2, h3, h4, h5, h6, h7⟩
  all_goals
    go_enter Tryz.func102, Tryz.ntmps102
    go_wp2
    go_ret
    exact ⟨by simp [isPre, *], rfl⟩

set_option maxHeartbeats 400000 in
theorem fits_any (x : Int) (w : World) (h0 : 0 ≤ x) (h1 : x ≤ 65535) : Calls Tryz.prog 213 #[.int .u16 x] w fun e w' => e = .returned (.bool (fitsB x)) ∧ w = w' := by
  go_enter Tryz.func213, Tryz.ntmps213
  go_wp2_with (first | (go_at_call 85; refine (low_any _ _ h0 h1).mono ?_; rintro e w' ⟨rfl, rfl⟩) | (go_at_call 183; refine (sign_any _ _ (by omega) (by omega)).mono ?_; rintro e w' ⟨rfl, rfl⟩))
  go_ret
  exact ⟨rfl, rfl⟩

set_option maxHeartbeats 400000 in
theorem disps_any (mod rm : Int) (w : World) : Calls Tryz.prog 194 #[.int .i64 mod, .int .i64 rm] w fun e w' => e = .returned (.int .i64 (dispsOf mod rm)) ∧ w = w' := by
  have hc : mod = 1 ∨ mod = 2 ∨ (mod = 0 ∧ rm = 6) ∨ (mod = 0 ∧ rm ≠ 6) ∨ (mod ≠ 0 ∧ mod ≠ 1 ∧ mod ≠ 2) := by omega
  rcases hc with rfl | rfl | ⟨rfl, rfl⟩ | ⟨rfl, h⟩ | ⟨g0, g1, g2⟩
  · go_enter Tryz.func194, Tryz.ntmps194
    go_wp2
    go_ret
    exact ⟨rfl, rfl⟩
  · go_enter Tryz.func194, Tryz.ntmps194
    go_wp2
    go_ret
    exact ⟨rfl, rfl⟩
  · go_enter Tryz.func194, Tryz.ntmps194
    go_wp2
    go_ret
    exact ⟨rfl, rfl⟩
  · have t : (rm == 6) = false := by simpa using h
    have HE := Lib.hid (show dispsOf 0 rm = 0 by simp [dispsOf, h])
    clear h
    go_enter Tryz.func194, Tryz.ntmps194
    go_wp2
    go_ret
    rw [HE.out]
    exact ⟨rfl, rfl⟩
  · have t0 : (mod == 0) = false := by simpa using g0
    have t1 : (mod == 1) = false := by simpa using g1
    have t2 : (mod == 2) = false := by simpa using g2
    have HE := Lib.hid (show dispsOf mod rm = 0 by simp [dispsOf, g0, g1, g2])
    clear g0 g1 g2
    go_enter Tryz.func194, Tryz.ntmps194
    go_wp2
    go_ret
    rw [HE.out]
    exact ⟨rfl, rfl⟩

set_option maxHeartbeats 1600000 in
theorem imm_any (k : Int) (w : World) : Calls Tryz.prog 104 #[.int .i64 k] w fun e w' => e = .returned (.int .i64 (immOf k)) ∧ w = w' := by
  have hc : (k = 6 ∨ k = 8 ∨ k = 9 ∨ k = 7 ∨ k = 10 ∨ k = 12 ∨ k = 13 ∨ k = 11) ∨ (k ≠ 6 ∧ k ≠ 8 ∧ k ≠ 9 ∧ k ≠ 7 ∧ k ≠ 10 ∧ k ≠ 12 ∧ k ≠ 13 ∧ k ≠ 11) := by omega
  rcases hc with hc | ⟨g1, g2, g3, g4, g5, g6, g7, g8⟩
  · rcases hc with rfl | rfl | rfl | rfl | rfl | rfl | rfl | rfl
    all_goals
      go_enter Tryz.func104, Tryz.ntmps104
      go_wp2
      go_ret
      exact ⟨rfl, rfl⟩
  ·
    have HE := Lib.hid (show immOf k = 0 by simp [immOf, g1, g2, g3, g4, g5, g6, g7, g8])
    simp only [ne_eq, ← beq_eq_false_iff_ne] at g1 g2 g3 g4 g5 g6 g7 g8
    go_enter Tryz.func104, Tryz.ntmps104
    go_wp2
    go_ret
    rw [HE.out]
    exact ⟨rfl, rfl⟩

set_option maxHeartbeats 1600000 in
theorem reps_any (n : Int) (w : World) : Calls Tryz.prog 71 #[.int .i64 n] w fun e w' => e = .returned (.int .i64 (repsOf n)) ∧ w = w' := by
  have hc : (n = 46 ∨ n = 47 ∨ n = 48 ∨ n = 49 ∨ n = 50 ∨ n = 51 ∨ n = 52 ∨ n = 53 ∨ n = 54 ∨ n = 55) ∨ (n ≠ 46 ∧ n ≠ 47 ∧ n ≠ 48 ∧ n ≠ 49 ∧ n ≠ 50 ∧ n ≠ 51 ∧ n ≠ 52 ∧ n ≠ 53 ∧ n ≠ 54 ∧ n ≠ 55) := by omega
  rcases hc with hc | ⟨g1, g2, g3, g4, g5, g6, g7, g8, g9, g10⟩
  · rcases hc with rfl | rfl | rfl | rfl | rfl | rfl | rfl | rfl | rfl | rfl
    all_goals
      go_enter Tryz.func71, Tryz.ntmps71
      go_wp2
      go_ret
      exact ⟨rfl, rfl⟩
  ·
    have HE := Lib.hid (show repsOf n = 0 by simp [repsOf, g1, g2, g3, g4, g5, g6, g7, g8, g9, g10])
    simp only [ne_eq, ← beq_eq_false_iff_ne] at g1 g2 g3 g4 g5 g6 g7 g8 g9 g10
    go_enter Tryz.func71, Tryz.ntmps71
    go_wp2
    go_ret
    rw [HE.out]
    exact ⟨rfl, rfl⟩
end Go.Proofs.YtcglkefaopgjeaaGreatDoor
