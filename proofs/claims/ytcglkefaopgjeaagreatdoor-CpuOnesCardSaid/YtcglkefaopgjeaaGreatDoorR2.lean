/- Package alu: Cut, top, Signs, flag, sum, less: walks to plain sums and flags. -/
import Derived.Test.YtcglkefaopgjeaaGreatDoorR0
namespace Go.Proofs.YtcglkefaopgjeaaGreatDoor
set_option linter.unusedSimpArgs false
set_option linter.unusedVariables false
open Go.RowKit

theorem and255 (n : Int) (h0 : 0 ≤ n) (h1 : n ≤ 65535) : andW n 255 = n % 256 := by
  obtain ⟨x, rfl⟩ := Int.eq_ofNat_of_zero_le h0
  rw [show andW (x : Int) 255 = ((x &&& 255 : Nat) : Int) from u16_and_nat x 255 (by omega) (by decide), nat_mask8]
  omega
theorem and15 (n : Int) (h0 : 0 ≤ n) (h1 : n ≤ 65535) : andW n 15 = n % 16 := by
  obtain ⟨x, rfl⟩ := Int.eq_ofNat_of_zero_le h0
  rw [show andW (x : Int) 15 = ((x &&& 15 : Nat) : Int) from u16_and_nat x 15 (by omega) (by decide), nat_mask4]
  omega
set_option maxHeartbeats 800000 in
theorem aluCut_any (n : Int) (wide : Bool) (w : World) (h0 : 0 ≤ n) (h1 : n ≤ 65535) : Calls Tryz.prog 204 #[.int .u16 n, .bool wide] w fun e w' => e = .returned (.int .u16 (cutW n wide)) ∧ w = w' := by
  have HA := Lib.hid (and255 n h0 h1)
  cases wide
  · go_enter Tryz.func204, Tryz.ntmps204
    go_wp2_with fail
    go_ret
    exact ⟨ret_int HA.out, rfl⟩
  · go_enter Tryz.func204, Tryz.ntmps204
    go_wp2_with fail
    go_ret
    exact ⟨rfl, rfl⟩
set_option maxHeartbeats 800000 in
theorem aluTop_any (wide : Bool) (w : World) : Calls Tryz.prog 216 #[.bool wide] w fun e w' => e = .returned (.int .u16 (topW wide)) ∧ w = w' := by
  cases wide
  · go_enter Tryz.func216, Tryz.ntmps216
    go_wp2_with fail
    go_ret
    exact ⟨rfl, rfl⟩
  · go_enter Tryz.func216, Tryz.ntmps216
    go_wp2_with fail
    go_ret
    exact ⟨rfl, rfl⟩
set_option maxHeartbeats 800000 in
theorem aluFlag_any (f : Int) (b : Bool) (w : World) : Calls Tryz.prog 212 #[.int .u16 f, .bool b] w fun e w' => e = .returned (.int .u16 (ifI b f)) ∧ w = w' := by
  cases b
  · go_enter Tryz.func212, Tryz.ntmps212
    go_wp2_with fail
    go_ret
    exact ⟨rfl, rfl⟩
  · go_enter Tryz.func212, Tryz.ntmps212
    go_wp2_with fail
    go_ret
    exact ⟨rfl, rfl⟩
set_option maxHeartbeats 800000 in
theorem even_any (b : Int) (w : World) (h0 : 0 ≤ b) (h1 : b ≤ 255) : Calls Tryz.prog 217 #[.int .u8 b] w fun e w' => e = .returned (.bool (evenB b)) ∧ w = w' := by
  have HE := Lib.hid (even_x b h0 h1)
  go_enter Tryz.func217, Tryz.ntmps217
  go_wp2_with fail
  go_ret
  rw [← HE.out]
  exact ⟨rfl, rfl⟩

theorem ifI_false (n : Int) : ifI false n = 0 := rfl
theorem ifI_true (n : Int) : ifI true n = n := rfl
set_option maxRecDepth 100000 in
set_option maxHeartbeats 1600000 in
theorem aluSigns_any (v : Int) (wide : Bool) (w : World) (h0 : 0 ≤ v) (h1 : v ≤ 65535) : Calls Tryz.prog 209 #[.int .u16 v, .bool wide] w fun e w' => e = .returned (.int .u16 (sgnF v wide)) ∧ w = w' := by
  obtain ⟨s, hs⟩ : ∃ b, (andW v (topW wide) != 0) = b := ⟨_, rfl⟩
  obtain ⟨z, hz⟩ : ∃ b, (cutW v wide == 0) = b := ⟨_, rfl⟩
  obtain ⟨p, hp⟩ : ∃ b, evenB (v % 256) = b := ⟨_, rfl⟩
  have HF := Lib.hid (show sgnF v wide = orW (orW (orW 0 (ifI s 128)) (ifI z 64)) (ifI p 4) by rw [flags_add, sgnF, ← and_top v wide h0 (by omega), hs, hz, hp])
  have KP := Lib.hid (fun w => hp ▸ even_any (v % 256) w (by omega) (by omega))
  have KC := Lib.hid (fun w => aluCut_any v wide w h0 h1)
  have KT := Lib.hid (fun w => aluTop_any wide w)
  clear hp
  generalize cutW v wide = cv at hz KC
  generalize topW wide = tv at hs KT
  have hs2 : (bits BinOp.and IntKind.u16 v tv != 0) = s := hs
  clear hs
  cases s <;> cases z <;> cases p
  all_goals
    go_enter Tryz.func209, Tryz.ntmps209
    go_wp2_with (first | (go_at_call 216; refine (KT.out _).mono ?_; rintro e w' ⟨rfl, rfl⟩) | (go_at_call 204; refine (KC.out _).mono ?_; rintro e w' ⟨rfl, rfl⟩) | (go_at_call 85; refine (low_any _ _ h0 h1).mono ?_; rintro e w' ⟨rfl, rfl⟩) | (go_at_call 217; refine (KP.out _).mono ?_; rintro e w' ⟨rfl, rfl⟩))
    go_ret
    rw [HF.out]
    exact ⟨by first | rfl | (refine ret_int ?_; kernel_rfl) | (refine ret_int ?_; decide +kernel), rfl⟩
end Go.Proofs.YtcglkefaopgjeaaGreatDoor
