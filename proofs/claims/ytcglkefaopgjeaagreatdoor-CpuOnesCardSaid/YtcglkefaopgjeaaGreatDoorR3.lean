/- Package alu: sum, less: walks. -/
import Derived.Test.YtcglkefaopgjeaaGreatDoorR2
namespace Go.Proofs.YtcglkefaopgjeaaGreatDoor
set_option linter.unusedSimpArgs false
set_option linter.unusedVariables false
open Go.RowKit

theorem ret2_int {a b c d : Int} (h : a = b) (k : c = d) : Ending.returned (.tuple #[.int .u16 a, .int .u16 c]) = .returned (.tuple #[.int .u16 b, .int .u16 d]) := by rw [h, k]
theorem topW_cases (wide : Bool) : (wide = false ∧ topW wide = 128) ∨ (wide = true ∧ topW wide = 32768) := by cases wide; exact Or.inl ⟨rfl, rfl⟩; exact Or.inr ⟨rfl, rfl⟩
theorem addV_wf (a b c : Int) (wide : Bool) : 0 ≤ addV a b c wide ∧ addV a b c wide < 2 * topW wide := by unfold addV; rcases topW_cases wide with ⟨_, e⟩ | ⟨_, e⟩ <;> rw [e] <;> omega
theorem subV_wf (a b c : Int) (wide : Bool) : 0 ≤ subV a b c wide ∧ subV a b c wide < 2 * topW wide := by unfold subV; rcases topW_cases wide with ⟨_, e⟩ | ⟨_, e⟩ <;> rw [e] <;> omega
theorem flags_six (v : Int) (wide c a o : Bool) : orW (orW (sgnF v wide) (ifI c 1)) (orW (ifI a 16) (ifI o 2048)) = sgnF v wide + ifI c 1 + ifI a 16 + ifI o 2048 := by
  unfold sgnF; exact flags_all _ _ _ c a o
theorem addC_walk (a b c : Int) (wide : Bool) : decide (cutW 65535 wide % 4294967296 < a + b + c) = addC a b c wide := by
  unfold addC; cases wide
  · show decide ((65535 % 256 : Int) % 4294967296 < a + b + c) = decide (2 * (128:Int) ≤ a + b + c)
    exact decide_eq_decide.mpr (by omega)
  · show decide ((65535 : Int) % 4294967296 < a + b + c) = decide (2 * (32768:Int) ≤ a + b + c)
    exact decide_eq_decide.mpr (by omega)
theorem addA_walk (a b c : Int) : decide (15 < a % 16 + b % 16 + c) = addA a b c := decide_eq_decide.mpr (by omega)
set_option maxRecDepth 100000 in
set_option maxHeartbeats 1600000 in
theorem sum_any (a b c : Int) (wide : Bool) (w : World) (a0 : 0 ≤ a) (a1 : a < 2 * topW wide) (b0 : 0 ≤ b) (b1 : b < 2 * topW wide) (c0 : 0 ≤ c) (c1 : c ≤ 1) :
    Calls Tryz.prog 205 #[.int .u16 a, .int .u16 b, .int .u16 c, .bool wide] w fun e w' => e = .returned (.tuple #[.int .u16 (addV a b c wide), .int .u16 (addF a b c wide)]) ∧ w = w' := by
  have ht : topW wide ≤ 32768 := by rcases topW_cases wide with ⟨_, e⟩ | ⟨_, e⟩ <;> rw [e] <;> decide
  have hv := addV_wf a b c wide
  have KV := Lib.hid (show ∀ w, Calls Tryz.prog 204 #[.int .u16 ((a + b + c) % 65536), .bool wide] w fun e w' => e = .returned (.int .u16 (addV a b c wide)) ∧ w = w' by
    intro w
    have := aluCut_any ((a + b + c) % 65536) wide w (by omega) (by omega)
    rwa [show cutW ((a + b + c) % 65536) wide = addV a b c wide by unfold cutW addV; cases wide <;> simp [topW] <;> omega] at this)
  have KM := Lib.hid (fun w => aluCut_any 65535 wide w (by omega) (by omega))
  have HF := Lib.hid (show addF a b c wide = orW (orW (sgnF (addV a b c wide) wide) (ifI (decide (cutW 65535 wide % 4294967296 < a + b + c)) 1)) (orW (ifI (decide (15 < a % 16 + b % 16 + c)) 16) (ifI (andW (andW (xorW a (addV a b c wide)) (xorW b (addV a b c wide))) (topW wide) != 0) 2048)) by
    rw [xors_top a _ b _ wide a0 (by omega) (by omega) (by omega) b0 (by omega) (by omega) (by omega), flags_six]
    rw [addC_walk, addA_walk]; rfl)
  generalize addV a b c wide = v at hv KV HF ⊢
  have KS := Lib.hid (fun w => aluSigns_any v wide w hv.1 (by omega))
  have e15a := and15 a a0 (by omega)
  have e15b := and15 b b0 (by omega)
  go_enter Tryz.func205, Tryz.ntmps205
  go_wp2_with (first | (go_at_call 204; refine (KV.out _).mono ?_; rintro e w' ⟨rfl, rfl⟩) | (go_at_call 204; refine (KM.out _).mono ?_; rintro e w' ⟨rfl, rfl⟩) | (go_at_call 209; refine (KS.out _).mono ?_; rintro e w' ⟨rfl, rfl⟩) | (go_at_call 212; refine (aluFlag_any _ _ _).mono ?_; rintro e w' ⟨rfl, rfl⟩) | (go_at_call 216; refine (aluTop_any wide _).mono ?_; rintro e w' ⟨rfl, rfl⟩))
  go_ret2
  exact ⟨ret2_int rfl HF.out.symm, rfl⟩
end Go.Proofs.YtcglkefaopgjeaaGreatDoor
