/- mem.New. -/
import Derived.Test.YtcglkefaopgjeaaGreatDoorB3
namespace Go.Proofs.YtcglkefaopgjeaaGreatDoor
set_option linter.unusedSimpArgs false
set_option linter.unusedVariables false
open Go.RowKit

def zeroRow : Array Value := ByteRow fun _ => 0
theorem made_zero : madeCells #[.int .u8 0] 1048576 = zeroRow := by
  unfold madeCells zeroRow
  unfold ByteRow
  apply Array.ext
  · rw [Array.size_map, Array.size_range, Array.size_ofFn]
  · intro i h1 h2
    rw [Array.getElem_map, Array.getElem_ofFn]
    simp [Nat.mod_one]
attribute [irreducible] zeroRow
theorem zero_row : zeroRow = ByteRow fun _ => 0 := by unfold zeroRow; rfl
theorem info_u8 : (Tryz.prog.info? 5).map (fun i => (i.zero, i.size, i.bytes)) = some (some (.int .u8 0), 1, 1) := by kernel_rfl
theorem run_makeMem (w : World) : (Instr.makeSlice 32 (.int .i64 1048576) (.int .i64 1048576)).run Tryz.prog w = .ok (.slice (some ⟨w.heap.size, 0, none⟩) 1048576 1048576) (w.alloc (.cells zeroRow 5)) := by
  obtain ⟨i, hi, hz0, hz1, hz2⟩ := info_parts info_u8
  have := run_make (P := Tryz.prog) w 32 5 i (.int .u8 0) Tryz.underlying32 hi hz0 .i64 .i64 1048576 1048576 (by decide) (by decide) (by rw [hz2]; decide) (by decide)
  rw [this, hz1]
  have e : ((1048576 : Int).toNat * 1) = 1048576 := by decide
  rw [e]
  show Result.ok _ (w.alloc (.cells (madeCells #[.int .u8 0] 1048576) _)) = _
  rw [made_zero]
  rfl


theorem row_zero (w : World) (g : Nat) (h : Row w g zeroRow 5) : Row w g (ByteRow fun _ => 0) 5 := zero_row ▸ h

theorem new_rows (w : World) (bb tb : Nat) (h : bb = w.heap.size ∧ tb = w.heap.size + 1 ∨ bb = w.heap.size + 1 ∧ tb = w.heap.size) :
    MemAt (((w.alloc (.cells zeroRow 5)).alloc (.cells zeroRow 5)).alloc (.cells (memCells bb tb) 138)) (w.heap.size + 1 + 1) bb tb (fun _ => 0) (fun _ => 0) := by
  have r0 := (((Row.new w zeroRow 5).alloc (.cells zeroRow 5)).alloc (.cells (memCells bb tb) 138))
  have r1 := ((Row.new (w.alloc (.cells zeroRow 5)) zeroRow 5).alloc (.cells (memCells bb tb) 138))
  have r2 := Row.new ((w.alloc (.cells zeroRow 5)).alloc (.cells zeroRow 5)) (memCells bb tb) 138
  rw [World.size_alloc] at r1
  rw [World.size_alloc, World.size_alloc] at r2
  have r0' := row_zero _ _ r0
  have r1' := row_zero _ _ r1
  have wf : ∀ k : Nat, (0 : Int) ≤ (fun _ : Nat => (0 : Int)) k ∧ (fun _ : Nat => (0 : Int)) k ≤ 255 := fun _ => ⟨Int.le_refl 0, (by decide : (0 : Int) ≤ 255)⟩
  rcases h with ⟨rfl, rfl⟩ | ⟨rfl, rfl⟩
  · exact ⟨r2, r0', r1', by omega, by omega, by omega, wf⟩
  · exact ⟨r2, r1', r0', by omega, by omega, by omega, wf⟩
set_option maxHeartbeats 800000 in
theorem memNew_any (w : World) : Calls Tryz.prog 52 #[] w fun e w' => ∃ mb bb tb, e = .returned (.pointer (some ⟨mb, 0, none⟩)) ∧ MemAt w' mb bb tb (fun _ => 0) (fun _ => 0) ∧ Below w.heap.size w w' ∧ w.heap.size ≤ mb ∧ w.heap.size ≤ bb ∧ w.heap.size ≤ tb := by
  have hmk := run_makeMem
  go_enter Tryz.func52, Tryz.ntmps52
  go_wp2_with fail
  go_region
  · go_wp2_with fail
    go_ret
    refine ⟨w.heap.size + 1 + 1, w.heap.size, w.heap.size + 1, rfl, (new_rows w _ _ (Or.inl ⟨rfl, rfl⟩)).drew, (by (repeat (first | exact Below.refl _ _ | assumption | refine Below.setCell ?_ (by simp) _ | refine Below.alloc ?_ (by simp <;> omega) _ | refine Below.drew ?_ | refine Below.drewN ?_ | refine Below.setRow ?_ (by simp <;> omega) _))), by omega, by omega, by omega⟩
  · go_wp2_with fail
    go_ret
    refine ⟨w.heap.size + 1 + 1, w.heap.size + 1, w.heap.size, rfl, (new_rows w _ _ (Or.inr ⟨rfl, rfl⟩)).drew, (by (repeat (first | exact Below.refl _ _ | assumption | refine Below.setCell ?_ (by simp) _ | refine Below.alloc ?_ (by simp <;> omega) _ | refine Below.drew ?_ | refine Below.drewN ?_ | refine Below.setRow ?_ (by simp <;> omega) _))), by omega, by omega, by omega⟩
end Go.Proofs.YtcglkefaopgjeaaGreatDoor
