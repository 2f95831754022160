/- Two register files compared. -/
import Derived.Test.YtcglkefaopgjeaaDoorB1
import Derived.Laws.StructEq
namespace Go.Proofs.YtcglkefaopgjeaaDoor
set_option linter.unusedSimpArgs false
set_option linter.unusedVariables false
open Go.RowKit

/-- A word with its mark equals itself. -/
theorem eq_V (d : Nat) (a : Int) (b : Bool) (w : World) : (Op.equalIn (d + 1 + 1) 27 (.agg #[.int .u16 a, .bool b]) (.agg #[.int .u16 a, .bool b])).run Tryd.prog w = .ok true w := by
  have hS : Tryd.prog.underlying 27 = some (.struct (Tryd.prog.fieldsOf 27)) := by kernel_rfl
  rw [run_equalIn_agg w (d + 1) 27 _ _ hS (by kernel_rfl)]
  simp only [Program.fieldsOf, Tryd.underlying27]
  go_simp
set_option maxRecDepth 100000 in
theorem eq_A8 (d : Nat) (a0 a1 a2 a3 a4 a5 a6 a7 : Int) (b0 b1 b2 b3 b4 b5 b6 b7 : Bool) (w : World) : (Op.equalIn (d + 1 + 1 + 1) 28 (.agg #[.int .u16 a0, .bool b0, .int .u16 a1, .bool b1, .int .u16 a2, .bool b2, .int .u16 a3, .bool b3, .int .u16 a4, .bool b4, .int .u16 a5, .bool b5, .int .u16 a6, .bool b6, .int .u16 a7, .bool b7]) (.agg #[.int .u16 a0, .bool b0, .int .u16 a1, .bool b1, .int .u16 a2, .bool b2, .int .u16 a3, .bool b3, .int .u16 a4, .bool b4, .int .u16 a5, .bool b5, .int .u16 a6, .bool b6, .int .u16 a7, .bool b7])).run Tryd.prog w = .ok true w := by
  rw [Op.equalIn]
  simp only [Sem.run_bind, run_underlying Tryd.underlying28, Result.andThen_ok]
  simp only [Std.Legacy.Range.forIn_eq_forIn_range', Std.Legacy.Range.size, Nat.sub_zero, Nat.add_sub_cancel, Nat.div_one, List.range'_succ, List.range'_zero, List.forIn_cons, List.forIn_nil]
  have hv := fun a b => eq_V d a b w
  go_simp
set_option maxRecDepth 100000 in
theorem eq_A4 (d : Nat) (a0 a1 a2 a3 : Int) (b0 b1 b2 b3 : Bool) (w : World) : (Op.equalIn (d + 1 + 1 + 1) 29 (.agg #[.int .u16 a0, .bool b0, .int .u16 a1, .bool b1, .int .u16 a2, .bool b2, .int .u16 a3, .bool b3]) (.agg #[.int .u16 a0, .bool b0, .int .u16 a1, .bool b1, .int .u16 a2, .bool b2, .int .u16 a3, .bool b3])).run Tryd.prog w = .ok true w := by
  rw [Op.equalIn]
  simp only [Sem.run_bind, run_underlying Tryd.underlying29, Result.andThen_ok]
  simp only [Std.Legacy.Range.forIn_eq_forIn_range', Std.Legacy.Range.size, Nat.sub_zero, Nat.add_sub_cancel, Nat.div_one, List.range'_succ, List.range'_zero, List.forIn_cons, List.forIn_nil]
  have hv := fun a b => eq_V d a b w
  go_simp
theorem eq_regs (r : Regs) (w : World) : (Op.equalIn 10000 31 r.val r.val).run Tryd.prog w = .ok true w := by
  have hS : Tryd.prog.underlying 31 = some (.struct (Tryd.prog.fieldsOf 31)) := by kernel_rfl
  rw [show (10000 : Nat) = 9999 + 1 from rfl, run_equalIn_agg w 9999 31 _ _ hS (by kernel_rfl)]
  simp only [Program.fieldsOf, Tryd.underlying31]
  have h8 := eq_A8 9996 r.g0.v r.g1.v r.g2.v r.g3.v r.g4.v r.g5.v r.g6.v r.g7.v r.g0.t r.g1.t r.g2.t r.g3.t r.g4.t r.g5.t r.g6.t r.g7.t w
  have h4 := eq_A4 9996 r.s0.v r.s1.v r.s2.v r.s3.v r.s0.t r.s1.t r.s2.t r.s3.t w
  unfold Regs.cells
  go_simp
end Go.Proofs.YtcglkefaopgjeaaDoor
