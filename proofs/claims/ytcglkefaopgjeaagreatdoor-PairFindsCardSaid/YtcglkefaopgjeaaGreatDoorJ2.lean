/- Package regs: PutByte. -/
import Derived.Test.YtcglkefaopgjeaaGreatDoorJ1
namespace Go.Proofs.YtcglkefaopgjeaaGreatDoor
set_option linter.unusedSimpArgs false
set_option linter.unusedVariables false
open Go.RowKit

theorem row_putR {w : World} {g : Nat} {cs : Array Value} {t : TypeId} (h : Row w g cs t) (hs : cs.size = 26) (r : Regs) : Row (putR w g r) g r.cells t := by
  have := Row.putR h r
  rwa [hs, show cs.extract 26 26 = #[] from by simp; omega, Array.append_empty] at this
theorem results_regs2 {fn : Func} {p q : Tmp} (h : fn.results = #[.cell p 28, .tmp q]) (tmps : Array Value) (w : World) (g : Nat) (t : TypeId) (r : Regs) (v : Value)
    (hp : tmps.getD p undef = .pointer (some ⟨g, 0, none⟩)) (hq : tmps.getD q undef = v) (hg : Row w g r.cells t) : (results fn tmps).run Tryz.prog w = .ok (.tuple #[r.val, v]) w := by
  have g2 : tmps[p]?.getD undef = .pointer (some ⟨g, 0, none⟩) := by simpa using hp
  have g3 : tmps[q]?.getD undef = v := by simpa using hq
  have li := run_loadVar_row (P := Tryz.prog) w g t 28 r.cells (0, 0) _ hg Tryz.underlying28 rfl info_regs
  simp [results, h, g2, g3, asAddr, li]

set_option maxRecDepth 100000 in
set_option maxHeartbeats 1600000 in
theorem putByte_0 (r : Regs) (b : Int) (b0 : 0 ≤ b) (b1 : b ≤ 255) (x0 : 0 ≤ r.g0.v) (x1 : r.g0.v ≤ 65535) (w : World) : Calls Tryz.prog 215 #[r.val, .int .i64 0, .int .u8 b] w fun e w' => e = .returned (.tuple #[({ r with g0 := ⟨b + 256 * (r.g0.v / 256), false⟩ } : Regs).val, .bool (!r.g0.t)]) ∧ Below w.heap.size w w' := by
  have e : bits .and .i64 0 3 = 0 := by decide
  have y0 : 0 ≤ r.g0.v / 256 := by omega
  have y1 : r.g0.v / 256 ≤ 255 := by omega
  have z0 : 0 ≤ r.g0.v % 256 := by omega
  have z1 : r.g0.v % 256 ≤ 255 := by omega
  go_enter Tryz.func215, Tryz.ntmps215
  go_wp2_with (first | (go_at_call 141; refine (word_yes _ _ (by decide) (by decide)).mono ?_; rintro e w' ⟨rfl, rfl⟩) | (go_at_call 86; refine (high_any _ _ x0 x1).mono ?_; rintro e w' ⟨rfl, rfl⟩) | (go_at_call 85; refine (low_any _ _ x0 x1).mono ?_; rintro e w' ⟨rfl, rfl⟩) | (go_at_call 105; refine (bword_any _ _ _ (by omega) (by omega) (by omega) (by omega)).mono ?_; rintro e w' ⟨rfl, rfl⟩))
  go_region
  go_wp2_with fail
  refine bodyPost_ret (results_regs2 rfl _ _ (w.heap.size + 1) 28 _ _ rfl rfl ?_) rfl ⟨rfl, ?_⟩
  · exact (row_putR ((Row.new' (by simp)).alloc _) rfl _).drew
  · exact Below.drew (Below.putR ((((Below.refl w.heap.size w).alloc (Nat.le_refl _) _).alloc (by simp) _).alloc (by simp; omega) _) (by omega) _)
set_option maxRecDepth 100000 in
set_option maxHeartbeats 1600000 in
theorem putByte_1 (r : Regs) (b : Int) (b0 : 0 ≤ b) (b1 : b ≤ 255) (x0 : 0 ≤ r.g1.v) (x1 : r.g1.v ≤ 65535) (w : World) : Calls Tryz.prog 215 #[r.val, .int .i64 1, .int .u8 b] w fun e w' => e = .returned (.tuple #[({ r with g1 := ⟨b + 256 * (r.g1.v / 256), false⟩ } : Regs).val, .bool (!r.g1.t)]) ∧ Below w.heap.size w w' := by
  have e : bits .and .i64 1 3 = 1 := by decide
  have y0 : 0 ≤ r.g1.v / 256 := by omega
  have y1 : r.g1.v / 256 ≤ 255 := by omega
  have z0 : 0 ≤ r.g1.v % 256 := by omega
  have z1 : r.g1.v % 256 ≤ 255 := by omega
  go_enter Tryz.func215, Tryz.ntmps215
  go_wp2_with (first | (go_at_call 141; refine (word_yes _ _ (by decide) (by decide)).mono ?_; rintro e w' ⟨rfl, rfl⟩) | (go_at_call 86; refine (high_any _ _ x0 x1).mono ?_; rintro e w' ⟨rfl, rfl⟩) | (go_at_call 85; refine (low_any _ _ x0 x1).mono ?_; rintro e w' ⟨rfl, rfl⟩) | (go_at_call 105; refine (bword_any _ _ _ (by omega) (by omega) (by omega) (by omega)).mono ?_; rintro e w' ⟨rfl, rfl⟩))
  go_region
  go_wp2_with fail
  refine bodyPost_ret (results_regs2 rfl _ _ (w.heap.size + 1) 28 _ _ rfl rfl ?_) rfl ⟨rfl, ?_⟩
  · exact (row_putR ((Row.new' (by simp)).alloc _) rfl _).drew
  · exact Below.drew (Below.putR ((((Below.refl w.heap.size w).alloc (Nat.le_refl _) _).alloc (by simp) _).alloc (by simp; omega) _) (by omega) _)
set_option maxRecDepth 100000 in
set_option maxHeartbeats 1600000 in
theorem putByte_2 (r : Regs) (b : Int) (b0 : 0 ≤ b) (b1 : b ≤ 255) (x0 : 0 ≤ r.g2.v) (x1 : r.g2.v ≤ 65535) (w : World) : Calls Tryz.prog 215 #[r.val, .int .i64 2, .int .u8 b] w fun e w' => e = .returned (.tuple #[({ r with g2 := ⟨b + 256 * (r.g2.v / 256), false⟩ } : Regs).val, .bool (!r.g2.t)]) ∧ Below w.heap.size w w' := by
  have e : bits .and .i64 2 3 = 2 := by decide
  have y0 : 0 ≤ r.g2.v / 256 := by omega
  have y1 : r.g2.v / 256 ≤ 255 := by omega
  have z0 : 0 ≤ r.g2.v % 256 := by omega
  have z1 : r.g2.v % 256 ≤ 255 := by omega
  go_enter Tryz.func215, Tryz.ntmps215
  go_wp2_with (first | (go_at_call 141; refine (word_yes _ _ (by decide) (by decide)).mono ?_; rintro e w' ⟨rfl, rfl⟩) | (go_at_call 86; refine (high_any _ _ x0 x1).mono ?_; rintro e w' ⟨rfl, rfl⟩) | (go_at_call 85; refine (low_any _ _ x0 x1).mono ?_; rintro e w' ⟨rfl, rfl⟩) | (go_at_call 105; refine (bword_any _ _ _ (by omega) (by omega) (by omega) (by omega)).mono ?_; rintro e w' ⟨rfl, rfl⟩))
  go_region
  go_wp2_with fail
  refine bodyPost_ret (results_regs2 rfl _ _ (w.heap.size + 1) 28 _ _ rfl rfl ?_) rfl ⟨rfl, ?_⟩
  · exact (row_putR ((Row.new' (by simp)).alloc _) rfl _).drew
  · exact Below.drew (Below.putR ((((Below.refl w.heap.size w).alloc (Nat.le_refl _) _).alloc (by simp) _).alloc (by simp; omega) _) (by omega) _)
set_option maxRecDepth 100000 in
set_option maxHeartbeats 1600000 in
theorem putByte_3 (r : Regs) (b : Int) (b0 : 0 ≤ b) (b1 : b ≤ 255) (x0 : 0 ≤ r.g3.v) (x1 : r.g3.v ≤ 65535) (w : World) : Calls Tryz.prog 215 #[r.val, .int .i64 3, .int .u8 b] w fun e w' => e = .returned (.tuple #[({ r with g3 := ⟨b + 256 * (r.g3.v / 256), false⟩ } : Regs).val, .bool (!r.g3.t)]) ∧ Below w.heap.size w w' := by
  have e : bits .and .i64 3 3 = 3 := by decide
  have y0 : 0 ≤ r.g3.v / 256 := by omega
  have y1 : r.g3.v / 256 ≤ 255 := by omega
  have z0 : 0 ≤ r.g3.v % 256 := by omega
  have z1 : r.g3.v % 256 ≤ 255 := by omega
  go_enter Tryz.func215, Tryz.ntmps215
  go_wp2_with (first | (go_at_call 141; refine (word_yes _ _ (by decide) (by decide)).mono ?_; rintro e w' ⟨rfl, rfl⟩) | (go_at_call 86; refine (high_any _ _ x0 x1).mono ?_; rintro e w' ⟨rfl, rfl⟩) | (go_at_call 85; refine (low_any _ _ x0 x1).mono ?_; rintro e w' ⟨rfl, rfl⟩) | (go_at_call 105; refine (bword_any _ _ _ (by omega) (by omega) (by omega) (by omega)).mono ?_; rintro e w' ⟨rfl, rfl⟩))
  go_region
  go_wp2_with fail
  refine bodyPost_ret (results_regs2 rfl _ _ (w.heap.size + 1) 28 _ _ rfl rfl ?_) rfl ⟨rfl, ?_⟩
  · exact (row_putR ((Row.new' (by simp)).alloc _) rfl _).drew
  · exact Below.drew (Below.putR ((((Below.refl w.heap.size w).alloc (Nat.le_refl _) _).alloc (by simp) _).alloc (by simp; omega) _) (by omega) _)
set_option maxRecDepth 100000 in
set_option maxHeartbeats 1600000 in
theorem putByte_4 (r : Regs) (b : Int) (b0 : 0 ≤ b) (b1 : b ≤ 255) (x0 : 0 ≤ r.g0.v) (x1 : r.g0.v ≤ 65535) (w : World) : Calls Tryz.prog 215 #[r.val, .int .i64 4, .int .u8 b] w fun e w' => e = .returned (.tuple #[({ r with g0 := ⟨r.g0.v % 256 + 256 * b, false⟩ } : Regs).val, .bool (!r.g0.t)]) ∧ Below w.heap.size w w' := by
  have e : bits .and .i64 4 3 = 0 := by decide
  have y0 : 0 ≤ r.g0.v / 256 := by omega
  have y1 : r.g0.v / 256 ≤ 255 := by omega
  have z0 : 0 ≤ r.g0.v % 256 := by omega
  have z1 : r.g0.v % 256 ≤ 255 := by omega
  go_enter Tryz.func215, Tryz.ntmps215
  go_wp2_with (first | (go_at_call 141; refine (word_yes _ _ (by decide) (by decide)).mono ?_; rintro e w' ⟨rfl, rfl⟩) | (go_at_call 86; refine (high_any _ _ x0 x1).mono ?_; rintro e w' ⟨rfl, rfl⟩) | (go_at_call 85; refine (low_any _ _ x0 x1).mono ?_; rintro e w' ⟨rfl, rfl⟩) | (go_at_call 105; refine (bword_any _ _ _ (by omega) (by omega) (by omega) (by omega)).mono ?_; rintro e w' ⟨rfl, rfl⟩))
  go_region
  go_wp2_with fail
  refine bodyPost_ret (results_regs2 rfl _ _ (w.heap.size + 1) 28 _ _ rfl rfl ?_) rfl ⟨rfl, ?_⟩
  · exact (row_putR ((Row.new' (by simp)).alloc _) rfl _).drew
  · exact Below.drew (Below.putR ((((Below.refl w.heap.size w).alloc (Nat.le_refl _) _).alloc (by simp) _).alloc (by simp; omega) _) (by omega) _)
set_option maxRecDepth 100000 in
set_option maxHeartbeats 1600000 in
theorem putByte_5 (r : Regs) (b : Int) (b0 : 0 ≤ b) (b1 : b ≤ 255) (x0 : 0 ≤ r.g1.v) (x1 : r.g1.v ≤ 65535) (w : World) : Calls Tryz.prog 215 #[r.val, .int .i64 5, .int .u8 b] w fun e w' => e = .returned (.tuple #[({ r with g1 := ⟨r.g1.v % 256 + 256 * b, false⟩ } : Regs).val, .bool (!r.g1.t)]) ∧ Below w.heap.size w w' := by
  have e : bits .and .i64 5 3 = 1 := by decide
  have y0 : 0 ≤ r.g1.v / 256 := by omega
  have y1 : r.g1.v / 256 ≤ 255 := by omega
  have z0 : 0 ≤ r.g1.v % 256 := by omega
  have z1 : r.g1.v % 256 ≤ 255 := by omega
  go_enter Tryz.func215, Tryz.ntmps215
  go_wp2_with (first | (go_at_call 141; refine (word_yes _ _ (by decide) (by decide)).mono ?_; rintro e w' ⟨rfl, rfl⟩) | (go_at_call 86; refine (high_any _ _ x0 x1).mono ?_; rintro e w' ⟨rfl, rfl⟩) | (go_at_call 85; refine (low_any _ _ x0 x1).mono ?_; rintro e w' ⟨rfl, rfl⟩) | (go_at_call 105; refine (bword_any _ _ _ (by omega) (by omega) (by omega) (by omega)).mono ?_; rintro e w' ⟨rfl, rfl⟩))
  go_region
  go_wp2_with fail
  refine bodyPost_ret (results_regs2 rfl _ _ (w.heap.size + 1) 28 _ _ rfl rfl ?_) rfl ⟨rfl, ?_⟩
  · exact (row_putR ((Row.new' (by simp)).alloc _) rfl _).drew
  · exact Below.drew (Below.putR ((((Below.refl w.heap.size w).alloc (Nat.le_refl _) _).alloc (by simp) _).alloc (by simp; omega) _) (by omega) _)
set_option maxRecDepth 100000 in
set_option maxHeartbeats 1600000 in
theorem putByte_6 (r : Regs) (b : Int) (b0 : 0 ≤ b) (b1 : b ≤ 255) (x0 : 0 ≤ r.g2.v) (x1 : r.g2.v ≤ 65535) (w : World) : Calls Tryz.prog 215 #[r.val, .int .i64 6, .int .u8 b] w fun e w' => e = .returned (.tuple #[({ r with g2 := ⟨r.g2.v % 256 + 256 * b, false⟩ } : Regs).val, .bool (!r.g2.t)]) ∧ Below w.heap.size w w' := by
  have e : bits .and .i64 6 3 = 2 := by decide
  have y0 : 0 ≤ r.g2.v / 256 := by omega
  have y1 : r.g2.v / 256 ≤ 255 := by omega
  have z0 : 0 ≤ r.g2.v % 256 := by omega
  have z1 : r.g2.v % 256 ≤ 255 := by omega
  go_enter Tryz.func215, Tryz.ntmps215
  go_wp2_with (first | (go_at_call 141; refine (word_yes _ _ (by decide) (by decide)).mono ?_; rintro e w' ⟨rfl, rfl⟩) | (go_at_call 86; refine (high_any _ _ x0 x1).mono ?_; rintro e w' ⟨rfl, rfl⟩) | (go_at_call 85; refine (low_any _ _ x0 x1).mono ?_; rintro e w' ⟨rfl, rfl⟩) | (go_at_call 105; refine (bword_any _ _ _ (by omega) (by omega) (by omega) (by omega)).mono ?_; rintro e w' ⟨rfl, rfl⟩))
  go_region
  go_wp2_with fail
  refine bodyPost_ret (results_regs2 rfl _ _ (w.heap.size + 1) 28 _ _ rfl rfl ?_) rfl ⟨rfl, ?_⟩
  · exact (row_putR ((Row.new' (by simp)).alloc _) rfl _).drew
  · exact Below.drew (Below.putR ((((Below.refl w.heap.size w).alloc (Nat.le_refl _) _).alloc (by simp) _).alloc (by simp; omega) _) (by omega) _)
set_option maxRecDepth 100000 in
set_option maxHeartbeats 1600000 in
theorem putByte_7 (r : Regs) (b : Int) (b0 : 0 ≤ b) (b1 : b ≤ 255) (x0 : 0 ≤ r.g3.v) (x1 : r.g3.v ≤ 65535) (w : World) : Calls Tryz.prog 215 #[r.val, .int .i64 7, .int .u8 b] w fun e w' => e = .returned (.tuple #[({ r with g3 := ⟨r.g3.v % 256 + 256 * b, false⟩ } : Regs).val, .bool (!r.g3.t)]) ∧ Below w.heap.size w w' := by
  have e : bits .and .i64 7 3 = 3 := by decide
  have y0 : 0 ≤ r.g3.v / 256 := by omega
  have y1 : r.g3.v / 256 ≤ 255 := by omega
  have z0 : 0 ≤ r.g3.v % 256 := by omega
  have z1 : r.g3.v % 256 ≤ 255 := by omega
  go_enter Tryz.func215, Tryz.ntmps215
  go_wp2_with (first | (go_at_call 141; refine (word_yes _ _ (by decide) (by decide)).mono ?_; rintro e w' ⟨rfl, rfl⟩) | (go_at_call 86; refine (high_any _ _ x0 x1).mono ?_; rintro e w' ⟨rfl, rfl⟩) | (go_at_call 85; refine (low_any _ _ x0 x1).mono ?_; rintro e w' ⟨rfl, rfl⟩) | (go_at_call 105; refine (bword_any _ _ _ (by omega) (by omega) (by omega) (by omega)).mono ?_; rintro e w' ⟨rfl, rfl⟩))
  go_region
  go_wp2_with fail
  refine bodyPost_ret (results_regs2 rfl _ _ (w.heap.size + 1) 28 _ _ rfl rfl ?_) rfl ⟨rfl, ?_⟩
  · exact (row_putR ((Row.new' (by simp)).alloc _) rfl _).drew
  · exact Below.drew (Below.putR ((((Below.refl w.heap.size w).alloc (Nat.le_refl _) _).alloc (by simp) _).alloc (by simp; omega) _) (by omega) _)
theorem regsPutByte_any (r : Regs) (hr : r.wf) (n b : Int) (b0 : 0 ≤ b) (b1 : b ≤ 255) (w : World) : Calls Tryz.prog 215 #[r.val, .int .i64 n, .int .u8 b] w fun e w' => e = .returned (.tuple #[(r.putByte n b).val, .bool (r.byteC n)]) ∧ Below w.heap.size w w' := by
  by_cases h : 0 ≤ n ∧ n < 8
  · have hc : r.byteC n = !(r.get (n % 4)).t := by unfold Regs.byteC; rw [if_pos h]
    have hp : r.putByte n b = r.put (n % 4) ⟨if 3 < n then (r.get (n % 4)).v % 256 + 256 * b else b + 256 * ((r.get (n % 4)).v / 256), false⟩ := by unfold Regs.putByte; rw [if_pos h]
    rw [hp, hc]
    clear hp hc
    obtain ⟨h0, h8⟩ := h
    rcases cases8 h0 h8 with rfl | rfl | rfl | rfl | rfl | rfl | rfl | rfl
    · exact putByte_0 r b b0 b1 hr.g0.1 hr.g0.2 w
    · exact putByte_1 r b b0 b1 hr.g1.1 hr.g1.2 w
    · exact putByte_2 r b b0 b1 hr.g2.1 hr.g2.2 w
    · exact putByte_3 r b b0 b1 hr.g3.1 hr.g3.2 w
    · exact putByte_4 r b b0 b1 hr.g0.1 hr.g0.2 w
    · exact putByte_5 r b b0 b1 hr.g1.1 hr.g1.2 w
    · exact putByte_6 r b b0 b1 hr.g2.1 hr.g2.2 w
    · exact putByte_7 r b b0 b1 hr.g3.1 hr.g3.2 w
  · have hc : r.byteC n = true := by unfold Regs.byteC; rw [if_neg h]
    have hp : r.putByte n b = r := by unfold Regs.putByte; rw [if_neg h]
    rw [hp, hc]
    clear hp hc
    go_enter Tryz.func215, Tryz.ntmps215
    go_wp2_with (first | (go_at_call 141; refine (word_no _ _ (by assumption)).mono ?_; rintro e w' ⟨rfl, rfl⟩) | fail)
    refine bodyPost_ret (results_regs2 rfl _ _ (w.heap.size + 1) 28 _ _ rfl rfl ?_) rfl ⟨rfl, ?_⟩
    · exact row_putR (Row.new' (by simp)) rfl _
    · exact Below.putR (((Below.refl w.heap.size w).alloc (Nat.le_refl _) _).alloc (by simp) _) (by omega) _
end Go.Proofs.YtcglkefaopgjeaaGreatDoor
