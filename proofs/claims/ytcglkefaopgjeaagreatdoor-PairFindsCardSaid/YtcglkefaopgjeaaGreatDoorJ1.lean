/- Package regs: bytes of registers, flags. -/
import Derived.Test.YtcglkefaopgjeaaGreatDoorJ0
namespace Go.Proofs.YtcglkefaopgjeaaGreatDoor
set_option linter.unusedSimpArgs false
set_option linter.unusedVariables false
open Go.RowKit

set_option maxRecDepth 100000 in
set_option maxHeartbeats 1600000 in
theorem regsByte_any (r : Regs) (hr : r.wf) (n : Int) (w : World) : Calls Tryz.prog 163 #[r.val, .int .i64 n] w fun e w' => e = .returned (.tuple #[.int .u8 (r.byteV n), .bool (r.byteC n)]) ∧ Below w.heap.size w w' := by
  by_cases h : 0 ≤ n ∧ n < 8
  · have hv : r.byteV n = if 3 < n then (r.get (n % 4)).v / 256 else (r.get (n % 4)).v % 256 := by unfold Regs.byteV; rw [if_pos h]
    have hc : r.byteC n = !(r.get (n % 4)).t := by unfold Regs.byteC; rw [if_pos h]
    rw [hv, hc]
    clear hv hc
    obtain ⟨h0, h8⟩ := h
    rcases cases8 h0 h8 with rfl | rfl | rfl | rfl | rfl | rfl | rfl | rfl
    · have x0 := hr.g0.1; have x1 := hr.g0.2
      clear hr
      have e : bits .and .i64 0 3 = 0 := by decide
      go_enter Tryz.func163, Tryz.ntmps163
      go_wp2_with (go_at_call 141; refine (word_yes _ _ (by decide) (by decide)).mono ?_; rintro e w' ⟨rfl, rfl⟩)
      go_quiet ((go_at_call 85; exact quietS (low_any _ _ x0 x1)))
      go_wp2_with fail
      go_ret2
      exact ⟨rfl, by (repeat (first | exact Below.refl _ _ | assumption | refine Below.setCell ?_ (by simp) _ | refine Below.alloc ?_ (by simp <;> omega) _ | refine Below.drew ?_ | refine Below.drewN ?_ | refine Below.setRow ?_ (by simp <;> omega) _))⟩
    · have x0 := hr.g1.1; have x1 := hr.g1.2
      clear hr
      have e : bits .and .i64 1 3 = 1 := by decide
      go_enter Tryz.func163, Tryz.ntmps163
      go_wp2_with (go_at_call 141; refine (word_yes _ _ (by decide) (by decide)).mono ?_; rintro e w' ⟨rfl, rfl⟩)
      go_quiet ((go_at_call 85; exact quietS (low_any _ _ x0 x1)))
      go_wp2_with fail
      go_ret2
      exact ⟨rfl, by (repeat (first | exact Below.refl _ _ | assumption | refine Below.setCell ?_ (by simp) _ | refine Below.alloc ?_ (by simp <;> omega) _ | refine Below.drew ?_ | refine Below.drewN ?_ | refine Below.setRow ?_ (by simp <;> omega) _))⟩
    · have x0 := hr.g2.1; have x1 := hr.g2.2
      clear hr
      have e : bits .and .i64 2 3 = 2 := by decide
      go_enter Tryz.func163, Tryz.ntmps163
      go_wp2_with (go_at_call 141; refine (word_yes _ _ (by decide) (by decide)).mono ?_; rintro e w' ⟨rfl, rfl⟩)
      go_quiet ((go_at_call 85; exact quietS (low_any _ _ x0 x1)))
      go_wp2_with fail
      go_ret2
      exact ⟨rfl, by (repeat (first | exact Below.refl _ _ | assumption | refine Below.setCell ?_ (by simp) _ | refine Below.alloc ?_ (by simp <;> omega) _ | refine Below.drew ?_ | refine Below.drewN ?_ | refine Below.setRow ?_ (by simp <;> omega) _))⟩
    · have x0 := hr.g3.1; have x1 := hr.g3.2
      clear hr
      have e : bits .and .i64 3 3 = 3 := by decide
      go_enter Tryz.func163, Tryz.ntmps163
      go_wp2_with (go_at_call 141; refine (word_yes _ _ (by decide) (by decide)).mono ?_; rintro e w' ⟨rfl, rfl⟩)
      go_quiet ((go_at_call 85; exact quietS (low_any _ _ x0 x1)))
      go_wp2_with fail
      go_ret2
      exact ⟨rfl, by (repeat (first | exact Below.refl _ _ | assumption | refine Below.setCell ?_ (by simp) _ | refine Below.alloc ?_ (by simp <;> omega) _ | refine Below.drew ?_ | refine Below.drewN ?_ | refine Below.setRow ?_ (by simp <;> omega) _))⟩
    · have x0 := hr.g0.1; have x1 := hr.g0.2
      clear hr
      have e : bits .and .i64 4 3 = 0 := by decide
      go_enter Tryz.func163, Tryz.ntmps163
      go_wp2_with (go_at_call 141; refine (word_yes _ _ (by decide) (by decide)).mono ?_; rintro e w' ⟨rfl, rfl⟩)
      go_quiet ((go_at_call 86; exact quietS (high_any _ _ x0 x1)))
      go_wp2_with fail
      go_ret2
      exact ⟨rfl, by (repeat (first | exact Below.refl _ _ | assumption | refine Below.setCell ?_ (by simp) _ | refine Below.alloc ?_ (by simp <;> omega) _ | refine Below.drew ?_ | refine Below.drewN ?_ | refine Below.setRow ?_ (by simp <;> omega) _))⟩
    · have x0 := hr.g1.1; have x1 := hr.g1.2
      clear hr
      have e : bits .and .i64 5 3 = 1 := by decide
      go_enter Tryz.func163, Tryz.ntmps163
      go_wp2_with (go_at_call 141; refine (word_yes _ _ (by decide) (by decide)).mono ?_; rintro e w' ⟨rfl, rfl⟩)
      go_quiet ((go_at_call 86; exact quietS (high_any _ _ x0 x1)))
      go_wp2_with fail
      go_ret2
      exact ⟨rfl, by (repeat (first | exact Below.refl _ _ | assumption | refine Below.setCell ?_ (by simp) _ | refine Below.alloc ?_ (by simp <;> omega) _ | refine Below.drew ?_ | refine Below.drewN ?_ | refine Below.setRow ?_ (by simp <;> omega) _))⟩
    · have x0 := hr.g2.1; have x1 := hr.g2.2
      clear hr
      have e : bits .and .i64 6 3 = 2 := by decide
      go_enter Tryz.func163, Tryz.ntmps163
      go_wp2_with (go_at_call 141; refine (word_yes _ _ (by decide) (by decide)).mono ?_; rintro e w' ⟨rfl, rfl⟩)
      go_quiet ((go_at_call 86; exact quietS (high_any _ _ x0 x1)))
      go_wp2_with fail
      go_ret2
      exact ⟨rfl, by (repeat (first | exact Below.refl _ _ | assumption | refine Below.setCell ?_ (by simp) _ | refine Below.alloc ?_ (by simp <;> omega) _ | refine Below.drew ?_ | refine Below.drewN ?_ | refine Below.setRow ?_ (by simp <;> omega) _))⟩
    · have x0 := hr.g3.1; have x1 := hr.g3.2
      clear hr
      have e : bits .and .i64 7 3 = 3 := by decide
      go_enter Tryz.func163, Tryz.ntmps163
      go_wp2_with (go_at_call 141; refine (word_yes _ _ (by decide) (by decide)).mono ?_; rintro e w' ⟨rfl, rfl⟩)
      go_quiet ((go_at_call 86; exact quietS (high_any _ _ x0 x1)))
      go_wp2_with fail
      go_ret2
      exact ⟨rfl, by (repeat (first | exact Below.refl _ _ | assumption | refine Below.setCell ?_ (by simp) _ | refine Below.alloc ?_ (by simp <;> omega) _ | refine Below.drew ?_ | refine Below.drewN ?_ | refine Below.setRow ?_ (by simp <;> omega) _))⟩
  · have hv : r.byteV n = 0 := by unfold Regs.byteV; rw [if_neg h]
    have hc : r.byteC n = true := by unfold Regs.byteC; rw [if_neg h]
    rw [hv, hc]
    clear hv hc
    go_enter Tryz.func163, Tryz.ntmps163
    go_wp2_with (go_at_call 141; refine (word_no _ _ (by assumption)).mono ?_; rintro e w' ⟨rfl, rfl⟩)
    go_ret2
    exact ⟨rfl, by (repeat (first | exact Below.refl _ _ | assumption | refine Below.setCell ?_ (by simp) _ | refine Below.alloc ?_ (by simp <;> omega) _ | refine Below.drew ?_ | refine Below.drewN ?_ | refine Below.setRow ?_ (by simp <;> omega) _))⟩

abbrev orW (a b : Int) : Int := bits .or .u16 a b
set_option maxHeartbeats 800000 in
theorem flagsWord_any (r : Regs) (w : World) : Calls Tryz.prog 180 #[r.val] w fun e w' => e = .returned (.int .u16 (orW (andW r.f 4053) 61442)) ∧ Below w.heap.size w w' := by
  go_enter Tryz.func180, Tryz.ntmps180
  go_wp2
  go_ret
  exact ⟨rfl, (by (repeat (first | exact Below.refl _ _ | assumption | refine Below.setCell ?_ (by simp) _ | refine Below.alloc ?_ (by simp <;> omega) _ | refine Below.drew ?_ | refine Below.drewN ?_ | refine Below.setRow ?_ (by simp <;> omega) _)))⟩
abbrev andNotW (a b : Int) : Int := bits .andNot .u16 a b
/-- The registers with a flag set, or not. -/
def Regs.withF (r : Regs) (f : Int) (on : Bool) : Regs := { r with f := if on then orW (andNotW r.f (andW f 4053)) (andW f 4053) else andNotW r.f (andW f 4053) }
set_option maxHeartbeats 1600000 in
theorem with_any (r : Regs) (f : Int) (on : Bool) (w : World) : Calls Tryz.prog 182 #[r.val, .int .u16 f, .bool on] w fun e w' => e = .returned (r.withF f on).val ∧ Below w.heap.size w w' := by
  cases on with
  | false =>
    rw [show r.withF f false = { r with f := andNotW r.f (andW f 4053) } from rfl]
    go_enter Tryz.func182, Tryz.ntmps182
    go_wp2_with (first | (refine load_regs rfl _ rfl _ rfl ?_ ?_ ?_ ?_; rotate_left 2; (focus ((repeat (first | assumption | (refine Row.new' ?_; simp; done) | refine Row.alloc ?_ _ | refine Row.drew ?_ | refine Row.drewN ?_ | refine Row.setCell_other ?_ _ _ (by simp; omega))); done)); simp only [Act.put, List.setIfInBounds_toArray, List.set_cons_succ, List.set_cons_zero]) | (refine store_regs rfl _ _ rfl _ rfl _ rfl ?_ ?_ ?_ ?_ ?_; rotate_left 2; (focus ((repeat (first | assumption | (refine Row.new' ?_; simp; done) | refine Row.alloc ?_ _ | refine Row.drew ?_ | refine Row.drewN ?_ | refine Row.setCell_other ?_ _ _ (by simp; omega))); done)); (focus (rfl; done)); simp only [Act.put, List.setIfInBounds_toArray, List.set_cons_succ, List.set_cons_zero]; (try simp only [setRow_alloc_at, setRow_alloc_past, World.size_alloc])))
    (refine bodyPost_ret (results_regs rfl _ _ _ ?_ ?_ rfl ?_) rfl ?_; rotate_left 2; (focus ((repeat (first | assumption | (refine Row.new' ?_; simp; done) | refine Row.alloc ?_ _ | refine Row.drew ?_ | refine Row.drewN ?_ | refine Row.setCell_other ?_ _ _ (by simp; omega))); done)); refine ⟨rfl, ?_⟩)
    (repeat (first | exact Below.refl _ _ | assumption | refine Below.setCell ?_ (by simp) _ | refine Below.alloc ?_ (by simp <;> omega) _ | refine Below.drew ?_ | refine Below.drewN ?_ | refine Below.setRow ?_ (by simp <;> omega) _))
  | true =>
    rw [show r.withF f true = { r with f := orW (andNotW r.f (andW f 4053)) (andW f 4053) } from rfl]
    go_enter Tryz.func182, Tryz.ntmps182
    go_wp2_with (first | (refine load_regs rfl _ rfl _ rfl ?_ ?_ ?_ ?_; rotate_left 2; (focus ((repeat (first | assumption | (refine Row.new' ?_; simp; done) | refine Row.alloc ?_ _ | refine Row.drew ?_ | refine Row.drewN ?_ | refine Row.setCell_other ?_ _ _ (by simp; omega))); done)); simp only [Act.put, List.setIfInBounds_toArray, List.set_cons_succ, List.set_cons_zero]) | (refine store_regs rfl _ _ rfl _ rfl _ rfl ?_ ?_ ?_ ?_ ?_; rotate_left 2; (focus ((repeat (first | assumption | (refine Row.new' ?_; simp; done) | refine Row.alloc ?_ _ | refine Row.drew ?_ | refine Row.drewN ?_ | refine Row.setCell_other ?_ _ _ (by simp; omega))); done)); (focus (rfl; done)); simp only [Act.put, List.setIfInBounds_toArray, List.set_cons_succ, List.set_cons_zero]; (try simp only [setRow_alloc_at, setRow_alloc_past, World.size_alloc])))
    (refine bodyPost_ret (results_regs rfl _ _ _ ?_ ?_ rfl ?_) rfl ?_; rotate_left 2; (focus ((repeat (first | assumption | (refine Row.new' ?_; simp; done) | refine Row.alloc ?_ _ | refine Row.drew ?_ | refine Row.drewN ?_ | refine Row.setCell_other ?_ _ _ (by simp; omega))); done)); refine ⟨rfl, ?_⟩)
    (repeat (first | exact Below.refl _ _ | assumption | refine Below.setCell ?_ (by simp) _ | refine Below.alloc ?_ (by simp <;> omega) _ | refine Below.drew ?_ | refine Below.drewN ?_ | refine Below.setRow ?_ (by simp <;> omega) _))
end Go.Proofs.YtcglkefaopgjeaaGreatDoor
