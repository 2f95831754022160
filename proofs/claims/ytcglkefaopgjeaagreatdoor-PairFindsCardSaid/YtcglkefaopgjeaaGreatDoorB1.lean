/- The contracts of package regs. -/
import Derived.Test.YtcglkefaopgjeaaGreatDoorB0
namespace Go.Proofs.YtcglkefaopgjeaaGreatDoor
set_option linter.unusedSimpArgs false
set_option linter.unusedVariables false
open Go.RowKit

set_option maxHeartbeats 400000 in
theorem word_yes (n : Int) (w : World) (h0 : 0 ≤ n) (h8 : n < 8) : Calls Tryz.prog 141 #[.int .i64 n] w fun e w' => e = .returned (.bool true) ∧ w = w' := by
  go_enter Tryz.func141, Tryz.ntmps141
  go_wp2
  go_ret
  exact ⟨rfl, rfl⟩
set_option maxHeartbeats 400000 in
theorem word_no (n : Int) (w : World) (h : ¬ (0 ≤ n ∧ n < 8)) : Calls Tryz.prog 141 #[.int .i64 n] w fun e w' => e = .returned (.bool false) ∧ w = w' := by
  by_cases h0 : 0 ≤ n
  · have h8 : ¬ n < 8 := by omega
    clear h
    go_enter Tryz.func141, Tryz.ntmps141
    go_wp2
    go_ret
    exact ⟨rfl, rfl⟩
  · clear h
    go_enter Tryz.func141, Tryz.ntmps141
    go_wp2
    go_ret
    exact ⟨rfl, rfl⟩

set_option maxHeartbeats 800000 in
theorem get_any (r : Regs) (n : Int) (w : World) : Calls Tryz.prog 92 #[r.val, .int .i64 n] w fun e w' => e = .returned (r.get n).val ∧ Below w.heap.size w w' := by
  by_cases h : 0 ≤ n ∧ n < 8
  · obtain ⟨h0, h8⟩ := h
    rcases cases8 h0 h8 with rfl | rfl | rfl | rfl | rfl | rfl | rfl | rfl
    all_goals
      go_enter Tryz.func92, Tryz.ntmps92
      go_wp2_with (go_at_call 141; refine (word_yes _ _ (by decide) (by decide)).mono ?_; rintro e w' ⟨rfl, rfl⟩)
      refine bodyPost_ret (v := V.val _) (by simp [results, Tryz.results92, go_sem] <;> (first | done | rfl | ((repeat' apply And.intro) <;> rfl))) rfl ⟨rfl, ?_⟩
      (repeat (first | exact Below.refl _ _ | assumption | refine Below.setCell ?_ (by simp) _ | refine Below.alloc ?_ (by simp <;> omega) _ | refine Below.drew ?_ | refine Below.drewN ?_ | refine Below.setRow ?_ (by simp <;> omega) _))
  · rw [Regs.get_out r h]
    go_enter Tryz.func92, Tryz.ntmps92
    go_wp2_with (go_at_call 141; refine (word_no _ _ (by assumption)).mono ?_; rintro e w' ⟨rfl, rfl⟩)
    refine bodyPost_ret (v := V.val _) (by simp [results, Tryz.results92, go_sem] <;> (first | done | rfl | ((repeat' apply And.intro) <;> rfl))) rfl ⟨rfl, ?_⟩
    (repeat (first | exact Below.refl _ _ | assumption | refine Below.setCell ?_ (by simp) _ | refine Below.alloc ?_ (by simp <;> omega) _ | refine Below.drew ?_ | refine Below.drewN ?_ | refine Below.setRow ?_ (by simp <;> omega) _))

set_option maxHeartbeats 1600000 in
theorem put_any (r : Regs) (n : Int) (v : V) (w : World) : Calls Tryz.prog 116 #[r.val, .int .i64 n, v.val] w fun e w' => e = .returned (r.put n v).val ∧ Below w.heap.size w w' := by
  by_cases h : 0 ≤ n ∧ n < 8
  · obtain ⟨h0, h8⟩ := h
    rcases cases8 h0 h8 with rfl | rfl | rfl | rfl | rfl | rfl | rfl | rfl
    all_goals
      go_enter Tryz.func116, Tryz.ntmps116
      go_wp2_with (first | (go_at_call 141; refine (word_yes _ _ (by decide) (by decide)).mono ?_; rintro e w' ⟨rfl, rfl⟩) | (refine load_regs rfl _ rfl _ rfl ?_ ?_ ?_ ?_; rotate_left 2; (focus ((repeat (first | assumption | (refine Row.new' ?_; simp; done) | refine Row.alloc ?_ _ | refine Row.drew ?_ | refine Row.drewN ?_ | refine Row.setCell_other ?_ _ _ (by simp; omega))); done)); simp only [Act.put, List.setIfInBounds_toArray, List.set_cons_succ, List.set_cons_zero]) | (refine store_regs rfl _ _ rfl _ rfl _ rfl ?_ ?_ ?_ ?_ ?_; rotate_left 2; (focus ((repeat (first | assumption | (refine Row.new' ?_; simp; done) | refine Row.alloc ?_ _ | refine Row.drew ?_ | refine Row.drewN ?_ | refine Row.setCell_other ?_ _ _ (by simp; omega))); done)); (focus (rfl; done)); simp only [Act.put, List.setIfInBounds_toArray, List.set_cons_succ, List.set_cons_zero]; (try simp only [setRow_alloc_at, setRow_alloc_past, World.size_alloc])))
      (refine bodyPost_ret (results_regs rfl _ _ _ ?_ ?_ rfl ?_) rfl ?_; rotate_left 2; (focus ((repeat (first | assumption | (refine Row.new' ?_; simp; done) | refine Row.alloc ?_ _ | refine Row.drew ?_ | refine Row.drewN ?_ | refine Row.setCell_other ?_ _ _ (by simp; omega))); done)); refine ⟨rfl, ?_⟩)
      (repeat (first | exact Below.refl _ _ | assumption | refine Below.setCell ?_ (by simp) _ | refine Below.alloc ?_ (by simp <;> omega) _ | refine Below.drew ?_ | refine Below.drewN ?_ | refine Below.setRow ?_ (by simp <;> omega) _))
  · rw [Regs.put_out r v h]
    go_enter Tryz.func116, Tryz.ntmps116
    go_wp2_with (first | (go_at_call 141; refine (word_no _ _ (by assumption)).mono ?_; rintro e w' ⟨rfl, rfl⟩) | (refine load_regs rfl _ rfl _ rfl ?_ ?_ ?_ ?_; rotate_left 2; (focus ((repeat (first | assumption | (refine Row.new' ?_; simp; done) | refine Row.alloc ?_ _ | refine Row.drew ?_ | refine Row.drewN ?_ | refine Row.setCell_other ?_ _ _ (by simp; omega))); done)); simp only [Act.put, List.setIfInBounds_toArray, List.set_cons_succ, List.set_cons_zero]) | (refine store_regs rfl _ _ rfl _ rfl _ rfl ?_ ?_ ?_ ?_ ?_; rotate_left 2; (focus ((repeat (first | assumption | (refine Row.new' ?_; simp; done) | refine Row.alloc ?_ _ | refine Row.drew ?_ | refine Row.drewN ?_ | refine Row.setCell_other ?_ _ _ (by simp; omega))); done)); (focus (rfl; done)); simp only [Act.put, List.setIfInBounds_toArray, List.set_cons_succ, List.set_cons_zero]; (try simp only [setRow_alloc_at, setRow_alloc_past, World.size_alloc])))
    (refine bodyPost_ret (results_regs rfl _ _ _ ?_ ?_ rfl ?_) rfl ?_; rotate_left 2; (focus ((repeat (first | assumption | (refine Row.new' ?_; simp; done) | refine Row.alloc ?_ _ | refine Row.drew ?_ | refine Row.drewN ?_ | refine Row.setCell_other ?_ _ _ (by simp; omega))); done)); refine ⟨rfl, ?_⟩)
    (repeat (first | exact Below.refl _ _ | assumption | refine Below.setCell ?_ (by simp) _ | refine Below.alloc ?_ (by simp <;> omega) _ | refine Below.drew ?_ | refine Below.drewN ?_ | refine Below.setRow ?_ (by simp <;> omega) _))

set_option maxHeartbeats 800000 in
theorem seg_any (r : Regs) (n : Int) (w : World) : Calls Tryz.prog 64 #[r.val, .int .i64 n] w fun e w' => e = .returned (r.seg n).val ∧ Below w.heap.size w w' := by
  by_cases h : 0 ≤ n ∧ n ≤ 3
  · obtain ⟨h0, h8⟩ := h
    rcases cases4 h0 h8 with rfl | rfl | rfl | rfl
    all_goals
      go_enter Tryz.func64, Tryz.ntmps64
      go_wp2
      refine bodyPost_ret (v := V.val _) (by simp [results, Tryz.results64, go_sem] <;> (first | done | rfl | ((repeat' apply And.intro) <;> rfl))) rfl ⟨rfl, ?_⟩
      (repeat (first | exact Below.refl _ _ | assumption | refine Below.setCell ?_ (by simp) _ | refine Below.alloc ?_ (by simp <;> omega) _ | refine Below.drew ?_ | refine Below.drewN ?_ | refine Below.setRow ?_ (by simp <;> omega) _))
  · rw [Regs.seg_out r h]
    by_cases h0 : 0 ≤ n
    · have h3 : ¬ n ≤ 3 := by omega
      clear h
      go_enter Tryz.func64, Tryz.ntmps64
      go_wp2
      refine bodyPost_ret (v := V.val _) (by simp [results, Tryz.results64, go_sem] <;> (first | done | rfl | ((repeat' apply And.intro) <;> rfl))) rfl ⟨rfl, ?_⟩
      (repeat (first | exact Below.refl _ _ | assumption | refine Below.setCell ?_ (by simp) _ | refine Below.alloc ?_ (by simp <;> omega) _ | refine Below.drew ?_ | refine Below.drewN ?_ | refine Below.setRow ?_ (by simp <;> omega) _))
    · clear h
      go_enter Tryz.func64, Tryz.ntmps64
      go_wp2
      refine bodyPost_ret (v := V.val _) (by simp [results, Tryz.results64, go_sem] <;> (first | done | rfl | ((repeat' apply And.intro) <;> rfl))) rfl ⟨rfl, ?_⟩
      (repeat (first | exact Below.refl _ _ | assumption | refine Below.setCell ?_ (by simp) _ | refine Below.alloc ?_ (by simp <;> omega) _ | refine Below.drew ?_ | refine Below.drewN ?_ | refine Below.setRow ?_ (by simp <;> omega) _))

set_option maxHeartbeats 1600000 in
theorem putSeg_any (r : Regs) (n : Int) (v : V) (w : World) : Calls Tryz.prog 139 #[r.val, .int .i64 n, v.val] w fun e w' => e = .returned (r.putSeg n v).val ∧ Below w.heap.size w w' := by
  by_cases h : 0 ≤ n ∧ n ≤ 3
  · obtain ⟨h0, h8⟩ := h
    rcases cases4 h0 h8 with rfl | rfl | rfl | rfl
    all_goals
      go_enter Tryz.func139, Tryz.ntmps139
      go_wp2_with (first | (refine load_regs rfl _ rfl _ rfl ?_ ?_ ?_ ?_; rotate_left 2; (focus ((repeat (first | assumption | (refine Row.new' ?_; simp; done) | refine Row.alloc ?_ _ | refine Row.drew ?_ | refine Row.drewN ?_ | refine Row.setCell_other ?_ _ _ (by simp; omega))); done)); simp only [Act.put, List.setIfInBounds_toArray, List.set_cons_succ, List.set_cons_zero]) | (refine store_regs rfl _ _ rfl _ rfl _ rfl ?_ ?_ ?_ ?_ ?_; rotate_left 2; (focus ((repeat (first | assumption | (refine Row.new' ?_; simp; done) | refine Row.alloc ?_ _ | refine Row.drew ?_ | refine Row.drewN ?_ | refine Row.setCell_other ?_ _ _ (by simp; omega))); done)); (focus (rfl; done)); simp only [Act.put, List.setIfInBounds_toArray, List.set_cons_succ, List.set_cons_zero]; (try simp only [setRow_alloc_at, setRow_alloc_past, World.size_alloc])))
      (refine bodyPost_ret (results_regs rfl _ _ _ ?_ ?_ rfl ?_) rfl ?_; rotate_left 2; (focus ((repeat (first | assumption | (refine Row.new' ?_; simp; done) | refine Row.alloc ?_ _ | refine Row.drew ?_ | refine Row.drewN ?_ | refine Row.setCell_other ?_ _ _ (by simp; omega))); done)); refine ⟨rfl, ?_⟩)
      (repeat (first | exact Below.refl _ _ | assumption | refine Below.setCell ?_ (by simp) _ | refine Below.alloc ?_ (by simp <;> omega) _ | refine Below.drew ?_ | refine Below.drewN ?_ | refine Below.setRow ?_ (by simp <;> omega) _))
  · rw [Regs.putSeg_out r v h]
    by_cases h0 : 0 ≤ n
    · have h3 : ¬ n ≤ 3 := by omega
      clear h
      go_enter Tryz.func139, Tryz.ntmps139
      go_wp2_with (first | (refine load_regs rfl _ rfl _ rfl ?_ ?_ ?_ ?_; rotate_left 2; (focus ((repeat (first | assumption | (refine Row.new' ?_; simp; done) | refine Row.alloc ?_ _ | refine Row.drew ?_ | refine Row.drewN ?_ | refine Row.setCell_other ?_ _ _ (by simp; omega))); done)); simp only [Act.put, List.setIfInBounds_toArray, List.set_cons_succ, List.set_cons_zero]) | (refine store_regs rfl _ _ rfl _ rfl _ rfl ?_ ?_ ?_ ?_ ?_; rotate_left 2; (focus ((repeat (first | assumption | (refine Row.new' ?_; simp; done) | refine Row.alloc ?_ _ | refine Row.drew ?_ | refine Row.drewN ?_ | refine Row.setCell_other ?_ _ _ (by simp; omega))); done)); (focus (rfl; done)); simp only [Act.put, List.setIfInBounds_toArray, List.set_cons_succ, List.set_cons_zero]; (try simp only [setRow_alloc_at, setRow_alloc_past, World.size_alloc])))
      (refine bodyPost_ret (results_regs rfl _ _ _ ?_ ?_ rfl ?_) rfl ?_; rotate_left 2; (focus ((repeat (first | assumption | (refine Row.new' ?_; simp; done) | refine Row.alloc ?_ _ | refine Row.drew ?_ | refine Row.drewN ?_ | refine Row.setCell_other ?_ _ _ (by simp; omega))); done)); refine ⟨rfl, ?_⟩)
      (repeat (first | exact Below.refl _ _ | assumption | refine Below.setCell ?_ (by simp) _ | refine Below.alloc ?_ (by simp <;> omega) _ | refine Below.drew ?_ | refine Below.drewN ?_ | refine Below.setRow ?_ (by simp <;> omega) _))
    · clear h
      go_enter Tryz.func139, Tryz.ntmps139
      go_wp2_with (first | (refine load_regs rfl _ rfl _ rfl ?_ ?_ ?_ ?_; rotate_left 2; (focus ((repeat (first | assumption | (refine Row.new' ?_; simp; done) | refine Row.alloc ?_ _ | refine Row.drew ?_ | refine Row.drewN ?_ | refine Row.setCell_other ?_ _ _ (by simp; omega))); done)); simp only [Act.put, List.setIfInBounds_toArray, List.set_cons_succ, List.set_cons_zero]) | (refine store_regs rfl _ _ rfl _ rfl _ rfl ?_ ?_ ?_ ?_ ?_; rotate_left 2; (focus ((repeat (first | assumption | (refine Row.new' ?_; simp; done) | refine Row.alloc ?_ _ | refine Row.drew ?_ | refine Row.drewN ?_ | refine Row.setCell_other ?_ _ _ (by simp; omega))); done)); (focus (rfl; done)); simp only [Act.put, List.setIfInBounds_toArray, List.set_cons_succ, List.set_cons_zero]; (try simp only [setRow_alloc_at, setRow_alloc_past, World.size_alloc])))
      (refine bodyPost_ret (results_regs rfl _ _ _ ?_ ?_ rfl ?_) rfl ?_; rotate_left 2; (focus ((repeat (first | assumption | (refine Row.new' ?_; simp; done) | refine Row.alloc ?_ _ | refine Row.drew ?_ | refine Row.drewN ?_ | refine Row.setCell_other ?_ _ _ (by simp; omega))); done)); refine ⟨rfl, ?_⟩)
      (repeat (first | exact Below.refl _ _ | assumption | refine Below.setCell ?_ (by simp) _ | refine Below.alloc ?_ (by simp <;> omega) _ | refine Below.drew ?_ | refine Below.drewN ?_ | refine Below.setRow ?_ (by simp <;> omega) _))

/-- '&' of two words. -/
abbrev andW (a b : Int) : Int := bits .and .u16 a b

set_option maxHeartbeats 800000 in
theorem flag_any (r : Regs) (f : Int) (w : World) : Calls Tryz.prog 117 #[r.val, .int .u16 f] w fun e w' => e = .returned (.bool (andW r.f f != 0)) ∧ Below w.heap.size w w' := by
  go_enter Tryz.func117, Tryz.ntmps117
  go_wp2
  go_ret
  exact ⟨rfl, (by (repeat (first | exact Below.refl _ _ | assumption | refine Below.setCell ?_ (by simp) _ | refine Below.alloc ?_ (by simp <;> omega) _ | refine Below.drew ?_ | refine Below.drewN ?_ | refine Below.setRow ?_ (by simp <;> omega) _)))⟩

set_option maxHeartbeats 800000 in
theorem fromWord_any (r : Regs) (f : Int) (w : World) : Calls Tryz.prog 176 #[r.val, .int .u16 f] w fun e w' => e = .returned ({ r with f := andW f 4053 } : Regs).val ∧ Below w.heap.size w w' := by
  go_enter Tryz.func176, Tryz.ntmps176
  go_wp2_with (first | (refine load_regs rfl _ rfl _ rfl ?_ ?_ ?_ ?_; rotate_left 2; (focus ((repeat (first | assumption | (refine Row.new' ?_; simp; done) | refine Row.alloc ?_ _ | refine Row.drew ?_ | refine Row.drewN ?_ | refine Row.setCell_other ?_ _ _ (by simp; omega))); done)); simp only [Act.put, List.setIfInBounds_toArray, List.set_cons_succ, List.set_cons_zero]) | (refine store_regs rfl _ _ rfl _ rfl _ rfl ?_ ?_ ?_ ?_ ?_; rotate_left 2; (focus ((repeat (first | assumption | (refine Row.new' ?_; simp; done) | refine Row.alloc ?_ _ | refine Row.drew ?_ | refine Row.drewN ?_ | refine Row.setCell_other ?_ _ _ (by simp; omega))); done)); (focus (rfl; done)); simp only [Act.put, List.setIfInBounds_toArray, List.set_cons_succ, List.set_cons_zero]; (try simp only [setRow_alloc_at, setRow_alloc_past, World.size_alloc])))
  (refine bodyPost_ret (results_regs rfl _ _ _ ?_ ?_ rfl ?_) rfl ?_; rotate_left 2; (focus ((repeat (first | assumption | (refine Row.new' ?_; simp; done) | refine Row.alloc ?_ _ | refine Row.drew ?_ | refine Row.drewN ?_ | refine Row.setCell_other ?_ _ _ (by simp; omega))); done)); refine ⟨rfl, ?_⟩)
  (repeat (first | exact Below.refl _ _ | assumption | refine Below.setCell ?_ (by simp) _ | refine Below.alloc ?_ (by simp <;> omega) _ | refine Below.drew ?_ | refine Below.drewN ?_ | refine Below.setRow ?_ (by simp <;> omega) _))

end Go.Proofs.YtcglkefaopgjeaaGreatDoor
