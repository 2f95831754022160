/- Package inst, continued: second, behind, prefixes, May. -/
import Derived.Test.YtcglkefaopgjeaaGreatDoorH5
namespace Go.Proofs.YtcglkefaopgjeaaGreatDoor
set_option linter.unusedSimpArgs false
set_option linter.unusedVariables false
open Go.RowKit

structure Inst.wf (i : Inst) : Prop where
  op : 0 ≤ i.op ∧ i.op ≤ 255
  mod : 0 ≤ i.mod ∧ i.mod ≤ 3
  reg : 0 ≤ i.reg ∧ i.reg ≤ 7
  rm : 0 ≤ i.rm ∧ i.rm ≤ 7
  disp : 0 ≤ i.disp ∧ i.disp ≤ 65535
  imm : 0 ≤ i.imm ∧ i.imm ≤ 65535
  sel : 0 ≤ i.sel ∧ i.sel ≤ 65535

def secondB (i : Inst) (r : IRow) : Bool :=
  if r.mod = false then i.mod == 0 && i.reg == 0 && i.rm == 0 && i.disp == 0
  else if (i.mod == 3 && (r.a == 19 || r.b == 19 || r.b == 20)) then false
  else if dispsOf i.mod i.rm = 0 then i.disp == 0 else if dispsOf i.mod i.rm = 1 then fitsB i.disp else true

set_option maxRecDepth 100000 in
set_option maxHeartbeats 6400000 in
theorem second_any (i : Inst) (r : IRow) (w : World) (hi : i.wf) : Calls Tryz.prog 196 #[i.val, r.val] w fun e w' => e = .returned (.bool (secondB i r)) ∧ Below w.heap.size w w' := by
  obtain ⟨lock, rep, seg, op, mod, reg, rm, disp, imm, sel⟩ := i
  obtain ⟨rn, ra, rb, rmod⟩ := r
  have hd := hi.disp
  have hm := hi.mod
  have hg := hi.reg
  have hr := hi.rm
  dsimp only at hd hm hg hr
  have d1 : decide (mod < 0) = false := decide_eq_false (by omega)
  have d2 : decide (3 < mod) = false := decide_eq_false (by omega)
  have d3 : decide (reg < 0) = false := decide_eq_false (by omega)
  have d4 : decide (7 < reg) = false := decide_eq_false (by omega)
  have d5 : decide (rm < 0) = false := decide_eq_false (by omega)
  have d6 : decide (7 < rm) = false := decide_eq_false (by omega)
  clear hi hm hg hr
  cases rmod with
  | false =>
    have HE := Lib.hid (show secondB ⟨lock, rep, seg, op, mod, reg, rm, disp, imm, sel⟩ ⟨rn, ra, rb, false⟩ = (mod == 0 && reg == 0 && rm == 0 && disp == 0) from rfl)
    obtain ⟨b1, h1⟩ : ∃ b, (mod == 0) = b := ⟨_, rfl⟩
    obtain ⟨b2, h2⟩ : ∃ b, (reg == 0) = b := ⟨_, rfl⟩
    obtain ⟨b3, h3⟩ : ∃ b, (rm == 0) = b := ⟨_, rfl⟩
    obtain ⟨b4, h4⟩ : ∃ b, (disp == 0) = b := ⟨_, rfl⟩
    have HB := Lib.hid (show secondB ⟨lock, rep, seg, op, mod, reg, rm, disp, imm, sel⟩ ⟨rn, ra, rb, false⟩ = (b1 && b2 && b3 && b4) by rw [HE.out, h1, h2, h3, h4])
    clear HE
    cases b1 <;> cases b2 <;> cases b3
    all_goals
      go_enter Tryz.func196, Tryz.ntmps196
      go_wp2
      go_ret
      exact ⟨by rw [HB.out]; rfl, by (repeat (first | exact Below.refl _ _ | assumption | refine Below.setCell ?_ (by simp) _ | refine Below.alloc ?_ (by simp <;> omega) _ | refine Below.drew ?_ | refine Below.drewN ?_ | refine Below.setRow ?_ (by simp <;> omega) _))⟩
  | true =>
    obtain ⟨b1, h1⟩ : ∃ b, (mod == 3) = b := ⟨_, rfl⟩
    obtain ⟨b2, h2⟩ : ∃ b, (ra == 19) = b := ⟨_, rfl⟩
    obtain ⟨b3, h3⟩ : ∃ b, (rb == 19) = b := ⟨_, rfl⟩
    obtain ⟨b4, h4⟩ : ∃ b, (rb == 20) = b := ⟨_, rfl⟩
    have HB := Lib.hid (show secondB ⟨lock, rep, seg, op, mod, reg, rm, disp, imm, sel⟩ ⟨rn, ra, rb, true⟩ = if (b1 && (b2 || b3 || b4)) then false else if dispsOf mod rm = 0 then disp == 0 else if dispsOf mod rm = 1 then fitsB disp else true by rw [← h1, ← h2, ← h3, ← h4]; rfl)
    obtain ⟨dd, hdd⟩ : ∃ dd, dispsOf mod rm = dd := ⟨_, rfl⟩
    rw [hdd] at HB
    have HD := Lib.hid hdd
    have hd3 : dd = 0 ∨ dd = 1 ∨ dd = 2 := by rw [← hdd]; unfold dispsOf; split; simp; split <;> simp
    clear hdd
    cases b1
    · rcases hd3 with rfl | rfl | rfl
      all_goals
        go_enter Tryz.func196, Tryz.ntmps196
        go_wp2_with (first | (go_at_call 194; refine (disps_any _ _ _).mono ?_; rw [HD.out]; rintro e w' ⟨rfl, rfl⟩) | (go_at_call 213; refine (fits_any _ _ hd.1 hd.2).mono ?_; rintro e w' ⟨rfl, rfl⟩))
        go_ret
        exact ⟨by rw [HB.out]; rfl, by (repeat (first | exact Below.refl _ _ | assumption | refine Below.setCell ?_ (by simp) _ | refine Below.alloc ?_ (by simp <;> omega) _ | refine Below.drew ?_ | refine Below.drewN ?_ | refine Below.setRow ?_ (by simp <;> omega) _))⟩
    · cases b2 <;> cases b3 <;> cases b4
      · rcases hd3 with rfl | rfl | rfl
        all_goals
          go_enter Tryz.func196, Tryz.ntmps196
          go_wp2_with (first | (go_at_call 194; refine (disps_any _ _ _).mono ?_; rw [HD.out]; rintro e w' ⟨rfl, rfl⟩) | (go_at_call 213; refine (fits_any _ _ hd.1 hd.2).mono ?_; rintro e w' ⟨rfl, rfl⟩))
          go_ret
          exact ⟨by rw [HB.out]; rfl, by (repeat (first | exact Below.refl _ _ | assumption | refine Below.setCell ?_ (by simp) _ | refine Below.alloc ?_ (by simp <;> omega) _ | refine Below.drew ?_ | refine Below.drewN ?_ | refine Below.setRow ?_ (by simp <;> omega) _))⟩
      all_goals
        go_enter Tryz.func196, Tryz.ntmps196
        go_wp2
        go_ret
        exact ⟨by rw [HB.out]; rfl, by (repeat (first | exact Below.refl _ _ | assumption | refine Below.setCell ?_ (by simp) _ | refine Below.alloc ?_ (by simp <;> omega) _ | refine Below.drew ?_ | refine Below.drewN ?_ | refine Below.setRow ?_ (by simp <;> omega) _))⟩

def prefixesB (i : Inst) (r : IRow) : Bool :=
  (i.rep == 0 || (i.rep == 1 && decide (2 ≤ repsOf r.name)) || (i.rep == 2 && decide (1 ≤ repsOf r.name))) && decide (0 ≤ i.seg) && decide (i.seg ≤ 4)

set_option maxRecDepth 100000 in
set_option maxHeartbeats 6400000 in
theorem prefixes_any (i : Inst) (r : IRow) (w : World) : Calls Tryz.prog 198 #[i.val, r.val] w fun e w' => e = .returned (.bool (prefixesB i r)) ∧ Below w.heap.size w w' := by
  obtain ⟨lock, rep, seg, op, mod, reg, rm, disp, imm, sel⟩ := i
  obtain ⟨rn, ra, rb, rmod⟩ := r
  obtain ⟨n, hn⟩ : ∃ n, repsOf rn = n := ⟨_, rfl⟩
  have hn3 : n = 0 ∨ n = 1 ∨ n = 2 := by rw [← hn]; unfold repsOf; split; simp; split <;> simp
  have HN := Lib.hid hn
  have hr : rep = 0 ∨ rep = 1 ∨ rep = 2 ∨ ((rep == 0) = false ∧ (rep == 1) = false ∧ (rep == 2) = false) := by simp only [beq_eq_false_iff_ne]; omega
  obtain ⟨s1, hs1⟩ : ∃ b, decide (0 ≤ seg) = b := ⟨_, rfl⟩
  obtain ⟨s2, hs2⟩ : ∃ b, decide (seg ≤ 4) = b := ⟨_, rfl⟩
  have HB := Lib.hid (show prefixesB ⟨lock, rep, seg, op, mod, reg, rm, disp, imm, sel⟩ ⟨rn, ra, rb, rmod⟩ = ((rep == 0 || (rep == 1 && decide (2 ≤ n)) || (rep == 2 && decide (1 ≤ n))) && s1 && s2) by rw [prefixesB, hn, hs1, hs2])
  clear hn
  rcases hr with rfl | rfl | rfl | ⟨t0, t1, t2⟩ <;> rcases hn3 with rfl | rfl | rfl <;> cases s1
  all_goals
    go_enter Tryz.func198, Tryz.ntmps198
    go_wp2_with (go_at_call 71; refine (reps_any _ _).mono ?_; rw [HN.out]; rintro e w' ⟨rfl, rfl⟩)
    go_ret
    exact ⟨by rw [HB.out]; first | rfl | (simp only [*]; rfl), by (repeat (first | exact Below.refl _ _ | assumption | refine Below.setCell ?_ (by simp) _ | refine Below.alloc ?_ (by simp <;> omega) _ | refine Below.drew ?_ | refine Below.drewN ?_ | refine Below.setRow ?_ (by simp <;> omega) _))⟩
end Go.Proofs.YtcglkefaopgjeaaGreatDoor
