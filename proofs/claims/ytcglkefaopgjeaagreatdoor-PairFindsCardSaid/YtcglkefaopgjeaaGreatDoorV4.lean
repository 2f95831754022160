/- Parts of the proof, in one text: YtcglkefaopgjeaaGreatDoorN0 YtcglkefaopgjeaaGreatDoorN1 YtcglkefaopgjeaaGreatDoorN2 YtcglkefaopgjeaaGreatDoorN3 YtcglkefaopgjeaaGreatDoorN4 YtcglkefaopgjeaaGreatDoorN5 YtcglkefaopgjeaaGreatDoorN6 YtcglkefaopgjeaaGreatDoorN7 YtcglkefaopgjeaaGreatDoorN8 YtcglkefaopgjeaaGreatDoorN9 YtcglkefaopgjeaaGreatDoorT0 YtcglkefaopgjeaaGreatDoorT1 YtcglkefaopgjeaaGreatDoorT2. Each part's own remark says what it proves; conditions: those of each theorem. -/
import Derived.Test.YtcglkefaopgjeaaGreatDoorV2
import Derived.Test.YtcglkefaopgjeaaGreatDoorV3
import Derived.Test.YtcglkefaopgjeaaGreatDoorJ7

/- Package addr: Default. -/
namespace Go.Proofs.YtcglkefaopgjeaaGreatDoor
set_option linter.unusedSimpArgs false
set_option linter.unusedVariables false
open Go.RowKit

set_option maxRecDepth 100000 in
set_option maxHeartbeats 3200000 in
theorem default_any (i : Inst) (w : World) : Calls Tryz.prog 68 #[i.val] w fun e w' => e = .returned (.int .i64 i.defSeg) ∧ Below w.heap.size w w' := by
  obtain ⟨lock, rep, seg, op, mod, reg, rm, disp, imm, sel⟩ := i
  obtain ⟨d, hd⟩ : ∃ d, Inst.defSeg ⟨lock, rep, seg, op, mod, reg, rm, disp, imm, sel⟩ = d := ⟨_, rfl⟩
  rw [hd]
  unfold Inst.defSeg at hd
  dsimp only at hd
  by_cases a1 : 0 < seg ∧ seg ≤ 4
  · rw [if_pos a1] at hd
    have h1 : decide (0 < seg) = true := by simp [a1.1]
    have h2 : decide (seg ≤ 4) = true := by simp [a1.2]
    have hw : IntKind.i64.wrap (seg - 1) = d := by rw [IntKind.wrap_i64]; omega
    clear a1 hd
    go_enter Tryz.func68, Tryz.ntmps68
    go_wp2_with fail
    go_ret
    exact ⟨rfl, by (repeat (first | exact Below.refl _ _ | assumption | refine Below.setCell ?_ (by simp) _ | refine Below.alloc ?_ (by simp <;> omega) _ | refine Below.drew ?_ | refine Below.drewN ?_ | refine Below.setRow ?_ (by simp <;> omega) _))⟩
  · rw [if_neg a1] at hd
    have h12 : decide (0 < seg) = false ∨ (decide (0 < seg) = true ∧ decide (seg ≤ 4) = false) := by
      simp only [decide_eq_false_iff_not, decide_eq_true_eq]
      omega
    clear a1
    by_cases m3 : mod = 3
    · rw [if_pos m3] at hd
      have h3 : (mod == 3) = true := by simp [m3]
      have M3 := Lib.hid m3
      clear m3
      subst hd
      rcases h12 with h1 | ⟨h1, h2⟩
      · go_enter Tryz.func68, Tryz.ntmps68
        go_wp2_with fail
        go_ret
        exact ⟨rfl, by (repeat (first | exact Below.refl _ _ | assumption | refine Below.setCell ?_ (by simp) _ | refine Below.alloc ?_ (by simp <;> omega) _ | refine Below.drew ?_ | refine Below.drewN ?_ | refine Below.setRow ?_ (by simp <;> omega) _))⟩
      · go_enter Tryz.func68, Tryz.ntmps68
        go_wp2_with fail
        go_ret
        exact ⟨rfl, by (repeat (first | exact Below.refl _ _ | assumption | refine Below.setCell ?_ (by simp) _ | refine Below.alloc ?_ (by simp <;> omega) _ | refine Below.drew ?_ | refine Below.drewN ?_ | refine Below.setRow ?_ (by simp <;> omega) _))⟩
    · rw [if_neg m3] at hd
      have h3 : (mod == 3) = false := by simp [m3]
      clear m3
      have cs : (rm = 2 ∧ d = 2) ∨ (rm ≠ 2 ∧ rm = 3 ∧ d = 2) ∨ (rm ≠ 2 ∧ rm ≠ 3 ∧ rm = 6 ∧ mod ≠ 0 ∧ d = 2) ∨ (rm ≠ 2 ∧ rm ≠ 3 ∧ rm = 6 ∧ mod = 0 ∧ d = 3) ∨ (rm ≠ 2 ∧ rm ≠ 3 ∧ rm ≠ 6 ∧ d = 3) := by
        split at hd <;> omega
      clear hd
      rcases cs with ⟨r2, rfl⟩ | ⟨r2, r3, rfl⟩ | ⟨r2, r3, r6, m0, rfl⟩ | ⟨r2, r3, r6, m0, rfl⟩ | ⟨r2, r3, r6, rfl⟩
      · have g2 : (rm == 2) = true := by simp [r2]
        clear r2
        rcases h12 with h1 | ⟨h1, h2⟩
        · go_enter Tryz.func68, Tryz.ntmps68
          go_wp2_with fail
          go_ret
          exact ⟨rfl, by (repeat (first | exact Below.refl _ _ | assumption | refine Below.setCell ?_ (by simp) _ | refine Below.alloc ?_ (by simp <;> omega) _ | refine Below.drew ?_ | refine Below.drewN ?_ | refine Below.setRow ?_ (by simp <;> omega) _))⟩
        · go_enter Tryz.func68, Tryz.ntmps68
          go_wp2_with fail
          go_ret
          exact ⟨rfl, by (repeat (first | exact Below.refl _ _ | assumption | refine Below.setCell ?_ (by simp) _ | refine Below.alloc ?_ (by simp <;> omega) _ | refine Below.drew ?_ | refine Below.drewN ?_ | refine Below.setRow ?_ (by simp <;> omega) _))⟩
      · have g2 : (rm == 2) = false := by simp [r2]
        have g3 : (rm == 3) = true := by simp [r3]
        clear r2 r3
        rcases h12 with h1 | ⟨h1, h2⟩
        · go_enter Tryz.func68, Tryz.ntmps68
          go_wp2_with fail
          go_ret
          exact ⟨rfl, by (repeat (first | exact Below.refl _ _ | assumption | refine Below.setCell ?_ (by simp) _ | refine Below.alloc ?_ (by simp <;> omega) _ | refine Below.drew ?_ | refine Below.drewN ?_ | refine Below.setRow ?_ (by simp <;> omega) _))⟩
        · go_enter Tryz.func68, Tryz.ntmps68
          go_wp2_with fail
          go_ret
          exact ⟨rfl, by (repeat (first | exact Below.refl _ _ | assumption | refine Below.setCell ?_ (by simp) _ | refine Below.alloc ?_ (by simp <;> omega) _ | refine Below.drew ?_ | refine Below.drewN ?_ | refine Below.setRow ?_ (by simp <;> omega) _))⟩
      · have g2 : (rm == 2) = false := by simp [r2]
        have g3 : (rm == 3) = false := by simp [r3]
        have g6 : (rm == 6) = true := by simp [r6]
        have g0 : (mod != 0) = true := by simp [m0]
        clear r2 r3 r6 m0
        rcases h12 with h1 | ⟨h1, h2⟩
        · go_enter Tryz.func68, Tryz.ntmps68
          go_wp2_with fail
          go_ret
          exact ⟨rfl, by (repeat (first | exact Below.refl _ _ | assumption | refine Below.setCell ?_ (by simp) _ | refine Below.alloc ?_ (by simp <;> omega) _ | refine Below.drew ?_ | refine Below.drewN ?_ | refine Below.setRow ?_ (by simp <;> omega) _))⟩
        · go_enter Tryz.func68, Tryz.ntmps68
          go_wp2_with fail
          go_ret
          exact ⟨rfl, by (repeat (first | exact Below.refl _ _ | assumption | refine Below.setCell ?_ (by simp) _ | refine Below.alloc ?_ (by simp <;> omega) _ | refine Below.drew ?_ | refine Below.drewN ?_ | refine Below.setRow ?_ (by simp <;> omega) _))⟩
      · have g2 : (rm == 2) = false := by simp [r2]
        have g3 : (rm == 3) = false := by simp [r3]
        have g6 : (rm == 6) = true := by simp [r6]
        have g0 : (mod != 0) = false := by simp [m0]
        clear r2 r3 r6 m0
        rcases h12 with h1 | ⟨h1, h2⟩
        · go_enter Tryz.func68, Tryz.ntmps68
          go_wp2_with fail
          go_ret
          exact ⟨rfl, by (repeat (first | exact Below.refl _ _ | assumption | refine Below.setCell ?_ (by simp) _ | refine Below.alloc ?_ (by simp <;> omega) _ | refine Below.drew ?_ | refine Below.drewN ?_ | refine Below.setRow ?_ (by simp <;> omega) _))⟩
        · go_enter Tryz.func68, Tryz.ntmps68
          go_wp2_with fail
          go_ret
          exact ⟨rfl, by (repeat (first | exact Below.refl _ _ | assumption | refine Below.setCell ?_ (by simp) _ | refine Below.alloc ?_ (by simp <;> omega) _ | refine Below.drew ?_ | refine Below.drewN ?_ | refine Below.setRow ?_ (by simp <;> omega) _))⟩
      · have g2 : (rm == 2) = false := by simp [r2]
        have g3 : (rm == 3) = false := by simp [r3]
        have g6 : (rm == 6) = false := by simp [r6]
        clear r2 r3 r6
        rcases h12 with h1 | ⟨h1, h2⟩
        · go_enter Tryz.func68, Tryz.ntmps68
          go_wp2_with fail
          go_ret
          exact ⟨rfl, by (repeat (first | exact Below.refl _ _ | assumption | refine Below.setCell ?_ (by simp) _ | refine Below.alloc ?_ (by simp <;> omega) _ | refine Below.drew ?_ | refine Below.drewN ?_ | refine Below.setRow ?_ (by simp <;> omega) _))⟩
        · go_enter Tryz.func68, Tryz.ntmps68
          go_wp2_with fail
          go_ret
          exact ⟨rfl, by (repeat (first | exact Below.refl _ _ | assumption | refine Below.setCell ?_ (by simp) _ | refine Below.alloc ?_ (by simp <;> omega) _ | refine Below.drew ?_ | refine Below.drewN ?_ | refine Below.setRow ?_ (by simp <;> omega) _))⟩
end Go.Proofs.YtcglkefaopgjeaaGreatDoor

/- Package addr: Off. -/
namespace Go.Proofs.YtcglkefaopgjeaaGreatDoor
set_option linter.unusedSimpArgs false
set_option linter.unusedVariables false
open Go.RowKit

/-- The words of hansom/addr.bases. -/
def basesC : Array Value := #[.int .i64 3, .int .i64 6, .int .i64 3, .int .i64 7, .int .i64 5, .int .i64 6, .int .i64 5, .int .i64 7, .int .i64 6, .int .i64 (-1), .int .i64 7, .int .i64 (-1), .int .i64 5, .int .i64 (-1), .int .i64 3, .int .i64 (-1)]
def offSt (r : Regs) (i : Inst) : Nat → Int × Bool
  | 0 => (i.disp, true)
  | 1 => r.offOn (i.disp, true) (basesOf i.rm).1
  | _ => r.offOn (r.offOn (i.disp, true) (basesOf i.rm).1) (basesOf i.rm).2
theorem bases_at (rm : Int) (h0 : 0 ≤ rm) (h1 : rm < 8) : basesC[rm.toNat * 2]? = some (.int .i64 (basesOf rm).1) ∧ basesC[rm.toNat * 2 + 1]? = some (.int .i64 (basesOf rm).2) := by
  have hc : rm = 0 ∨ rm = 1 ∨ rm = 2 ∨ rm = 3 ∨ rm = 4 ∨ rm = 5 ∨ rm = 6 ∨ rm = 7 := by omega
  rcases hc with rfl | rfl | rfl | rfl | rfl | rfl | rfl | rfl <;> exact ⟨rfl, rfl⟩

theorem offSt_step0 (r : Regs) (i : Inst) : offSt r i 1 = r.offOn (offSt r i 0) (basesOf i.rm).1 := rfl
theorem offSt_step1 (r : Regs) (i : Inst) : offSt r i 2 = r.offOn (offSt r i 1) (basesOf i.rm).2 := rfl
theorem offOn_wf (r : Regs) (p : Int × Bool) (n : Int) (h : 0 ≤ p.1 ∧ p.1 ≤ 65535) : 0 ≤ (r.offOn p n).1 ∧ (r.offOn p n).1 ≤ 65535 := by
  unfold Regs.offOn
  split
  · exact h
  · exact ⟨wrap16_lo _, wrap16_hi _⟩
def offK (r : Regs) (disp b1 b2 : Int) : Nat → Int × Bool
  | 0 => (disp, true)
  | 1 => r.offOn (disp, true) b1
  | _ => r.offOn (r.offOn (disp, true) b1) b2
/-- What one round of Off does. -/
structure OffIn (w wr : World) (r : Regs) : Prop where
  b : Below w.heap.size w wr
  r : Row wr w.heap.size r.cells 28

set_option maxRecDepth 100000 in
set_option maxHeartbeats 3200000 in
/-- Off from its loop on. -/
theorem off_any (r : Regs) (i : Inst) (w : World) (t : TypeId) (hb : Row w 0 basesC t) : Calls Tryz.prog 67 #[r.val, i.val] w fun e w' => e = .returned (.tuple #[.int .u16 (r.offOf i).1, .bool (r.offOf i).2]) ∧ Below w.heap.size w w' := by
  have h1 := ((Row.new w r.cells 28).alloc (.cells i.cells 30))
  have h2 := Row.new' (w := w.alloc (.cells r.cells 28)) (n := w.heap.size + 1) (cs := i.cells) (t := 30) (by simp)
  have h3 := ((Below.refl w.heap.size w).alloc (Nat.le_refl _) (.cells r.cells 28)).alloc (by simp) (.cells i.cells 30)
  have h4 := (hb.alloc (.cells r.cells 28)).alloc (.cells i.cells 30)
  have H1 := Lib.hid h1
  have H3 := Lib.hid h3
  have H4 := Lib.hid h4
  have xi := h2.cell
  clear h1 h2 h3 h4 hb
  obtain ⟨lock, rep, seg, op, mod, reg, rm, disp, imm, sel⟩ := i
  obtain ⟨R, hR⟩ : ∃ R, r.offOf ⟨lock, rep, seg, op, mod, reg, rm, disp, imm, sel⟩ = R := ⟨_, rfl⟩
  rw [hR]
  unfold Regs.offOf at hR
  dsimp only at hR
  by_cases c0 : mod = 3 ∨ mod < 0 ∨ rm < 0 ∨ 7 < rm
  · rw [if_pos c0] at hR
    subst hR
    have cs : (mod == 3) = true ∨ ((mod == 3) = false ∧ mod < 0) ∨ ((mod == 3) = false ∧ ¬ mod < 0 ∧ rm < 0) ∨ ((mod == 3) = false ∧ ¬ mod < 0 ∧ ¬ rm < 0 ∧ 7 < rm) := by
      simp only [beq_iff_eq, beq_eq_false_iff_ne]; omega
    clear c0
    rcases cs with a | ⟨a, b⟩ | ⟨a, b, c⟩ | ⟨a, b, c, d⟩
    all_goals
      go_enter Tryz.func67, Tryz.ntmps67
      go_wp2_with fail
      go_ret2
      exact ⟨rfl, H3.out⟩
  · rw [if_neg c0] at hR
    have g0 : (mod == 3) = false := by simp; omega
    have g1 : ¬ mod < 0 := by omega
    have g2 : ¬ rm < 0 := by omega
    have g3 : ¬ 7 < rm := by omega
    by_cases c6 : mod = 0 ∧ rm = 6
    · rw [if_pos c6] at hR
      subst hR
      have g4 : (mod == 0) = true := by simp [c6.1]
      have g5 : (rm == 6) = true := by simp [c6.2]
      clear c0 c6
      go_enter Tryz.func67, Tryz.ntmps67
      go_wp2_with fail
      go_ret2
      exact ⟨rfl, H3.out⟩
    · rw [if_neg c6] at hR
      have cs : (mod == 0) = false ∨ ((mod == 0) = true ∧ (rm == 6) = false) := by simp only [beq_iff_eq, beq_eq_false_iff_ne]; omega
      have i1 : 0 ≤ rm := by omega
      have i2 : rm < 8 := by omega
      have hba := bases_at rm i1 i2
      have x0 := (H4.out.cell (rm.toNat * 2)).trans hba.1
      have x1 := (H4.out.cell (rm.toNat * 2 + 1)).trans hba.2
      obtain ⟨b1, hb1⟩ : ∃ b, (basesOf rm).1 = b := ⟨_, rfl⟩
      obtain ⟨b2, hb2⟩ : ∃ b, (basesOf rm).2 = b := ⟨_, rfl⟩
      rw [hb1] at x0
      rw [hb2] at x1
      rw [hb1, hb2] at hR
      have HR := Lib.hid hR
      clear c0 c6 hba hb1 hb2 hR
      have HRK := Lib.hid (show offK r disp b1 b2 2 = R from HR.out)
      have i0 : ∀ w, (Instr.index 68 (.agg #[.int .i64 b1, .int .i64 b2]) (.int .i64 0)).run Tryz.prog w = .ok (.int .i64 b1) w := fun _ => by rfl
      have j0 : ∀ w, (Instr.index 68 (.agg #[.int .i64 b1, .int .i64 b2]) (.int .i64 1)).run Tryz.prog w = .ok (.int .i64 b2) w := fun _ => by rfl
      clear HR
      rcases cs with a | ⟨a, b⟩
      · go_enter Tryz.func67, Tryz.ntmps67
        go_wp2_with fail
        have HI0 := Lib.hid (OffIn.mk (r := r) H3.out H1.out)
        generalize (w.alloc (.cells r.cells 28)).alloc (.cells (Inst.cells ⟨lock, rep, seg, op, mod, reg, rm, disp, imm, sel⟩) 30) = W0 at HI0 ⊢
        clear x0 x1 xi H1 H3 H4
        go_loopw [6, 7, 45] (fun s6 s7 s45 wr => ∃ k : Nat, k ≤ 2 ∧ s45 = .int .i64 k ∧ s6 = .int .u16 (offK r disp b1 b2 k).1 ∧ s7 = .bool (offK r disp b1 b2 k).2 ∧ OffIn w wr r) (fun _ _ s45 _ => 2 - (intOf s45).toNat)
        case atStart => exact ⟨0, by omega, rfl, rfl, rfl, HI0.out⟩
        case round =>
          obtain ⟨k, hk, rfl, rfl, rfl, hin⟩ := hrel
          have HIN := Lib.hid hin
          obtain ⟨xc, xf, xr, xs, xl⟩ := hin.r.sees
          clear hin HI0
          have kc : k = 0 ∨ k = 1 ∨ k = 2 := by omega
          rcases kc with rfl | rfl | rfl
          · have hst : offK r disp b1 b2 1 = r.offOn (offK r disp b1 b2 0) b1 := rfl
            generalize offK r disp b1 b2 0 = p at hst ⊢
            obtain ⟨o, c⟩ := p
            by_cases hb0 : b1 < 0
            · have HS := Lib.hid (show offK r disp b1 b2 1 = (o, c) by rw [hst, Regs.offOn, if_pos hb0])
              clear hst
              go_wp2_with fail
              refine ⟨⟨1, by omega, by go_num, ?_, ?_, HIN.out⟩, by simp [intOf]⟩
              · rw [HS.out]
              · rw [HS.out]
            · have HS := Lib.hid (show offK r disp b1 b2 1 = (IntKind.u16.wrap (o + (r.get b1).v), c && !(r.get b1).t) by rw [hst, Regs.offOn, if_neg hb0])
              clear hst
              go_wp2_with fail
              refine (get_any r b1 _).mono ?_
              generalize r.get b1 = gv at HS ⊢
              obtain ⟨gv, gt⟩ := gv
              rintro e w1 ⟨rfl, hb⟩; dsimp only
              have HIN1 := Lib.hid (OffIn.mk (r := r) ((HIN.out.b.trans (hb.mono HIN.out.b.size)).alloc (Nat.le_trans HIN.out.b.size hb.size) (.cells #[.int .u16 gv, .bool gt] 24)) ((Below.row hb HIN.out.r HIN.out.r.lt).alloc (.cells #[.int .u16 gv, .bool gt] 24)))
              clear hb xc xf xr xs xl
              cases c
              · go_wp2_with fail
                refine ⟨⟨1, by omega, by go_num, ?_, ?_, HIN1.out⟩, by simp [intOf]⟩
                · rw [HS.out]
                · rw [HS.out]; rfl
              · go_wp2_with fail
                refine ⟨⟨1, by omega, by go_num, ?_, ?_, HIN1.out⟩, by simp [intOf]⟩
                · rw [HS.out]
                · rw [HS.out]; rfl
          · have hst : offK r disp b1 b2 2 = r.offOn (offK r disp b1 b2 1) b2 := rfl
            generalize offK r disp b1 b2 1 = p at hst ⊢
            obtain ⟨o, c⟩ := p
            by_cases hb0 : b2 < 0
            · have HS := Lib.hid (show offK r disp b1 b2 2 = (o, c) by rw [hst, Regs.offOn, if_pos hb0])
              clear hst
              go_wp2_with fail
              refine ⟨⟨2, by omega, by go_num, ?_, ?_, HIN.out⟩, by simp [intOf]⟩
              · rw [HS.out]
              · rw [HS.out]
            · have HS := Lib.hid (show offK r disp b1 b2 2 = (IntKind.u16.wrap (o + (r.get b2).v), c && !(r.get b2).t) by rw [hst, Regs.offOn, if_neg hb0])
              clear hst
              go_wp2_with fail
              refine (get_any r b2 _).mono ?_
              generalize r.get b2 = gv at HS ⊢
              obtain ⟨gv, gt⟩ := gv
              rintro e w1 ⟨rfl, hb⟩; dsimp only
              have HIN1 := Lib.hid (OffIn.mk (r := r) ((HIN.out.b.trans (hb.mono HIN.out.b.size)).alloc (Nat.le_trans HIN.out.b.size hb.size) (.cells #[.int .u16 gv, .bool gt] 24)) ((Below.row hb HIN.out.r HIN.out.r.lt).alloc (.cells #[.int .u16 gv, .bool gt] 24)))
              clear hb xc xf xr xs xl
              cases c
              · go_wp2_with fail
                refine ⟨⟨2, by omega, by go_num, ?_, ?_, HIN1.out⟩, by simp [intOf]⟩
                · rw [HS.out]
                · rw [HS.out]; rfl
              · go_wp2_with fail
                refine ⟨⟨2, by omega, by go_num, ?_, ?_, HIN1.out⟩, by simp [intOf]⟩
                · rw [HS.out]
                · rw [HS.out]; rfl
          · go_wp2_with fail
            go_ret2
            rw [HRK.out]
            exact ⟨rfl, HIN.out.b⟩
      · go_enter Tryz.func67, Tryz.ntmps67
        go_wp2_with fail
        have HI0 := Lib.hid (OffIn.mk (r := r) H3.out H1.out)
        generalize (w.alloc (.cells r.cells 28)).alloc (.cells (Inst.cells ⟨lock, rep, seg, op, mod, reg, rm, disp, imm, sel⟩) 30) = W0 at HI0 ⊢
        clear x0 x1 xi H1 H3 H4
        go_loopw [6, 7, 45] (fun s6 s7 s45 wr => ∃ k : Nat, k ≤ 2 ∧ s45 = .int .i64 k ∧ s6 = .int .u16 (offK r disp b1 b2 k).1 ∧ s7 = .bool (offK r disp b1 b2 k).2 ∧ OffIn w wr r) (fun _ _ s45 _ => 2 - (intOf s45).toNat)
        case atStart => exact ⟨0, by omega, rfl, rfl, rfl, HI0.out⟩
        case round =>
          obtain ⟨k, hk, rfl, rfl, rfl, hin⟩ := hrel
          have HIN := Lib.hid hin
          obtain ⟨xc, xf, xr, xs, xl⟩ := hin.r.sees
          clear hin HI0
          have kc : k = 0 ∨ k = 1 ∨ k = 2 := by omega
          rcases kc with rfl | rfl | rfl
          · have hst : offK r disp b1 b2 1 = r.offOn (offK r disp b1 b2 0) b1 := rfl
            generalize offK r disp b1 b2 0 = p at hst ⊢
            obtain ⟨o, c⟩ := p
            by_cases hb0 : b1 < 0
            · have HS := Lib.hid (show offK r disp b1 b2 1 = (o, c) by rw [hst, Regs.offOn, if_pos hb0])
              clear hst
              go_wp2_with fail
              refine ⟨⟨1, by omega, by go_num, ?_, ?_, HIN.out⟩, by simp [intOf]⟩
              · rw [HS.out]
              · rw [HS.out]
            · have HS := Lib.hid (show offK r disp b1 b2 1 = (IntKind.u16.wrap (o + (r.get b1).v), c && !(r.get b1).t) by rw [hst, Regs.offOn, if_neg hb0])
              clear hst
              go_wp2_with fail
              refine (get_any r b1 _).mono ?_
              generalize r.get b1 = gv at HS ⊢
              obtain ⟨gv, gt⟩ := gv
              rintro e w1 ⟨rfl, hb⟩; dsimp only
              have HIN1 := Lib.hid (OffIn.mk (r := r) ((HIN.out.b.trans (hb.mono HIN.out.b.size)).alloc (Nat.le_trans HIN.out.b.size hb.size) (.cells #[.int .u16 gv, .bool gt] 24)) ((Below.row hb HIN.out.r HIN.out.r.lt).alloc (.cells #[.int .u16 gv, .bool gt] 24)))
              clear hb xc xf xr xs xl
              cases c
              · go_wp2_with fail
                refine ⟨⟨1, by omega, by go_num, ?_, ?_, HIN1.out⟩, by simp [intOf]⟩
                · rw [HS.out]
                · rw [HS.out]; rfl
              · go_wp2_with fail
                refine ⟨⟨1, by omega, by go_num, ?_, ?_, HIN1.out⟩, by simp [intOf]⟩
                · rw [HS.out]
                · rw [HS.out]; rfl
          · have hst : offK r disp b1 b2 2 = r.offOn (offK r disp b1 b2 1) b2 := rfl
            generalize offK r disp b1 b2 1 = p at hst ⊢
            obtain ⟨o, c⟩ := p
            by_cases hb0 : b2 < 0
            · have HS := Lib.hid (show offK r disp b1 b2 2 = (o, c) by rw [hst, Regs.offOn, if_pos hb0])
              clear hst
              go_wp2_with fail
              refine ⟨⟨2, by omega, by go_num, ?_, ?_, HIN.out⟩, by simp [intOf]⟩
              · rw [HS.out]
              · rw [HS.out]
            · have HS := Lib.hid (show offK r disp b1 b2 2 = (IntKind.u16.wrap (o + (r.get b2).v), c && !(r.get b2).t) by rw [hst, Regs.offOn, if_neg hb0])
              clear hst
              go_wp2_with fail
              refine (get_any r b2 _).mono ?_
              generalize r.get b2 = gv at HS ⊢
              obtain ⟨gv, gt⟩ := gv
              rintro e w1 ⟨rfl, hb⟩; dsimp only
              have HIN1 := Lib.hid (OffIn.mk (r := r) ((HIN.out.b.trans (hb.mono HIN.out.b.size)).alloc (Nat.le_trans HIN.out.b.size hb.size) (.cells #[.int .u16 gv, .bool gt] 24)) ((Below.row hb HIN.out.r HIN.out.r.lt).alloc (.cells #[.int .u16 gv, .bool gt] 24)))
              clear hb xc xf xr xs xl
              cases c
              · go_wp2_with fail
                refine ⟨⟨2, by omega, by go_num, ?_, ?_, HIN1.out⟩, by simp [intOf]⟩
                · rw [HS.out]
                · rw [HS.out]; rfl
              · go_wp2_with fail
                refine ⟨⟨2, by omega, by go_num, ?_, ?_, HIN1.out⟩, by simp [intOf]⟩
                · rw [HS.out]
                · rw [HS.out]; rfl
          · go_wp2_with fail
            go_ret2
            rw [HRK.out]
            exact ⟨rfl, HIN.out.b⟩
end Go.Proofs.YtcglkefaopgjeaaGreatDoor

/- Package addr: Of, Direct. -/
namespace Go.Proofs.YtcglkefaopgjeaaGreatDoor
set_option linter.unusedSimpArgs false
set_option linter.unusedVariables false
open Go.RowKit

abbrev zeroP : Array Value := #[.int .u16 0, .bool false, .int .u16 0]
/-- What Of and Direct have: registers, an instruction, a place. -/
structure OfIn (w wx : World) (r : Regs) (i : Inst) : Prop where
  b : Below w.heap.size w wx
  r : Row wx w.heap.size r.cells 28
  i : Row wx (w.heap.size + 1) i.cells 30
  p : Row wx (w.heap.size + 1 + 1) zeroP 52
theorem OfIn.on {w wx wy : World} {r : Regs} {i : Inst} (h : OfIn w wx r i) (hb : Below wx.heap.size wx wy) : OfIn w wy r i :=
  ⟨h.b.trans (hb.mono h.b.size), Below.row hb h.r h.r.lt, Below.row hb h.i h.i.lt, Below.row hb h.p h.p.lt⟩
theorem OfIn.drew {w wx : World} {r : Regs} {i : Inst} (h : OfIn w wx r i) : OfIn w wx.drew r i := h.on (Below.refl _ _).drew
theorem ofIn_new (w : World) (r : Regs) (i : Inst) : OfIn w (((w.alloc (.cells r.cells 28)).alloc (.cells i.cells 30)).alloc (.cells zeroP 52)) r i :=
  ⟨(((Below.refl w.heap.size w).alloc (Nat.le_refl _) _).alloc (by simp) _).alloc (by simp; omega) _, ((Row.new w _ _).alloc _).alloc _, (Row.new' (w := w.alloc (.cells r.cells 28)) (by simp)).alloc _, Row.new' (by simp)⟩
theorem results_place (tmps : Array Value) (w : World) (fn : Func) (h : fn.results = #[.cell 4 52, .tmp 5]) (g : Nat) (a : Int) (t : Bool) (o : Int) (c : Bool) (h4 : tmps.getD 4 undef = .pointer (some ⟨g, 0, none⟩)) (h5 : tmps.getD 5 undef = .bool c) (hr : Row w g #[.int .u16 a, .bool t, .int .u16 o] 52) :
    (results fn tmps).run Tryz.prog w = .ok (.tuple #[.agg #[.int .u16 a, .bool t, .int .u16 o], .bool c]) w := by
  have g4 : tmps[4]?.getD undef = .pointer (some ⟨g, 0, none⟩) := by simpa using h4
  have g5 : tmps[5]?.getD undef = .bool c := by simpa using h5
  have li := run_loadVar_row (P := Tryz.prog) w g 52 52 #[.int .u16 a, .bool t, .int .u16 o] (0, 0) _ hr Tryz.underlying52 rfl (by kernel_rfl)
  simp [results, h, g4, g5, asAddr, li]

theorem own_default (args : Array Value) (w : World) : (callFunc 68 args).run Tryz.prog w = .ok (.enter 68 args) w := run_callFunc_own Tryz.func68 (by rfl) (by rfl) args w
theorem own_seg (args : Array Value) (w : World) : (callFunc 64 args).run Tryz.prog w = .ok (.enter 64 args) w := run_callFunc_own Tryz.func64 (by rfl) (by rfl) args w
theorem OfIn.set3 {w wx : World} {r : Regs} {i : Inst} (h : OfIn w wx r i) (a : Int) (t : Bool) (o : Int) :
    Row (((wx.setCell ⟨w.heap.size + 1 + 1, 0, none⟩ (.int .u16 a)).setCell ⟨w.heap.size + 1 + 1, 1, none⟩ (.bool t)).setCell ⟨w.heap.size + 1 + 1, 2, none⟩ (.int .u16 o)) (w.heap.size + 1 + 1) #[.int .u16 a, .bool t, .int .u16 o] 52 ∧
    Below w.heap.size w (((wx.setCell ⟨w.heap.size + 1 + 1, 0, none⟩ (.int .u16 a)).setCell ⟨w.heap.size + 1 + 1, 1, none⟩ (.bool t)).setCell ⟨w.heap.size + 1 + 1, 2, none⟩ (.int .u16 o)) := by
  refine ⟨?_, ?_⟩
  · have hz := ((h.p.setCell 0 (.int .u16 a)).setCell 1 (.bool t)).setCell 2 (.int .u16 o)
    simpa using hz
  · exact ((h.b.setCell (p := ⟨w.heap.size + 1 + 1, 0, none⟩) (by simp; omega) _).setCell (p := ⟨w.heap.size + 1 + 1, 1, none⟩) (by simp; omega) _).setCell (p := ⟨w.heap.size + 1 + 1, 2, none⟩) (by simp; omega) _

set_option maxRecDepth 100000 in
set_option maxHeartbeats 3200000 in
theorem of_any (r : Regs) (i : Inst) (w : World) (t : TypeId) (hb : Row w 0 basesC t) : Calls Tryz.prog 22 #[r.val, i.val] w fun e w' => e = .returned (.tuple #[.agg #[.int .u16 (r.seg i.defSeg).v, .bool (r.seg i.defSeg).t, .int .u16 (r.offOf i).1], .bool (r.offOf i).2]) ∧ Below w.heap.size w w' := by
  obtain ⟨p, hp⟩ : ∃ p, r.offOf i = p := ⟨_, rfl⟩
  obtain ⟨sv, hsv⟩ : ∃ s, r.seg i.defSeg = s := ⟨_, rfl⟩
  rw [hp, hsv]
  have KO := Lib.hid (fun w (hb : Row w 0 basesC t) => hp ▸ off_any r i w t hb)
  have KS := Lib.hid (fun w => hsv ▸ seg_any r i.defSeg w)
  clear hp hsv
  obtain ⟨o, c⟩ := p
  obtain ⟨sa, st⟩ := sv
  have h0 := ofIn_new w r i
  have HB0 := Lib.hid (((hb.alloc (.cells r.cells 28)).alloc (.cells i.cells 30)).alloc (.cells zeroP 52))
  clear hb
  go_enter Tryz.func22, Tryz.ntmps22
  go_wp2_with fail
  generalize ((w.alloc (.cells r.cells 28)).alloc (.cells i.cells 30)).alloc (.cells zeroP 52) = W0 at h0 HB0 ⊢
  obtain ⟨xc, xf, xr, xs, xl⟩ := h0.r.sees
  have ci := h0.i.cell
  go_wp2_with fail
  refine (KO.out _ HB0.out).mono ?_
  rintro e w1 ⟨rfl, hb1⟩; dsimp only
  have hS := (h0.on hb1)
  clear xc xf xr xs xl ci hb1 h0 HB0
  go_upto_region 2 with fail
  have hD := hS.drew
  obtain ⟨xc, xf, xr, xs, xl⟩ := hD.r.sees
  have ci := hD.i.cell
  go_region_law (first | (refine step_calls rfl 68 #[.tmp 15] _ rfl own_default #[i.val] (by simp [Act.eval, Act.put]) ((default_any i _).mono ?_); rintro e w' ⟨rfl, hb⟩; refine ⟨_, rfl, ?_⟩; have hE := OfIn.on (by with_reducible assumption) hb; have yc := hE.r.sees.c; have yf := hE.r.sees.f; have yr := hE.r.sees.r; have ys := hE.r.sees.s; have yl := hE.r.sees.l; clear hb) | (refine step_calls rfl 64 #[.tmp 14, .tmp 16] _ rfl own_seg #[r.val, .int .i64 i.defSeg] (by simp [Act.eval, Act.put]) ((KS.out _).mono ?_); rintro e w' ⟨rfl, hb⟩; refine ⟨_, rfl, ?_⟩; have hF := OfIn.on (by with_reducible assumption) hb; have pc := hF.p.cell; have pf := hF.p.frozen; have pl := hF.p.lt; clear hb))
  all_goals
    go_wp2_with fail
    obtain ⟨q1, q2⟩ := hF.set3 sa st o
    refine bodyPost_ret (results_place _ _ _ rfl _ _ _ _ _ rfl rfl q1) rfl ⟨rfl, q2⟩
end Go.Proofs.YtcglkefaopgjeaaGreatDoor

/- Package addr: Direct. Package core: Place. -/
namespace Go.Proofs.YtcglkefaopgjeaaGreatDoor
set_option linter.unusedSimpArgs false
set_option linter.unusedVariables false
open Go.RowKit

set_option maxRecDepth 100000 in
set_option maxHeartbeats 3200000 in
theorem direct_any (r : Regs) (i : Inst) (w : World) : Calls Tryz.prog 111 #[r.val, i.val] w fun e w' => e = .returned (.agg #[.int .u16 (r.seg i.dirSeg).v, .bool (r.seg i.dirSeg).t, .int .u16 i.imm]) ∧ Below w.heap.size w w' := by
  obtain ⟨sv, hsv⟩ : ∃ s, r.seg i.dirSeg = s := ⟨_, rfl⟩
  rw [hsv]
  obtain ⟨n, hn⟩ : ∃ n, i.dirSeg = n := ⟨_, rfl⟩
  rw [hn] at hsv
  have KS := Lib.hid (fun w => hsv ▸ seg_any r n w)
  clear hsv
  obtain ⟨sa, st⟩ := sv
  have h0 := ofIn_new w r i
  have HN := Lib.hid hn
  have cs : (0 < i.seg ∧ i.seg ≤ 4 ∧ n = i.seg - 1) ∨ (¬ 0 < i.seg ∧ n = 3) ∨ (0 < i.seg ∧ ¬ i.seg ≤ 4 ∧ n = 3) := by
    unfold Inst.dirSeg at hn
    split at hn <;> omega
  clear hn HN
  rcases cs with ⟨a, b, c⟩ | ⟨a, c⟩ | ⟨a, b, c⟩
  · have hw : wrap64 (i.seg - 1) = n := by unfold wrap64; omega
    have hw2 : i.seg - 1 = n := c.symm
    clear c
    go_enter Tryz.func111, Tryz.ntmps111
    go_wp2_with fail
    generalize ((w.alloc (.cells r.cells 28)).alloc (.cells i.cells 30)).alloc (.cells zeroP 52) = W0 at h0 ⊢
    have ci := h0.i.cell
    go_upto_region 4 with fail
    have hD := h0.drew
    obtain ⟨xc, xf, xr, xs, xl⟩ := hD.r.sees
    have cj := hD.i.cell
    go_region_law (refine step_calls rfl 64 #[.tmp 17, .tmp 18] _ rfl own_seg #[r.val, .int .i64 _] (by simp [Act.eval, Act.put]) ((KS.out _).mono ?_); rintro e w' ⟨rfl, hb⟩; refine ⟨_, rfl, ?_⟩; have hF := OfIn.on (by with_reducible assumption) hb; have pc := hF.p.cell; have pf := hF.p.frozen; have pl := hF.p.lt; have cj := hF.i.cell; clear hb)
    all_goals
      go_wp2_with fail
      obtain ⟨q1, q2⟩ := hF.set3 sa st i.imm
      refine bodyPost_ret (results_row rfl _ _ _ _ _ _ rfl q1 Tryz.underlying52 rfl (by kernel_rfl)) rfl ⟨rfl, q2⟩
  · subst c
    go_enter Tryz.func111, Tryz.ntmps111
    go_wp2_with fail
    generalize ((w.alloc (.cells r.cells 28)).alloc (.cells i.cells 30)).alloc (.cells zeroP 52) = W0 at h0 ⊢
    have ci := h0.i.cell
    go_upto_region 4 with fail
    have hD := h0.drew
    obtain ⟨xc, xf, xr, xs, xl⟩ := hD.r.sees
    have cj := hD.i.cell
    go_region_law (refine step_calls rfl 64 #[.tmp 17, .tmp 18] _ rfl own_seg #[r.val, .int .i64 _] (by simp [Act.eval, Act.put]) ((KS.out _).mono ?_); rintro e w' ⟨rfl, hb⟩; refine ⟨_, rfl, ?_⟩; have hF := OfIn.on (by with_reducible assumption) hb; have pc := hF.p.cell; have pf := hF.p.frozen; have pl := hF.p.lt; have cj := hF.i.cell; clear hb)
    all_goals
      go_wp2_with fail
      obtain ⟨q1, q2⟩ := hF.set3 sa st i.imm
      refine bodyPost_ret (results_row rfl _ _ _ _ _ _ rfl q1 Tryz.underlying52 rfl (by kernel_rfl)) rfl ⟨rfl, q2⟩
  · subst c
    go_enter Tryz.func111, Tryz.ntmps111
    go_wp2_with fail
    generalize ((w.alloc (.cells r.cells 28)).alloc (.cells i.cells 30)).alloc (.cells zeroP 52) = W0 at h0 ⊢
    have ci := h0.i.cell
    go_upto_region 4 with fail
    have hD := h0.drew
    obtain ⟨xc, xf, xr, xs, xl⟩ := hD.r.sees
    have cj := hD.i.cell
    go_region_law (refine step_calls rfl 64 #[.tmp 17, .tmp 18] _ rfl own_seg #[r.val, .int .i64 _] (by simp [Act.eval, Act.put]) ((KS.out _).mono ?_); rintro e w' ⟨rfl, hb⟩; refine ⟨_, rfl, ?_⟩; have hF := OfIn.on (by with_reducible assumption) hb; have pc := hF.p.cell; have pf := hF.p.frozen; have pl := hF.p.lt; have cj := hF.i.cell; clear hb)
    all_goals
      go_wp2_with fail
      obtain ⟨q1, q2⟩ := hF.set3 sa st i.imm
      refine bodyPost_ret (results_row rfl _ _ _ _ _ _ rfl q1 Tryz.underlying52 rfl (by kernel_rfl)) rfl ⟨rfl, q2⟩
end Go.Proofs.YtcglkefaopgjeaaGreatDoor

/- Package core: Place. -/
namespace Go.Proofs.YtcglkefaopgjeaaGreatDoor
set_option linter.unusedSimpArgs false
set_option linter.unusedVariables false
open Go.RowKit

/-- What Place has. -/
structure PlIn (C : Phys) (lv : Value) (m : Mach) (t : TypeId) (w wx : World) (i : Inst) : Prop where
  o : Own wx C lv m
  b : Below w.heap.size w wx
  i : Row wx w.heap.size i.cells 30
  p : Row wx (w.heap.size + 1) zeroP 52
  g : Row wx 0 basesC t
theorem PlIn.on {C : Phys} {lv : Value} {m : Mach} {t : TypeId} {w wx wy : World} {i : Inst} (h : PlIn C lv m t w wx i) (hb : Below wx.heap.size wx wy) : PlIn C lv m t w wy i :=
  ⟨h.o.below hb, h.b.trans (hb.mono h.b.size), Below.row hb h.i h.i.lt, Below.row hb h.p h.p.lt, Below.row hb h.g h.g.lt⟩
theorem plIn_new {C : Phys} {lv : Value} {m : Mach} {t : TypeId} {w : World} (h : Own w C lv m) (hg : Row w 0 basesC t) (i : Inst) : PlIn C lv m t w ((w.alloc (.cells i.cells 30)).alloc (.cells zeroP 52)) i :=
  ⟨(h.alloc _).alloc _, ((Below.refl w.heap.size w).alloc (Nat.le_refl _) _).alloc (by simp) _, (Row.new w _ _).alloc _, Row.new' (by simp), (hg.alloc _).alloc _⟩
theorem PlIn.drew {C : Phys} {lv : Value} {m : Mach} {t : TypeId} {w wx : World} {i : Inst} (h : PlIn C lv m t w wx i) : PlIn C lv m t w wx.drew i := h.on (Below.refl _ _).drew
theorem PlIn.alloc {C : Phys} {lv : Value} {m : Mach} {t : TypeId} {w wx : World} {i : Inst} (h : PlIn C lv m t w wx i) (o : Obj) : PlIn C lv m t w (wx.alloc o) i := h.on ((Below.refl _ _).alloc (Nat.le_refl _) _)
theorem PlIn.setNew {C : Phys} {lv : Value} {m m0 : Mach} {t : TypeId} {w wx : World} {i : Inst} (h : PlIn C lv m t w wx i) (h0 : Own w C lv m0) {p : Addr} (hp : w.heap.size + 1 < p.block) (v : Value) : PlIn C lv m t w (wx.setCell p v) i :=
  ⟨h.o.setBox (h0.fresh (by omega)) (h0.apart (by omega)) v, h.b.setCell (by omega) v, h.i.setCell_other _ _ (by omega), h.p.setCell_other _ _ (by omega), h.g.setCell_other _ _ (by omega)⟩
theorem own_of (args : Array Value) (w : World) : (callFunc 22 args).run Tryz.prog w = .ok (.enter 22 args) w := run_callFunc_own Tryz.func22 (by rfl) (by rfl) args w

set_option maxRecDepth 100000 in
set_option maxHeartbeats 3200000 in
theorem place_any (w : World) (C : Phys) (lv : Value) (m : Mach) (h : Own w C lv m) (t : TypeId) (hg : Row w 0 basesC t) (i : Inst) :
    Calls Tryz.prog 109 #[.pointer (some ⟨C.b, 0, none⟩), i.val] w fun e w' => e = .returned (.agg #[.int .u16 (m.placeS i).v, .bool (m.placeS i).t, .int .u16 (m.placeO i)]) ∧ After C lv w (m.placeM i) w' := by
  have hS0 := plIn_new h hg i
  have HO := Lib.hid h
  obtain ⟨sv, hsv⟩ : ∃ s, m.placeS i = s := ⟨_, rfl⟩
  obtain ⟨o, ho⟩ : ∃ o, m.placeO i = o := ⟨_, rfl⟩
  obtain ⟨c, hc⟩ : ∃ c, (m.r.offOf i).2 = c := ⟨_, rfl⟩
  have HM := Lib.hid (show m.placeM i = m.sure c by rw [Mach.placeM, hc])
  rw [hsv, ho]
  have KO := Lib.hid (fun w (hb : Row w 0 basesC t) => of_any m.r i w t hb)
  rw [show m.r.seg i.defSeg = sv from hsv, show (m.r.offOf i).1 = o from ho, hc] at KO
  clear hsv ho hc h hg
  obtain ⟨sa, st⟩ := sv
  go_enter Tryz.func109, Tryz.ntmps109
  go_wp2_with fail
  generalize (w.alloc (.cells i.cells 30)).alloc (.cells zeroP 52) = W0 at hS0 ⊢
  have HS0 := Lib.hid hS0
  have hD := hS0.on (Below.refl _ _).drew
  have sr := hD.o.sees.r
  have sl := hD.o.row.lt
  have ci := hD.i.cell
  have ci0 := hS0.i.cell
  have sr0 := hS0.o.sees.r
  have li : w.heap.size < W0.heap.size := hS0.i.lt
  have e1 : ¬ w.heap.size = W0.heap.size := Nat.ne_of_lt li
  have e2 : ¬ W0.heap.size = w.heap.size := Ne.symm e1
  have sl0 : C.b < W0.heap.size := hS0.o.row.lt
  have e3 : ¬ C.b = W0.heap.size := Nat.ne_of_lt sl0
  have e4 : ¬ W0.heap.size = C.b := Ne.symm e3
  have l1 : w.heap.size + 1 < W0.heap.size := hS0.p.lt
  go_cut [5, 6] (fun s5 s6 wx => ∃ k : Nat, s5 = .pointer (some ⟨k, 0, none⟩) ∧ s6 = .bool c ∧ PlIn C lv m t w wx i ∧ Row wx k #[.int .u16 sa, .bool st, .int .u16 o] 52 ∧ w.heap.size + 1 < k)
  case first =>
    go_region_law (refine step_calls rfl 22 #[.tmp 11, .tmp 12] _ rfl own_of #[m.r.val, i.val] (by simp [Act.eval, Act.put]) ((KO.out _ (by repeat (first | (with_reducible exact HS0.out.g) | (with_reducible refine Row.alloc ?_ _) | (with_reducible refine Row.drew ?_)))).mono ?_); rintro e w' ⟨rfl, hb⟩; refine ⟨_, rfl, ?_⟩; have hF := PlIn.on (C := C) (lv := lv) (m := m) (t := t) (w := w) (i := i) (by repeat (first | (with_reducible exact HS0.out) | (with_reducible refine PlIn.alloc ?_ _) | (with_reducible refine PlIn.drew ?_))) hb; have sz := hb.size; (try ((first | with_reducible have R9 := Below.row hb (row_d W0 zeroP 52) (lt_d W0 _) | with_reducible have R9 := Below.row hb (row_e W0 zeroP 52) (lt_e W0 _)); have c9 := R9.cell; have f9 := R9.frozen; have l9 := R9.lt)); clear hb)
    all_goals
      go_wp2_with fail
      go_meet
      first
        | exact ⟨_, rfl, rfl, hF.alloc _, Row.new _ _ _, by have := hF.p.lt; omega⟩
        | exact ⟨_, rfl, rfl, ((hF.setNew HO.out (p := ⟨W0.heap.size, 0, none⟩) l1 _).setNew HO.out (p := ⟨W0.heap.size, 1, none⟩) l1 _).setNew HO.out (p := ⟨W0.heap.size, 2, none⟩) l1 _, by simpa using ((R9.setCell 0 (.int .u16 sa)).setCell 1 (.bool st)).setCell 2 (.int .u16 o), l1⟩
  case rest =>
    obtain ⟨k, rfl, rfl, hF, hk, hlt⟩ := hcut
    have HF := Lib.hid hF
    have HK := Lib.hid hk
    have kc := hk.cell
    have pc := hF.p.cell
    have pf := hF.p.frozen
    have pl := hF.p.lt
    have n1 : ¬ k = w.heap.size + 1 := by omega
    have n2 : ¬ w.heap.size + 1 = k := by omega
    clear hD sr sl ci ci0 li e1 e2 sl0 e3 e4 l1 sr0 hS0 HS0 hF hk
    cases c with
    | true =>
      have HE := Lib.hid (show m.placeM i = m from HM.out)
      clear HM
      go_wp2_with fail
      refine bodyPost_ret (results_row rfl _ _ _ _ _ _ rfl (by simpa using ((HF.out.p.setCell 0 (.int .u16 sa)).setCell 1 (.bool st)).setCell 2 (.int .u16 o)) Tryz.underlying52 rfl (by kernel_rfl)) rfl ⟨rfl, ?_⟩
      rw [HE.out]
      have f0 := HO.out.fresh (Nat.le_succ w.heap.size)
      have a0 := HO.out.apart (Nat.le_succ w.heap.size)
      have hac := ((Acc.refl C lv w).below HF.out.b)
      exact After.mk (((HF.out.o.setBox (p := ⟨w.heap.size + 1, 0, none⟩) f0 a0 _).setBox (p := ⟨w.heap.size + 1, 1, none⟩) f0 a0 _).setBox (p := ⟨w.heap.size + 1, 2, none⟩) f0 a0 _) (((hac.setNew (p := ⟨w.heap.size + 1, 0, none⟩) (Nat.le_succ _) _).setNew (p := ⟨w.heap.size + 1, 1, none⟩) (Nat.le_succ _) _).setNew (p := ⟨w.heap.size + 1, 2, none⟩) (Nat.le_succ _) _)
    | false =>
      have HE := Lib.hid (show m.placeM i = m.stuck from HM.out)
      clear HM
      have BK := Lib.hid (Box.mk (C := C) (lv := lv) HK.out (HO.out.fresh (by omega)))
      have BP := Lib.hid (Box.mk (C := C) (lv := lv) HF.out.p (HO.out.fresh (by omega)))
      clear kc pc pf pl
      go_wp2_with fail
      refine (stuck_any _ _ _ _ HF.out.o).mono ?_
      rintro e w2 ⟨rfl, lv2, h2, f2, k2⟩; dsimp only
      have HO2 := Lib.hid h2
      have HA2 := Lib.hid (((Acc.refl C lv w).below HF.out.b).trans ⟨f2, k2⟩)
      have BK2 := BK.out.step f2 k2
      have BP2 := BP.out.step f2 k2
      have HP2 := Lib.hid BP2
      have kc := BK2.row.cell
      have pc := BP2.row.cell
      have pf := BP2.row.frozen
      have pl := BP2.row.lt
      clear h2 f2 k2 BK2 BP2
      go_wp2_with fail
      refine bodyPost_ret (results_row rfl _ _ _ _ _ _ rfl (by simpa using ((HP2.out.row.setCell 0 (.int .u16 sa)).setCell 1 (.bool st)).setCell 2 (.int .u16 o)) Tryz.underlying52 rfl (by kernel_rfl)) rfl ⟨rfl, ?_⟩
      rw [HE.out]
      have f0 := HP2.out.no
      have a0 := HO.out.apart (Nat.le_succ w.heap.size)
      exact After.mk (((HO2.out.setBox (p := ⟨w.heap.size + 1, 0, none⟩) f0 a0 _).setBox (p := ⟨w.heap.size + 1, 1, none⟩) f0 a0 _).setBox (p := ⟨w.heap.size + 1, 2, none⟩) f0 a0 _) (((HA2.out.setNew (p := ⟨w.heap.size + 1, 0, none⟩) (Nat.le_succ _) _).setNew (p := ⟨w.heap.size + 1, 1, none⟩) (Nat.le_succ _) _).setNew (p := ⟨w.heap.size + 1, 2, none⟩) (Nat.le_succ _) _)
end Go.Proofs.YtcglkefaopgjeaaGreatDoor

/- Package core: torn. -/
namespace Go.Proofs.YtcglkefaopgjeaaGreatDoor
set_option linter.unusedSimpArgs false
set_option linter.unusedVariables false
open Go.RowKit

set_option maxRecDepth 100000 in
set_option maxHeartbeats 1600000 in
theorem torn_any (w : World) (C : Phys) (lv : Value) (m : Mach) (h : Own w C lv m) (seg : V) (off : Int) (hs : seg.wf) (h0 : 0 ≤ off) (h1 : off ≤ 65535) :
    Calls Tryz.prog 214 #[.pointer (some ⟨C.b, 0, none⟩), P3 seg off] w fun e w' => e = .returned (.bool (!(m.tag (lin seg.v off) == 0))) ∧ Below w.heap.size w w' := by
  have H := Lib.hid (h.alloc (.cells #[.int .u16 seg.v, .bool seg.t, .int .u16 off] 52))
  have HB := Lib.hid ((Below.refl w.heap.size w).alloc (Nat.le_refl _) (.cells #[.int .u16 seg.v, .bool seg.t, .int .u16 off] 52))
  have hc := h.row.cell
  have hl := h.row.lt
  have HM := Lib.hid h.mem
  have s0 := hs.1
  have s1 := hs.2
  clear h
  have hcon : ∀ n, Calls Tryz.prog 57 #[.pointer (some ⟨C.mb, 0, none⟩), .int .u16 seg.v, .int .u16 off] ((w.alloc (.cells #[.int .u16 seg.v, .bool seg.t, .int .u16 off] 52)).drewN n) fun e w' => e = .returned (.tuple #[.int .u8 (m.mem (lin seg.v off)), .bool (m.tag (lin seg.v off) == 0)]) ∧ (w.alloc (.cells #[.int .u16 seg.v, .bool seg.t, .int .u16 off] 52)).drewN n = w' :=
    fun n => memByte_any _ _ _ _ _ _ ((HM.out.alloc _).drewN) seg.v off s0 s1 h0 h1
  have HCON := Lib.hid hcon
  clear hcon
  go_enter Tryz.func214, Tryz.ntmps214
  go_wp2_with fail
  go_quiet ((go_at_call 57; exact quietS (HCON.out _)))
  go_wp2_with fail
  go_ret
  exact ⟨rfl, Below.drewN HB.out⟩

set_option maxRecDepth 100000 in
set_option maxHeartbeats 3200000 in
theorem setMemByte_any (w : World) (C : Phys) (lv : Value) (m : Mach) (h : Own w C lv m) (seg : V) (off v : Int) (hs : seg.wf) (h0 : 0 ≤ off) (h1 : off ≤ 65535) (v0 : 0 ≤ v) (v1 : v ≤ 255) :
    Calls Tryz.prog 200 #[.pointer (some ⟨C.b, 0, none⟩), P3 seg off, .int .u8 v] w fun e w' => e = .returned (.tuple #[]) ∧ After C lv w (m.setMemByte seg off v) w' := by
  have HO0 := Lib.hid (h.alloc (.cells #[.int .u16 seg.v, .bool seg.t, .int .u16 off] 52))
  have HA0 := Lib.hid ((Acc.refl C lv w).alloc (.cells #[.int .u16 seg.v, .bool seg.t, .int .u16 off] 52))
  have hx := Box.new h #[.int .u16 seg.v, .bool seg.t, .int .u16 off] 52
  have HX0 := Lib.hid hx
  have z1 := hx.row.cell
  have s0 := hs.1
  have s1 := hs.2
  obtain ⟨ok, hok⟩ : ∃ ok, m.owns seg off 1 = ok := ⟨_, rfl⟩
  obtain ⟨cl, hcl⟩ : ∃ cl, (m.tag (lin seg.v off) == 0) = cl := ⟨_, rfl⟩
  have HS := Lib.hid (show m.setMemByte seg off v = if (ok && cl) then m.putMemByte seg off v else m.stuck by rw [Mach.setMemByte, Mach.setByteOk, hok, hcl])
  have KO := Lib.hid (fun (w : World) (h : Own w C lv m) => hok ▸ Own_any w C lv m h seg off hs 1 (by decide))
  have KT := Lib.hid (fun (w : World) (h : Own w C lv m) => hcl ▸ torn_any w C lv m h seg off hs h0 h1)
  clear hok hcl hx h
  go_enter Tryz.func200, Tryz.ntmps200
  go_wp2_with fail
  generalize w.alloc (.cells #[.int .u16 seg.v, .bool seg.t, .int .u16 off] 52) = W0 at *
  refine (KO.out _ HO0.out).mono ?_
  rintro e w1 ⟨rfl, hb⟩; dsimp only
  have HO1 := Lib.hid (HO0.out.below hb)
  have HA1 := Lib.hid (HA0.out.below hb)
  have HX1 := Lib.hid (HX0.out.below hb)
  clear hb z1
  have z1 := HX1.out.row.cell
  cases ok with
  | false =>
    have HS2 := Lib.hid (show _ = m.stuck from HS.out)
    clear HS
    go_wp2_with fail
    refine (stuck_any _ _ _ _ HO1.out).mono ?_
    rintro e w2 ⟨rfl, lv2, h2, f2, k2⟩; dsimp only
    have HO2 := Lib.hid h2
    have HA2 := Lib.hid (HA1.out.trans ⟨f2, k2⟩)
    clear h2 f2 k2
    go_wp2_with fail
    (first | go_end0 | (((try simp only [Exit.inBlock, Exit.then]); refine bodyPost_ret (results_none rfl _ _ _) rfl ?_)))
    rw [HS2.out]
    exact ⟨rfl, After.mk HO2.out HA2.out⟩
  | true =>
    go_wp2_with fail
    refine (KT.out _ HO1.out).mono ?_
    rintro e w2 ⟨rfl, hb⟩; dsimp only
    have HO2 := Lib.hid (HO1.out.below hb)
    have HA2 := Lib.hid (HA1.out.below hb)
    have HX2 := Lib.hid (HX1.out.below hb)
    clear hb z1
    have z1 := HX2.out.row.cell
    cases cl with
    | false =>
      have HS2 := Lib.hid (show _ = m.stuck from HS.out)
      clear HS
      go_wp2_with fail
      refine (stuck_any _ _ _ _ HO2.out).mono ?_
      rintro e w3 ⟨rfl, lv2, h2, f2, k2⟩; dsimp only
      have HO3 := Lib.hid h2
      have HA3 := Lib.hid (HA2.out.trans ⟨f2, k2⟩)
      clear h2 f2 k2
      go_wp2_with fail
      (first | go_end0 | (((try simp only [Exit.inBlock, Exit.then]); refine bodyPost_ret (results_none rfl _ _ _) rfl ?_)))
      rw [HS2.out]
      exact ⟨rfl, After.mk HO3.out HA3.out⟩
    | true =>
      have HS2 := Lib.hid (show _ = m.putMemByte seg off v from HS.out)
      clear HS
      have c26 : w2.cell? ⟨C.b, 26, none⟩ = some (.pointer (some ⟨C.mb, 0, none⟩)) := (HO2.out.row.cell 26).trans (mcell26 C m)
      go_wp2_with fail
      go_still_tail 10, (by kernel_rfl)
      change wpList _ _ _ _ _ w2.drew
      have HO3 := Lib.hid HO2.out.drew
      have HA3 := Lib.hid HA2.out.drew
      have HX3 := Lib.hid HX2.out.drew
      clear z1 c26
      generalize w2.drew = w3 at *
      have z1 := HX3.out.row.cell
      have c26 : w3.cell? ⟨C.b, 26, none⟩ = some (.pointer (some ⟨C.mb, 0, none⟩)) := (HO3.out.row.cell 26).trans (mcell26 C m)
      go_wp2_with fail
      refine (memSetByte_any C.mb C.bb C.tb m.mem m.tag _ HO3.out.mem seg.v off s0 s1 h0 h1 v v0 v1).mono ?_
      rintro e w4 ⟨rfl, hm4, f4⟩; dsimp only
      have HO4 := Lib.hid (HO3.out.setMem f4 hm4)
      have HA4 := Lib.hid (HA3.out.setMem f4)
      clear hm4 f4
      go_wp2_with fail
      (first | go_end0 | (((try simp only [Exit.inBlock, Exit.then]); refine bodyPost_ret (results_none rfl _ _ _) rfl ?_)))
      rw [HS2.out]
      exact ⟨rfl, After.mk HO4.out HA4.out⟩
end Go.Proofs.YtcglkefaopgjeaaGreatDoor

/- Package core: Get, of operands in memory. -/
namespace Go.Proofs.YtcglkefaopgjeaaGreatDoor
set_option linter.unusedSimpArgs false
set_option linter.unusedVariables false
open Go.RowKit

theorem offOf_wf (r : Regs) (i : Inst) (h : 0 ≤ i.disp ∧ i.disp ≤ 65535) : 0 ≤ (r.offOf i).1 ∧ (r.offOf i).1 ≤ 65535 := by
  unfold Regs.offOf
  split
  · exact ⟨by decide, by decide⟩
  · split
    · exact h
    · exact offOn_wf _ _ _ (offOn_wf _ _ _ h)
theorem placeM_r (m : Mach) (i : Inst) : (m.placeM i).r = m.r := m.r_sure _
theorem placeM_mem (m : Mach) (i : Inst) : (m.placeM i).mem = m.mem := m.mem_sure _

set_option maxRecDepth 100000 in
set_option maxHeartbeats 1600000 in
theorem get_1m (w : World) (C : Phys) (lv : Value) (m : Mach) (h : Own w C lv m) (T : TypeId) (hg : Row w 0 basesC T) (i : Inst) (hd : 0 ≤ i.disp ∧ i.disp ≤ 65535) (he : (i.mod == 3) = false) (t : V) :
    Calls Tryz.prog 66 #[.pointer (some ⟨C.b, 0, none⟩), i.val, .int .i64 1, t.val] w fun e w' => e = .returned (V.val ⟨m.mem (lin (m.placeS i).v (m.placeO i)), false⟩) ∧ After C lv w ((m.placeM i).byteS (m.placeS i) (m.placeO i)) w' := by
  have hs := getIn h i t
  have hg0 := (((hg.alloc (.cells (instC i) 30)).alloc (.cells (valC t) 24)).alloc (.cells #[.int .u16 0, .bool false] 24))
  have H := Lib.hid h
  have sw := Regs.seg_wf h.wf.r i.defSeg
  have ow := offOf_wf m.r i hd
  clear h hg
  have xi := hs.i.row.cell
  have xt := hs.t.row.cell
  go_enter Tryz.func66, Tryz.ntmps66
  go_wp2_with fail
  generalize ((w.alloc (.cells (instC i) 30)).alloc (.cells (valC t) 24)).alloc (.cells #[.int .u16 0, .bool false] 24) = W0 at *
  have HO0 := Lib.hid hs.o
  have HA0 := Lib.hid hs.a
  have HX0 := Lib.hid hs.x
  have HG0 := Lib.hid hg0
  clear hs xi xt hg0
  refine (place_any _ _ _ _ HO0.out T HG0.out i).mono ?_
  rintro e w2 ⟨rfl, lv2, h2, f2, k2⟩; dsimp only
  have HO2 := Lib.hid h2
  have HA2 := Lib.hid (HA0.out.trans ⟨f2, k2⟩)
  have HX2 := Lib.hid (HX0.out.step f2 k2)
  clear h2 f2 k2
  go_wp2_with fail
  refine (byte_any _ _ _ _ HO2.out (m.placeS i) (m.placeO i) sw ow.1 ow.2).mono ?_
  rw [placeM_mem]
  rintro e w3 ⟨rfl, lv3, h3, f3, k3⟩; dsimp only
  have HO3 := Lib.hid h3
  have HA3 := Lib.hid (HA2.out.trans ⟨f3, k3⟩)
  have HX3 := Lib.hid (HX2.out.step f3 k3)
  clear h3 f3 k3
  have x1 := HX3.out.row.cell
  have x2 := HX3.out.row.frozen
  have x3 := HX3.out.row.lt
  go_wp2_with fail
  refine bodyPost_ret (results_row rfl _ _ _ _ _ _ rfl (row_s2 HX3.out.row) Tryz.underlying24 rfl (by kernel_rfl)) rfl ⟨rfl, ?_⟩
  exact After.boxed H.out HO3.out HA3.out HX3.out (by omega) _ _

set_option maxRecDepth 100000 in
set_option maxHeartbeats 1600000 in
theorem get_2m (w : World) (C : Phys) (lv : Value) (m : Mach) (h : Own w C lv m) (T : TypeId) (hg : Row w 0 basesC T) (i : Inst) (hd : 0 ≤ i.disp ∧ i.disp ≤ 65535) (he : (i.mod == 3) = false) (t : V) :
    Calls Tryz.prog 66 #[.pointer (some ⟨C.b, 0, none⟩), i.val, .int .i64 2, t.val] w fun e w' => e = .returned (V.val (m.wordV (m.placeS i) (m.placeO i))) ∧ After C lv w ((m.placeM i).wordS (m.placeS i) (m.placeO i)) w' := by
  have hs := getIn h i t
  have hg0 := (((hg.alloc (.cells (instC i) 30)).alloc (.cells (valC t) 24)).alloc (.cells #[.int .u16 0, .bool false] 24))
  have H := Lib.hid h
  have sw := Regs.seg_wf h.wf.r i.defSeg
  have ow := offOf_wf m.r i hd
  clear h hg
  have xi := hs.i.row.cell
  have xt := hs.t.row.cell
  go_enter Tryz.func66, Tryz.ntmps66
  go_wp2_with fail
  generalize ((w.alloc (.cells (instC i) 30)).alloc (.cells (valC t) 24)).alloc (.cells #[.int .u16 0, .bool false] 24) = W0 at *
  have HO0 := Lib.hid hs.o
  have HA0 := Lib.hid hs.a
  have HX0 := Lib.hid hs.x
  have HG0 := Lib.hid hg0
  clear hs xi xt hg0
  refine (place_any _ _ _ _ HO0.out T HG0.out i).mono ?_
  rintro e w2 ⟨rfl, lv2, h2, f2, k2⟩; dsimp only
  have HO2 := Lib.hid h2
  have HA2 := Lib.hid (HA0.out.trans ⟨f2, k2⟩)
  have HX2 := Lib.hid (HX0.out.step f2 k2)
  clear h2 f2 k2
  go_wp2_with fail
  refine (word_any _ _ _ _ HO2.out (m.placeS i) (m.placeO i) sw ow.1 ow.2).mono ?_
  rw [show (m.placeM i).wordV (m.placeS i) (m.placeO i) = m.wordV (m.placeS i) (m.placeO i) from m.wordV_sure _ _ _]
  rintro e w3 ⟨rfl, lv3, h3, f3, k3⟩; dsimp only
  have HO3 := Lib.hid h3
  have HA3 := Lib.hid (HA2.out.trans ⟨f3, k3⟩)
  have HX3 := Lib.hid (HX2.out.step f3 k3)
  clear h3 f3 k3
  have x1 := HX3.out.row.cell
  have x2 := HX3.out.row.frozen
  have x3 := HX3.out.row.lt
  go_wp2_with fail
  refine bodyPost_ret (results_row rfl _ _ _ _ _ _ rfl (row_s2 HX3.out.row) Tryz.underlying24 rfl (by kernel_rfl)) rfl ⟨rfl, ?_⟩
  exact After.boxed H.out HO3.out HA3.out HX3.out (by omega) _ _
end Go.Proofs.YtcglkefaopgjeaaGreatDoor

/- Package core: Get, of operands whose offset stands behind the first byte. -/
namespace Go.Proofs.YtcglkefaopgjeaaGreatDoor
set_option linter.unusedSimpArgs false
set_option linter.unusedVariables false
open Go.RowKit

/-- What Get has while it asks. -/
structure GS (C : Phys) (lv : Value) (m : Mach) (w : World) (i : Inst) (wx : World) : Prop where
  o : Own wx C lv m
  a : Acc C lv w lv wx
  i : Box C lv wx w.heap.size (instC i) 30
  x : Box C lv wx (w.heap.size + 1 + 1) #[.int .u16 0, .bool false] 24
theorem GS.on {C : Phys} {lv : Value} {m : Mach} {w wx wy : World} {i : Inst} (h : GS C lv m w i wx) (hb : Below wx.heap.size wx wy) : GS C lv m w i wy := ⟨h.o.below hb, h.a.below hb, h.i.below hb, h.x.below hb⟩
theorem own_direct (args : Array Value) (w : World) : (callFunc 111 args).run Tryz.prog w = .ok (.enter 111 args) w := run_callFunc_own Tryz.func111 (by rfl) (by rfl) args w
theorem own_byte (args : Array Value) (w : World) : (callFunc 108 args).run Tryz.prog w = .ok (.enter 108 args) w := run_callFunc_own Tryz.func108 (by rfl) (by rfl) args w
theorem own_word (args : Array Value) (w : World) : (callFunc 110 args).run Tryz.prog w = .ok (.enter 110 args) w := run_callFunc_own Tryz.func110 (by rfl) (by rfl) args w

set_option maxRecDepth 100000 in
set_option maxHeartbeats 3200000 in
theorem get_12 (w : World) (C : Phys) (lv : Value) (m : Mach) (h : Own w C lv m) (i : Inst) (hd : 0 ≤ i.imm ∧ i.imm ≤ 65535) (t : V) :
    Calls Tryz.prog 66 #[.pointer (some ⟨C.b, 0, none⟩), i.val, .int .i64 12, t.val] w fun e w' => e = .returned (V.val ⟨m.mem (lin (m.directS i).v i.imm), false⟩) ∧ After C lv w (m.byteS (m.directS i) i.imm) w' := by
  have hs := getIn h i t
  have H := Lib.hid h
  have sw := Regs.seg_wf h.wf.r i.dirSeg
  clear h
  go_enter Tryz.func66, Tryz.ntmps66
  go_wp2_with fail
  generalize ((w.alloc (.cells (instC i) 30)).alloc (.cells (valC t) 24)).alloc (.cells #[.int .u16 0, .bool false] 24) = W0 at *
  have hD := (GS.mk hs.o hs.a hs.i hs.x).on (Below.refl _ _).drew
  clear hs
  have ci := hD.i.row.cell
  have sr := hD.o.sees.r
  have sl := hD.o.row.lt
  go_region_law (first | (refine step_calls rfl 111 #[.tmp 77, .tmp 78] _ rfl own_direct #[m.r.val, i.val] (by simp [Act.eval, Act.put]) ((direct_any m.r i _).mono ?_); rintro e w' ⟨rfl, hb⟩; refine ⟨_, rfl, ?_⟩; have hE := GS.on (C := C) (lv := lv) (m := m) (w := w) (i := i) (by with_reducible assumption) hb; clear hb) | (refine step_calls rfl 108 #[.tmp 73, .tmp 79] _ rfl own_byte #[.pointer (some ⟨C.b, 0, none⟩), P3 (m.directS i) i.imm] (by simp [Act.eval, Act.put]; exact ⟨rfl, rfl⟩) ((byte_any _ C lv m (GS.o (w := w) (i := i) (by with_reducible assumption)) (m.directS i) i.imm sw hd.1 hd.2).mono ?_); rintro e w3 ⟨rfl, lv3, h3, f3, k3⟩; refine ⟨_, rfl, ?_⟩; have hX := (GS.x hE).step f3 k3; have hA := (GS.a hE).trans ⟨f3, k3⟩; have x1 := hX.row.cell; have x2 := hX.row.frozen; have x3 := hX.row.lt))
  all_goals
    go_wp2_with fail
    refine bodyPost_ret (results_row rfl _ _ _ _ _ _ rfl (row_s2 hX.row) Tryz.underlying24 rfl (by kernel_rfl)) rfl ⟨rfl, ?_⟩
    exact After.boxed H.out h3 hA hX (by omega) _ _
set_option maxRecDepth 100000 in
set_option maxHeartbeats 3200000 in
theorem get_13 (w : World) (C : Phys) (lv : Value) (m : Mach) (h : Own w C lv m) (i : Inst) (hd : 0 ≤ i.imm ∧ i.imm ≤ 65535) (t : V) :
    Calls Tryz.prog 66 #[.pointer (some ⟨C.b, 0, none⟩), i.val, .int .i64 13, t.val] w fun e w' => e = .returned (V.val (m.wordV (m.directS i) i.imm)) ∧ After C lv w (m.wordS (m.directS i) i.imm) w' := by
  have hs := getIn h i t
  have H := Lib.hid h
  have sw := Regs.seg_wf h.wf.r i.dirSeg
  clear h
  go_enter Tryz.func66, Tryz.ntmps66
  go_wp2_with fail
  generalize ((w.alloc (.cells (instC i) 30)).alloc (.cells (valC t) 24)).alloc (.cells #[.int .u16 0, .bool false] 24) = W0 at *
  have hD := (GS.mk hs.o hs.a hs.i hs.x).on (Below.refl _ _).drew
  clear hs
  have ci := hD.i.row.cell
  have sr := hD.o.sees.r
  have sl := hD.o.row.lt
  go_region_law (first | (refine step_calls rfl 111 #[.tmp 88, .tmp 89] _ rfl own_direct #[m.r.val, i.val] (by simp [Act.eval, Act.put]) ((direct_any m.r i _).mono ?_); rintro e w' ⟨rfl, hb⟩; refine ⟨_, rfl, ?_⟩; have hE := GS.on (C := C) (lv := lv) (m := m) (w := w) (i := i) (by with_reducible assumption) hb; clear hb) | (refine step_calls rfl 110 #[.tmp 84, .tmp 90] _ rfl own_word #[.pointer (some ⟨C.b, 0, none⟩), P3 (m.directS i) i.imm] (by simp [Act.eval, Act.put]; exact ⟨rfl, rfl⟩) ((word_any _ C lv m (GS.o (w := w) (i := i) (by with_reducible assumption)) (m.directS i) i.imm sw hd.1 hd.2).mono ?_); rintro e w3 ⟨rfl, lv3, h3, f3, k3⟩; refine ⟨_, rfl, ?_⟩; have hX := (GS.x hE).step f3 k3; have hA := (GS.a hE).trans ⟨f3, k3⟩; have x1 := hX.row.cell; have x2 := hX.row.frozen; have x3 := hX.row.lt))
  all_goals
    go_wp2_with fail
    refine bodyPost_ret (results_row rfl _ _ _ _ _ _ rfl (row_s2 hX.row) Tryz.underlying24 rfl (by kernel_rfl)) rfl ⟨rfl, ?_⟩
    exact After.boxed H.out h3 hA hX (by omega) _ _
end Go.Proofs.YtcglkefaopgjeaaGreatDoor

/- Package core: Put, of operands in memory. -/
namespace Go.Proofs.YtcglkefaopgjeaaGreatDoor
set_option linter.unusedSimpArgs false
set_option linter.unusedVariables false
open Go.RowKit

/-- What Put has ahead of asking for the place, and behind it. -/
structure PS (C : Phys) (lv : Value) (m : Mach) (w : World) (i : Inst) (t : V) (T : TypeId) (wx : World) : Prop where
  o : Own wx C lv m
  a : Acc C lv w lv wx
  i : Box C lv wx w.heap.size (instC i) 30
  t : Box C lv wx (w.heap.size + 1) (valC t) 24
  g : Row wx 0 basesC T
structure PS2 (C : Phys) (lv lv2 : Value) (m : Mach) (w : World) (i : Inst) (t : V) (wx : World) : Prop where
  o : Own wx C lv2 m
  a : Acc C lv w lv2 wx
  i : Box C lv2 wx w.heap.size (instC i) 30
  t : Box C lv2 wx (w.heap.size + 1) (valC t) 24
theorem PS.on {C : Phys} {lv : Value} {m : Mach} {w wx wy : World} {i : Inst} {t : V} {T : TypeId} (h : PS C lv m w i t T wx) (hb : Below wx.heap.size wx wy) : PS C lv m w i t T wy := ⟨h.o.below hb, h.a.below hb, h.i.below hb, h.t.below hb, Below.row hb h.g h.g.lt⟩
theorem PS2.on {C : Phys} {lv lv2 : Value} {m : Mach} {w wx wy : World} {i : Inst} {t : V} (h : PS2 C lv lv2 m w i t wx) (hb : Below wx.heap.size wx wy) : PS2 C lv lv2 m w i t wy := ⟨h.o.below hb, h.a.below hb, h.i.below hb, h.t.below hb⟩
theorem PS.step {C : Phys} {lv lv2 : Value} {m m2 : Mach} {w wx wy : World} {i : Inst} {t : V} {T : TypeId} (h : PS C lv m w i t T wx) (h2 : Own wy C lv2 m2) (f2 : Fr (C.own lv) wx wy) (k2 : ∀ k, lv2.ownBlock = some k → lv.ownBlock = some k ∨ wx.heap.size ≤ k) : PS2 C lv lv2 m2 w i t wy :=
  ⟨h2, h.a.trans ⟨f2, k2⟩, h.i.step f2 k2, h.t.step f2 k2⟩
theorem own_place (args : Array Value) (w : World) : (callFunc 109 args).run Tryz.prog w = .ok (.enter 109 args) w := run_callFunc_own Tryz.func109 (by rfl) (by rfl) args w
theorem own_low (args : Array Value) (w : World) : (callFunc 85 args).run Tryz.prog w = .ok (.enter 85 args) w := run_callFunc_own Tryz.func85 (by rfl) (by rfl) args w
theorem own_setB (args : Array Value) (w : World) : (callFunc 200 args).run Tryz.prog w = .ok (.enter 200 args) w := run_callFunc_own Tryz.func200 (by rfl) (by rfl) args w
theorem own_setW (args : Array Value) (w : World) : (callFunc 173 args).run Tryz.prog w = .ok (.enter 173 args) w := run_callFunc_own Tryz.func173 (by rfl) (by rfl) args w

set_option maxRecDepth 100000 in
set_option maxHeartbeats 3200000 in
theorem put_1m (w : World) (C : Phys) (lv : Value) (m : Mach) (h : Own w C lv m) (T : TypeId) (hg : Row w 0 basesC T) (i : Inst) (hd : 0 ≤ i.disp ∧ i.disp ≤ 65535) (he : (i.mod == 3) = false) (t : V) (ht : t.wf) :
    Calls Tryz.prog 179 #[.pointer (some ⟨C.b, 0, none⟩), i.val, .int .i64 1, t.val] w fun e w' => e = .returned (.tuple #[]) ∧ After C lv w ((m.placeM i).setMemByte (m.placeS i) (m.placeO i) (t.v % 256)) w' := by
  have hs := putIn h i t
  have hg0 := ((hg.alloc (.cells (instC i) 30)).alloc (.cells (valC t) 24))
  have sw := Regs.seg_wf h.wf.r i.defSeg
  have ow := offOf_wf m.r i hd
  obtain ⟨t0, t1⟩ := ht
  have b0 : 0 ≤ t.v % 256 := by omega
  have b1 : t.v % 256 ≤ 255 := by omega
  have xi := hs.i.row.cell
  clear h hg
  go_enter Tryz.func179, Tryz.ntmps179
  go_wp2_with fail
  generalize (w.alloc (.cells (instC i) 30)).alloc (.cells (valC t) 24) = W0 at *
  have hD := (PS.mk (T := T) hs.o hs.a hs.i hs.t hg0).on (Below.refl _ _).drew
  clear hs xi hg0
  have ci := hD.i.row.cell
  have ct := hD.t.row.cell
  go_region_law (first | (refine step_calls rfl 109 #[.tmp 20, .tmp 21] _ rfl own_place #[.pointer (some ⟨C.b, 0, none⟩), i.val] (by simp [Act.eval, Act.put]) ((place_any _ C lv m hD.o T hD.g i).mono ?_); rintro e w' ⟨rfl, lv2, h2, f2, k2⟩; refine ⟨_, rfl, ?_⟩; have hE := hD.step h2 f2 k2; have ct2 := hE.t.row.cell; clear h2 f2 k2) | (refine step_calls rfl 85 #[.tmp 24] _ rfl own_low #[.int .u16 t.v] (by simp [Act.eval, Act.put]) ((low_any _ _ t0 t1).mono ?_); rintro e w' ⟨rfl, rfl⟩; refine ⟨_, rfl, ?_⟩) | (refine step_calls rfl 200 #[.tmp 19, .tmp 22, .tmp 25] _ rfl own_setB #[.pointer (some ⟨C.b, 0, none⟩), P3 (m.placeS i) (m.placeO i), .int .u8 (t.v % 256)] (by simp [Act.eval, Act.put]) ((setMemByte_any _ C _ (m.placeM i) hE.o (m.placeS i) (m.placeO i) (t.v % 256) sw ow.1 ow.2 b0 b1).mono ?_); rintro e w3 ⟨rfl, lv3, h3, f3, k3⟩; refine ⟨_, rfl, ?_⟩; have hA := hE.a.trans ⟨f3, k3⟩))
  all_goals
    go_wp2_with fail
    (first | go_end0 | (((try simp only [Exit.inBlock, Exit.then]); refine bodyPost_ret (results_none rfl _ _ _) rfl ?_)))
    exact ⟨rfl, After.mk h3 hA⟩
end Go.Proofs.YtcglkefaopgjeaaGreatDoor

/- Package core: Put, of words in memory, and of operands whose offset stands behind the first byte. -/
namespace Go.Proofs.YtcglkefaopgjeaaGreatDoor
set_option linter.unusedSimpArgs false
set_option linter.unusedVariables false
open Go.RowKit

set_option maxRecDepth 100000 in
set_option maxHeartbeats 3200000 in
theorem put_2m (w : World) (C : Phys) (lv : Value) (m : Mach) (h : Own w C lv m) (T : TypeId) (hg : Row w 0 basesC T) (i : Inst) (hd : 0 ≤ i.disp ∧ i.disp ≤ 65535) (he : (i.mod == 3) = false) (t : V) (ht : t.wf) :
    Calls Tryz.prog 179 #[.pointer (some ⟨C.b, 0, none⟩), i.val, .int .i64 2, t.val] w fun e w' => e = .returned (.tuple #[]) ∧ After C lv w ((m.placeM i).setWord (m.placeS i) (m.placeO i) t) w' := by
  have hs := putIn h i t
  have hg0 := ((hg.alloc (.cells (instC i) 30)).alloc (.cells (valC t) 24))
  have sw := Regs.seg_wf h.wf.r i.defSeg
  have ow := offOf_wf m.r i hd
  have xi := hs.i.row.cell
  clear h hg
  go_enter Tryz.func179, Tryz.ntmps179
  go_wp2_with fail
  generalize (w.alloc (.cells (instC i) 30)).alloc (.cells (valC t) 24) = W0 at *
  have hD := (PS.mk (T := T) hs.o hs.a hs.i hs.t hg0).on (Below.refl _ _).drew
  clear hs xi hg0
  have ci := hD.i.row.cell
  have ct := hD.t.row.cell
  go_region_law (first | (refine step_calls rfl 109 #[.tmp 44, .tmp 45] _ rfl own_place #[.pointer (some ⟨C.b, 0, none⟩), i.val] (by simp [Act.eval, Act.put]) ((place_any _ C lv m hD.o T hD.g i).mono ?_); rintro e w' ⟨rfl, lv2, h2, f2, k2⟩; refine ⟨_, rfl, ?_⟩; have hE := hD.step h2 f2 k2; have ct2 := hE.t.row.cell; clear h2 f2 k2) | (refine step_calls rfl 173 #[.tmp 43, .tmp 46, .tmp 47] _ rfl own_setW #[.pointer (some ⟨C.b, 0, none⟩), P3 (m.placeS i) (m.placeO i), t.val] (by simp [Act.eval, Act.put]) ((setWord_any _ C _ (m.placeM i) hE.o (m.placeS i) (m.placeO i) t sw ow.1 ow.2 ht).mono ?_); rintro e w3 ⟨rfl, lv3, h3, f3, k3⟩; refine ⟨_, rfl, ?_⟩; have hA := hE.a.trans ⟨f3, k3⟩))
  all_goals
    go_wp2_with fail
    (first | go_end0 | (((try simp only [Exit.inBlock, Exit.then]); refine bodyPost_ret (results_none rfl _ _ _) rfl ?_)))
    exact ⟨rfl, After.mk h3 hA⟩

set_option maxRecDepth 100000 in
set_option maxHeartbeats 3200000 in
theorem put_12 (w : World) (C : Phys) (lv : Value) (m : Mach) (h : Own w C lv m) (i : Inst) (hd : 0 ≤ i.imm ∧ i.imm ≤ 65535) (t : V) (ht : t.wf) :
    Calls Tryz.prog 179 #[.pointer (some ⟨C.b, 0, none⟩), i.val, .int .i64 12, t.val] w fun e w' => e = .returned (.tuple #[]) ∧ After C lv w (m.setMemByte (m.directS i) i.imm (t.v % 256)) w' := by
  have hs := putIn h i t
  have sw := Regs.seg_wf h.wf.r i.dirSeg
  obtain ⟨t0, t1⟩ := ht
  have b0 : 0 ≤ t.v % 256 := by omega
  have b1 : t.v % 256 ≤ 255 := by omega
  have xi := hs.i.row.cell
  clear h
  go_enter Tryz.func179, Tryz.ntmps179
  go_wp2_with fail
  generalize (w.alloc (.cells (instC i) 30)).alloc (.cells (valC t) 24) = W0 at *
  have hD := (PS2.mk hs.o hs.a hs.i hs.t).on (Below.refl _ _).drew
  clear hs xi
  have ci := hD.i.row.cell
  have ct := hD.t.row.cell
  have sr := hD.o.sees.r
  have sl := hD.o.row.lt
  go_region_law (first | (refine step_calls rfl 111 #[.tmp 88, .tmp 89] _ rfl own_direct #[m.r.val, i.val] (by simp [Act.eval, Act.put]) ((direct_any m.r i _).mono ?_); rintro e w' ⟨rfl, hb⟩; refine ⟨_, rfl, ?_⟩; have hE := hD.on hb; have ct2 := hE.t.row.cell; clear hb) | (refine step_calls rfl 85 #[.tmp 92] _ rfl own_low #[.int .u16 t.v] (by simp [Act.eval, Act.put]) ((low_any _ _ t0 t1).mono ?_); rintro e w' ⟨rfl, rfl⟩; refine ⟨_, rfl, ?_⟩) | (refine step_calls rfl 200 #[.tmp 84, .tmp 90, .tmp 93] _ rfl own_setB #[.pointer (some ⟨C.b, 0, none⟩), P3 (m.directS i) i.imm, .int .u8 (t.v % 256)] (by simp [Act.eval, Act.put]; exact ⟨rfl, rfl⟩) ((setMemByte_any _ C _ m hE.o (m.directS i) i.imm (t.v % 256) sw hd.1 hd.2 b0 b1).mono ?_); rintro e w3 ⟨rfl, lv3, h3, f3, k3⟩; refine ⟨_, rfl, ?_⟩; have hA := hE.a.trans ⟨f3, k3⟩))
  all_goals
    go_wp2_with fail
    (first | go_end0 | (((try simp only [Exit.inBlock, Exit.then]); refine bodyPost_ret (results_none rfl _ _ _) rfl ?_)))
    exact ⟨rfl, After.mk h3 hA⟩

set_option maxRecDepth 100000 in
set_option maxHeartbeats 3200000 in
theorem put_13 (w : World) (C : Phys) (lv : Value) (m : Mach) (h : Own w C lv m) (i : Inst) (hd : 0 ≤ i.imm ∧ i.imm ≤ 65535) (t : V) (ht : t.wf) :
    Calls Tryz.prog 179 #[.pointer (some ⟨C.b, 0, none⟩), i.val, .int .i64 13, t.val] w fun e w' => e = .returned (.tuple #[]) ∧ After C lv w (m.setWord (m.directS i) i.imm t) w' := by
  have hs := putIn h i t
  have sw := Regs.seg_wf h.wf.r i.dirSeg
  have xi := hs.i.row.cell
  clear h
  go_enter Tryz.func179, Tryz.ntmps179
  go_wp2_with fail
  generalize (w.alloc (.cells (instC i) 30)).alloc (.cells (valC t) 24) = W0 at *
  have hD := (PS2.mk hs.o hs.a hs.i hs.t).on (Below.refl _ _).drew
  clear hs xi
  have ci := hD.i.row.cell
  have ct := hD.t.row.cell
  have sr := hD.o.sees.r
  have sl := hD.o.row.lt
  go_region_law (first | (refine step_calls rfl 111 #[.tmp 101, .tmp 102] _ rfl own_direct #[m.r.val, i.val] (by simp [Act.eval, Act.put]) ((direct_any m.r i _).mono ?_); rintro e w' ⟨rfl, hb⟩; refine ⟨_, rfl, ?_⟩; have hE := hD.on hb; have ct2 := hE.t.row.cell; clear hb) | (refine step_calls rfl 173 #[.tmp 97, .tmp 103, .tmp 104] _ rfl own_setW #[.pointer (some ⟨C.b, 0, none⟩), P3 (m.directS i) i.imm, t.val] (by simp [Act.eval, Act.put]; exact ⟨rfl, rfl⟩) ((setWord_any _ C _ m hE.o (m.directS i) i.imm t sw hd.1 hd.2 ht).mono ?_); rintro e w3 ⟨rfl, lv3, h3, f3, k3⟩; refine ⟨_, rfl, ?_⟩; have hA := hE.a.trans ⟨f3, k3⟩))
  all_goals
    go_wp2_with fail
    (first | go_end0 | (((try simp only [Exit.inBlock, Exit.then]); refine bodyPost_ret (results_none rfl _ _ _) rfl ?_)))
    exact ⟨rfl, After.mk h3 hA⟩
end Go.Proofs.YtcglkefaopgjeaaGreatDoor

/- Operands of a machine as begin makes it: none of them lets it be stuck: plain laws; Get's and Put's contracts at every operand. -/
namespace Go.Proofs.YtcglkefaopgjeaaGreatDoor
set_option linter.unusedSimpArgs false
set_option linter.unusedVariables false
open Go.RowKit

/-- A machine as begin makes it, whatever its words: no register is a paragraph, the segments lie in the program, every byte is plain. -/
structure Easy (m : Mach) : Prop where
  g : ∀ n, (m.r.get n).t = false
  s0 : m.r.s0 = ⟨8448, true⟩
  s1 : m.r.s1 = ⟨256, true⟩
  s2 : m.r.s2 = ⟨12544, true⟩
  s3 : m.r.s3 = ⟨4352, true⟩
  base : m.base = 4096
  size : m.size = 327680
  tag : m.tag = fun _ => 0
theorem easy_begun (r : Regs) (bs : List Int) : Easy (begun r bs) := by
  refine ⟨fun n => ?_, rfl, rfl, rfl, rfl, rfl, rfl, rfl⟩
  show ((begR r).get n).t = false
  unfold Regs.get
  repeat' split
  all_goals rfl
theorem Easy.on {m : Mach} (h : Easy m) (n : Nat) : Easy (m.on n) := ⟨h.g, h.s0, h.s1, h.s2, h.s3, h.base, h.size, h.tag⟩
theorem Easy.seg {m : Mach} (h : Easy m) (n : Int) (h0 : 0 ≤ n) (h1 : n ≤ 3) : ∃ s : Int, m.r.seg n = ⟨s, true⟩ ∧ 256 ≤ s ∧ s ≤ 12544 := by
  rcases cases4 h0 h1 with rfl | rfl | rfl | rfl
  · exact ⟨8448, h.s0, by decide, by decide⟩
  · exact ⟨256, h.s1, by decide, by decide⟩
  · exact ⟨12544, h.s2, by decide, by decide⟩
  · exact ⟨4352, h.s3, by decide, by decide⟩
theorem Easy.own1 {m : Mach} (h : Easy m) (s : Int) (h0 : 256 ≤ s) (h1 : s ≤ 12544) (off : Int) (o0 : 0 ≤ off) (o1 : off ≤ 65535) : m.own1 ⟨s, true⟩ off = true := by
  unfold Mach.own1 lin
  rw [h.base, h.size]
  simp
  omega
theorem Easy.owns {m : Mach} (h : Easy m) (s : Int) (h0 : 256 ≤ s) (h1 : s ≤ 12544) (off : Int) : ∀ n : Nat, m.owns ⟨s, true⟩ off n = true := by
  intro n
  induction n with
  | zero => rfl
  | succ n ih => rw [Mach.owns, ih, h.own1 s h0 h1 _ (wrap16_lo _) (wrap16_hi _)]; rfl
theorem Easy.byteOk {m : Mach} (h : Easy m) (s : Int) (h0 : 256 ≤ s) (h1 : s ≤ 12544) (off : Int) : m.byteOk ⟨s, true⟩ off = true := by
  unfold Mach.byteOk
  rw [h.owns s h0 h1, h.tag]
  rfl
theorem Easy.wordT {m : Mach} (h : Easy m) (x y : Nat) : mwordT m.tag x y = false := by
  unfold mwordT
  rw [h.tag]
  rfl
theorem Easy.wordOk {m : Mach} (h : Easy m) (s : Int) (h0 : 256 ≤ s) (h1 : s ≤ 12544) (off : Int) : m.wordOk ⟨s, true⟩ off = true := by
  unfold Mach.wordOk Mach.wordC mwordC
  rw [h.owns s h0 h1, h.tag]
  simp
theorem defSeg_in (i : Inst) : 0 ≤ i.defSeg ∧ i.defSeg ≤ 3 := by unfold Inst.defSeg; repeat' split; all_goals omega
theorem dirSeg_in (i : Inst) : 0 ≤ i.dirSeg ∧ i.dirSeg ≤ 3 := by unfold Inst.dirSeg; repeat' split; all_goals omega
theorem Easy.offOn {m : Mach} (h : Easy m) (p : Int × Bool) (hp : p.2 = true) (n : Int) : (m.r.offOn p n).2 = true := by
  unfold Regs.offOn
  split
  · exact hp
  · dsimp only; rw [hp, h.g]; rfl
theorem Easy.off {m : Mach} (h : Easy m) (i : Inst) : (m.r.offOf i).2 = true := by
  unfold Regs.offOf
  split
  · rfl
  · split
    · rfl
    · exact h.offOn _ (h.offOn _ rfl _) _
theorem Easy.placeM {m : Mach} (h : Easy m) (i : Inst) : m.placeM i = m := by unfold Mach.placeM; rw [h.off]; rfl
theorem Easy.byteC {m : Mach} (h : Easy m) (n : Int) : m.r.byteC n = true := by
  unfold Regs.byteC
  split
  · rw [h.g]; rfl
  · rfl
theorem Easy.regByteM {m : Mach} (h : Easy m) (n : Int) : m.regByteM n = m := by unfold Mach.regByteM; rw [h.byteC]; rfl
theorem Easy.byteS {m : Mach} (h : Easy m) (n : Int) (h0 : 0 ≤ n) (h1 : n ≤ 3) (off : Int) : m.byteS (m.r.seg n) off = m := by
  obtain ⟨s, e, s0, s1⟩ := h.seg n h0 h1
  unfold Mach.byteS
  rw [e, h.byteOk s s0 s1, if_pos rfl]
theorem Easy.wordS {m : Mach} (h : Easy m) (n : Int) (h0 : 0 ≤ n) (h1 : n ≤ 3) (off : Int) : m.wordS (m.r.seg n) off = m := by
  obtain ⟨s, e, s0, s1⟩ := h.seg n h0 h1
  unfold Mach.wordS
  rw [e, h.wordOk s s0 s1, if_pos rfl]
/-- No operand lets it be stuck. -/
theorem Easy.getM {m : Mach} (h : Easy m) (i : Inst) (op : Int) : m.getM i op = m := by
  have d := defSeg_in i
  have e := dirSeg_in i
  unfold Mach.getM Mach.placeS Mach.directS
  rw [h.placeM]
  repeat' split
  all_goals first | (with_reducible rfl) | (with_reducible exact h.regByteM _) | (with_reducible exact h.byteS _ d.1 d.2 _) | (with_reducible exact h.wordS _ d.1 d.2 _) | (with_reducible exact h.byteS _ e.1 e.2 _) | (with_reducible exact h.wordS _ e.1 e.2 _)
/-- What is read is no paragraph, but of segments. -/
theorem Easy.getT {m : Mach} (h : Easy m) (i : Inst) (op : Int) (h5 : op ≠ 5) (h23 : op ≠ 23) (t : V) (ht : t.t = false) : (m.getV i op t).t = false := by
  have key : ∀ (p : Prop) [Decidable p] (x y : V), (p → x.t = false) → (¬ p → y.t = false) → (if p then x else y).t = false := fun p _ x y hx hy => by split; exact hx ‹_›; exact hy ‹_›
  unfold Mach.getV
  repeat' (refine key _ _ _ (fun _ => ?_) (fun _ => ?_))
  all_goals first | (exfalso; omega) | (with_reducible exact ht) | (with_reducible exact h.g _) | exact h.g 0 | exact h.g 1 | exact h.g 2 | exact h.g 3 | exact h.g 4 | exact h.g 5 | exact h.g 6 | exact h.g 7 | exact h.wordT _ _ | rfl
theorem plain_of {m : Mach} {x : V} (h : x.t = false) : m.plain x = m := by unfold Mach.plain; rw [h]; rfl
theorem V.of {x : V} (h : x.t = false) : x = ⟨x.v, false⟩ := by cases x; cases h; rfl
/-- Where IP stands tells nothing of operands. -/
theorem getV_on (m : Mach) (n : Nat) (i : Inst) (op : Int) (t : V) : (m.on n).getV i op t = m.getV i op t := rfl

/-- Get and Put have their contracts at an operand, where hansom/addr.bases is as it was laid. -/
def GetOkG (T : TypeId) (i : Inst) (op : Int) : Prop := ∀ (w : World) (C : Phys) (lv : Value) (m : Mach), Own w C lv m → Box C lv w 0 basesC T → ∀ t : V,
  Calls Tryz.prog 66 #[.pointer (some ⟨C.b, 0, none⟩), i.val, .int .i64 op, t.val] w fun e w' => e = .returned (m.getV i op t).val ∧ After C lv w (m.getM i op) w'
def PutOkG (T : TypeId) (i : Inst) (op : Int) : Prop := ∀ (w : World) (C : Phys) (lv : Value) (m : Mach), Own w C lv m → Box C lv w 0 basesC T → ∀ t : V, t.wf →
  Calls Tryz.prog 179 #[.pointer (some ⟨C.b, 0, none⟩), i.val, .int .i64 op, t.val] w fun e w' => e = .returned (.tuple #[]) ∧ After C lv w (m.putV i op t) w'
theorem getOk_all (T : TypeId) (i : Inst) (hi : i.wf) (op : Int) (ho : (1 ≤ op ∧ op ≤ 8) ∨ (12 ≤ op ∧ op ≤ 18) ∨ (21 ≤ op ∧ op ≤ 24)) : GetOkG T i op := by
  intro w C lv m h hb t
  by_cases h1 : op = 1
  · subst h1
    by_cases hm : i.mod = 3
    · exact getOk_bare i hi.op.1 hi.op.2 1 (by decide) (fun _ => hm) w C lv m h t
    · have e1 : m.getV i 1 t = ⟨m.mem (lin (m.placeS i).v (m.placeO i)), false⟩ := by unfold Mach.getV; rw [if_pos rfl, if_neg hm]
      have e2 : m.getM i 1 = (m.placeM i).byteS (m.placeS i) (m.placeO i) := by unfold Mach.getM; rw [if_pos rfl, if_neg hm]
      rw [e1, e2]
      exact get_1m w C lv m h T hb.row i hi.disp (by simpa using hm) t
  by_cases h2 : op = 2
  · subst h2
    by_cases hm : i.mod = 3
    · exact getOk_bare i hi.op.1 hi.op.2 2 (by decide) (fun _ => hm) w C lv m h t
    · have e1 : m.getV i 2 t = m.wordV (m.placeS i) (m.placeO i) := by unfold Mach.getV; rw [if_neg (by decide), if_pos rfl, if_neg hm]
      have e2 : m.getM i 2 = (m.placeM i).wordS (m.placeS i) (m.placeO i) := by unfold Mach.getM; rw [if_neg (by decide), if_pos rfl, if_neg hm]
      rw [e1, e2]
      exact get_2m w C lv m h T hb.row i hi.disp (by simpa using hm) t
  by_cases h12 : op = 12
  · subst h12
    exact get_12 w C lv m h i hi.imm t
  by_cases h13 : op = 13
  · subst h13
    exact get_13 w C lv m h i hi.imm t
  exact getOk_bare i hi.op.1 hi.op.2 op (by omega) (by omega) w C lv m h t
theorem putOk_all (T : TypeId) (i : Inst) (hi : i.wf) (op : Int) (ho : (1 ≤ op ∧ op ≤ 5) ∨ op = 12 ∨ op = 13 ∨ op = 14 ∨ op = 16 ∨ (21 ≤ op ∧ op ≤ 23)) : PutOkG T i op := by
  intro w C lv m h hb t ht
  by_cases h1 : op = 1
  · subst h1
    by_cases hm : i.mod = 3
    · exact putOk_bare i hi.op.1 hi.op.2 1 (by decide) (fun _ => hm) w C lv m h t ht
    · have e1 : m.putV i 1 t = (m.placeM i).setMemByte (m.placeS i) (m.placeO i) (t.v % 256) := by unfold Mach.putV; rw [if_pos rfl, if_neg hm]
      rw [e1]
      exact put_1m w C lv m h T hb.row i hi.disp (by simpa using hm) t ht
  by_cases h2 : op = 2
  · subst h2
    by_cases hm : i.mod = 3
    · exact putOk_bare i hi.op.1 hi.op.2 2 (by decide) (fun _ => hm) w C lv m h t ht
    · have e1 : m.putV i 2 t = (m.placeM i).setWord (m.placeS i) (m.placeO i) t := by unfold Mach.putV; rw [if_neg (by decide), if_pos rfl, if_neg hm]
      rw [e1]
      exact put_2m w C lv m h T hb.row i hi.disp (by simpa using hm) t ht
  by_cases h12 : op = 12
  · subst h12
    exact put_12 w C lv m h i hi.imm t ht
  by_cases h13 : op = 13
  · subst h13
    exact put_13 w C lv m h i hi.imm t ht
  exact putOk_bare i hi.op.1 hi.op.2 op (by omega) (by omega) w C lv m h t ht

theorem St3.callsG {C : Phys} {lv : Value} {w0 : World} {i : Inst} {r : IRow} {t : V} {m m' : Mach} {T : TypeId} {f : FuncId} {args : Array Value} {v : Value} (hb : Box C lv w0 0 basesC T)
    (hc : ∀ (w : World) (lv : Value), Own w C lv m → Box C lv w 0 basesC T → Calls Tryz.prog f args w fun e w' => e = .returned v ∧ After C lv w m' w') (w : World) (h : St3 C lv w0 i r t m w) :
    Calls Tryz.prog f args w fun e w' => e = .returned v ∧ St3 C lv w0 i r t m' w' := by
  obtain ⟨l, a, b, c, d, e⟩ := h
  exact (hc w l a (hb.step b.f b.k)).mono fun _ _ ⟨he, ha⟩ => ⟨he, St3.after a b c d e ha⟩
end Go.Proofs.YtcglkefaopgjeaaGreatDoor

/- Package cpu: Step and do, of what reckons, where hansom/addr.bases is as it was laid. -/
namespace Go.Proofs.YtcglkefaopgjeaaGreatDoor
set_option linter.unusedSimpArgs false
set_option linter.unusedVariables false
open Go.RowKit

set_option maxRecDepth 100000 in
set_option maxHeartbeats 3200000 in
theorem step_anyG (w : World) (C : Phys) (lv : Value) (m m' : Mach) (h : Own w C lv m) (T : TypeId) (hbx : Box C lv w 0 basesC T) (h0 : m.state = 0) (i : Inst) (n : Nat) (ht : takeF m.code = some (i, n)) (hp : m.plainB (-1) n = true) (hn : n ≤ 65535) (r : IRow) (hr : instRow i.op i.reg = some r)
    (hw : i.wf) (hrep : repsOf r.name = 0) (hfl : isFlow r.name = false)
    (hdo : ∀ (w : World) (lv : Value), Own w C lv (m.on n) → Box C lv w 0 basesC T → Calls Tryz.prog 75 #[.pointer (some ⟨C.b, 0, none⟩), i.val, r.val, V.val ⟨i.imm, false⟩] w fun e w' => e = .returned (.tuple #[]) ∧ After C lv w m' w') :
    Calls Tryz.prog 25 #[.pointer (some ⟨C.b, 0, none⟩)] w fun e w' => e = .returned (.bool true) ∧ After C lv w m' w' := by
  have hb0 : (m.state != 0) = false := by simp [h0]
  have HO0 := Lib.hid h
  have HBX := Lib.hid hbx
  have HDO := Lib.hid hdo
  have HR := Lib.hid hr
  have HT := Lib.hid ht
  have HP := Lib.hid hp
  have HREP := Lib.hid hrep
  have HFL := Lib.hid hfl
  clear h hbx h0 hdo hr ht hp hrep hfl
  obtain ⟨rn, ra, rb, rm⟩ := r
  have ew : IntKind.u16.wrap (n : Int) = (n : Int) := by rw [IntKind.wrap_u16]; omega
  go_enter Tryz.func25, Tryz.ntmps25
  go_wp2_with fail
  refine (state_any _ _ _ _ HO0.out).mono ?_
  rintro e w' ⟨rfl, rfl⟩; dsimp only
  go_wp2_with fail
  refine (fetch_ok _ _ _ _ HO0.out i n HT.out HP.out).mono ?_
  rintro e w1 ⟨rfl, hb⟩; dsimp only
  have HO1 := Lib.hid (((HO0.out.below hb).alloc (.cells (instC i) 30)).alloc (.cells #[.int .u16 i.imm, .bool false] 24) |>.alloc (.cells #[.int .u16 i.sel, .bool false] 24))
  have HA1 := Lib.hid (((((Acc.refl C lv w).below hb).alloc (.cells (instC i) 30)).alloc (.cells #[.int .u16 i.imm, .bool false] 24)).alloc (.cells #[.int .u16 i.sel, .bool false] 24))
  have HI1 := Lib.hid (((Row.new w1 (instC i) 30).alloc (.cells #[.int .u16 i.imm, .bool false] 24)).alloc (.cells #[.int .u16 i.sel, .bool false] 24))
  have HV1 := Lib.hid ((Row.new' (w := w1.alloc (.cells (instC i) 30)) (n := w1.heap.size + 1) (cs := #[.int .u16 i.imm, .bool false]) (t := 24) (by simp)).alloc (.cells #[.int .u16 i.sel, .bool false] 24))
  have HS1 := Lib.hid (Row.new' (w := (w1.alloc (.cells (instC i) 30)).alloc (.cells #[.int .u16 i.imm, .bool false] 24)) (n := w1.heap.size + 1 + 1) (cs := #[.int .u16 i.sel, .bool false]) (t := 24) (by simp))
  have HB := Lib.hid (show C.b < w1.heap.size from Nat.lt_of_lt_of_le HO0.out.row.lt hb.size)
  clear hb
  go_wp2_with fail
  generalize ((w1.alloc (.cells (instC i) 30)).alloc (.cells #[.int .u16 i.imm, .bool false] 24)).alloc (.cells #[.int .u16 i.sel, .bool false] 24) = W1 at HO1 HA1 HI1 HV1 HS1 ⊢
  refine (instRow_any i _ hw.op.1 hw.op.2 hw.reg.1 hw.reg.2).mono ?_
  rw [HR.out, rowV_some]
  rintro e w2 ⟨rfl, hb⟩; dsimp only
  have HO2 := Lib.hid ((HO1.out.below hb).alloc (.cells #[.int .i64 rn, .int .i64 ra, .int .i64 rb, .bool rm] 47))
  have HA2 := Lib.hid ((HA1.out.below hb).alloc (.cells #[.int .i64 rn, .int .i64 ra, .int .i64 rb, .bool rm] 47))
  have HI2 := Lib.hid ((Below.row hb HI1.out HI1.out.lt).alloc (.cells #[.int .i64 rn, .int .i64 ra, .int .i64 rb, .bool rm] 47))
  have HV2 := Lib.hid ((Below.row hb HV1.out HV1.out.lt).alloc (.cells #[.int .i64 rn, .int .i64 ra, .int .i64 rb, .bool rm] 47))
  have HS2 := Lib.hid ((Below.row hb HS1.out HS1.out.lt).alloc (.cells #[.int .i64 rn, .int .i64 ra, .int .i64 rb, .bool rm] 47))
  have HR2 := Lib.hid (Row.new w2 #[.int .i64 rn, .int .i64 ra, .int .i64 rb, .bool rm] 47)
  have L2 := Lib.hid (Nat.lt_of_lt_of_le (Below.row hb HI1.out HI1.out.lt).lt (Nat.le_refl _))
  clear hb
  go_upto_region 7 with fail
  generalize w2.alloc (.cells #[.int .i64 rn, .int .i64 ra, .int .i64 rb, .bool rm] 47) = W2 at HO2 HA2 HI2 HV2 HS2 HR2 ⊢
  have sc := HO2.out.sees.c
  have sf := HO2.out.sees.f
  have sl := HO2.out.row.lt
  go_upto_region 10 with fail
  have ne1 : w1.heap.size ≠ C.b := Nat.ne_of_gt HB.out
  have ne2 : w1.heap.size + 1 ≠ C.b := by have := HB.out; omega
  have ne3 : w2.heap.size ≠ C.b := by have := HB.out; have := L2.out; omega
  have HO3 := Lib.hid (show Own _ C lv (m.on n) from HO2.out.setIP (IntKind.u16.wrap (m.r.ip + n)) (wrap16_lo _) (wrap16_hi _))
  have HA3 := Lib.hid (HA2.out.setB 24 (.int .u16 (IntKind.u16.wrap (m.r.ip + n))))
  have hi3 := HI2.out.setCell_other ⟨C.b, 24, none⟩ (.int .u16 (IntKind.u16.wrap (m.r.ip + n))) ne1
  have hv3 := HV2.out.setCell_other ⟨C.b, 24, none⟩ (.int .u16 (IntKind.u16.wrap (m.r.ip + n))) ne2
  have hr3 := HR2.out.setCell_other ⟨C.b, 24, none⟩ (.int .u16 (IntKind.u16.wrap (m.r.ip + n))) ne3
  clear sc sf sl ne1 ne2 ne3
  generalize W2.setCell ⟨C.b, 24, none⟩ (.int .u16 (IntKind.u16.wrap (m.r.ip + n))) = W3 at HO3 HA3 hi3 hv3 hr3 ⊢
  have ci := hi3.cell
  have cv := hv3.cell
  have cr := hr3.cell
  clear hi3 hv3 hr3
  go_wp2_with fail
  refine (reps_any rn _).mono ?_
  rw [HREP.out]
  rintro e w' ⟨rfl, rfl⟩; dsimp only
  go_wp2_with fail
  refine (isFlow_no rn _ HFL.out).mono ?_
  rintro e w' ⟨rfl, rfl⟩; dsimp only
  go_wp2_with fail
  refine (HDO.out _ _ HO3.out (HBX.out.step HA3.out.f HA3.out.k)).mono ?_
  rintro e w4 ⟨rfl, lv4, h4, f4, k4⟩; dsimp only
  have HF := Lib.hid (After.mk h4 (HA3.out.trans ⟨f4, k4⟩))
  clear h4 f4 k4 ci cv cr
  go_wp2_with fail
  go_ret
  exact ⟨rfl, HF.out⟩

set_option maxRecDepth 100000 in
set_option maxHeartbeats 3200000 in
theorem do_numbersG (w : World) (C : Phys) (lv : Value) (m m' : Mach) (h : Own w C lv m) (T : TypeId) (hbx : Box C lv w 0 basesC T) (i : Inst) (r : IRow) (t : V) (hn : r.name = 1 ∨ r.name = 2 ∨ r.name = 3 ∨ r.name = 4 ∨ r.name = 5 ∨ r.name = 6 ∨ r.name = 7 ∨ r.name = 8 ∨ r.name = 33 ∨ r.name = 15 ∨ r.name = 16 ∨ r.name = 63 ∨ r.name = 64 ∨ r.name = 65 ∨ r.name = 66 ∨ r.name = 67 ∨ r.name = 68 ∨ r.name = 69 ∨ r.name = 84 ∨ r.name = 85 ∨ r.name = 86 ∨ r.name = 87 ∨ r.name = 88 ∨ r.name = 89)
    (hc : ∀ (w : World) (lv : Value), Own w C lv m → Box C lv w 0 basesC T → Calls Tryz.prog 131 #[.pointer (some ⟨C.b, 0, none⟩), i.val, r.val, t.val] w fun e w' => e = .returned (.tuple #[]) ∧ After C lv w m' w') :
    Calls Tryz.prog 75 #[.pointer (some ⟨C.b, 0, none⟩), i.val, r.val, t.val] w fun e w' => e = .returned (.tuple #[]) ∧ After C lv w m' w' := by
  obtain ⟨name, ra, rb, rm⟩ := r
  dsimp only at hn
  have hs := st3 h i ⟨name, ra, rb, rm⟩ t
  have KC := Lib.hid (St3.callsG (lv := lv) (w0 := w) (i := i) (r := ⟨name, ra, rb, rm⟩) (t := t) hbx hc)
  clear h hbx hc
  have xi := hs.ci
  have xr := hs.cr
  have xt := hs.ct
  rcases hn with rfl | rfl | rfl | rfl | rfl | rfl | rfl | rfl | rfl | rfl | rfl | rfl | rfl | rfl | rfl | rfl | rfl | rfl | rfl | rfl | rfl | rfl | rfl | rfl
  all_goals
    go_enter Tryz.func75, Tryz.ntmps75
    go_wp2_with fail
    refine (KC.out _ hs).mono ?_
    clear hs xi xr xt
    rintro e w1 ⟨rfl, hq⟩; dsimp only
    have S1 := Lib.hid hq
    clear hq
    go_wp2_with fail
    (first | go_end0 | (((try simp only [Exit.inBlock, Exit.then]); refine bodyPost_ret (results_none rfl _ _ _) rfl ?_)))
    exact ⟨rfl, S1.out.fin⟩
end Go.Proofs.YtcglkefaopgjeaaGreatDoor

/- hansomlaw16: value: walk. -/
namespace Go.Proofs.YtcglkefaopgjeaaGreatDoor
set_option linter.unusedSimpArgs false
set_option linter.unusedVariables false
open Go.RowKit

set_option maxRecDepth 100000 in
set_option maxHeartbeats 1600000 in
theorem value_any (w : World) (C : Phys) (lv : Value) (m : Mach) (h : Own w C lv m) (T : TypeId) (hb : Box C lv w 0 basesC T) (i : Inst) (op : Int) (hg : GetOkG T i op) :
    Calls Tryz.prog 21 #[.pointer (some ⟨C.b, 0, none⟩), i.val, .int .i64 op] w fun e w' => e = .returned (.int .u16 (m.getV i op ⟨i.imm, false⟩).v) ∧ After C lv w (m.getM i op) w' := by
  have ho := h.alloc (.cells (instC i) 30)
  have hx := hb.alloc (.cells (instC i) 30)
  have ha := (Acc.refl C lv w).alloc (.cells (instC i) 30)
  have hi := Row.new w (instC i) 30
  obtain ⟨x, hV⟩ : ∃ x, m.getV i op ⟨i.imm, false⟩ = x := ⟨_, rfl⟩
  have HG := Lib.hid (fun w lv ho hx => (hV ▸ hg w C lv m ho hx ⟨i.imm, false⟩ : Calls Tryz.prog 66 #[.pointer (some ⟨C.b, 0, none⟩), i.val, .int .i64 op, V.val ⟨i.imm, false⟩] w fun e w' => e = .returned x.val ∧ After C lv w (m.getM i op) w'))
  rw [hV]
  clear hV
  clear h hb hg
  have xi := hi.cell
  go_enter Tryz.func21, Tryz.ntmps21
  go_wp2_with fail
  generalize w.alloc (.cells (instC i) 30) = W0 at *
  have HA0 := Lib.hid ha
  refine (HG.out _ _ ho hx).mono ?_
  clear ho hx ha hi xi
  clear HG
  obtain ⟨vv, vt⟩ := x
  rintro e w1 ⟨rfl, lv1, h1, f1, k1⟩; dsimp only
  have HF := Lib.hid (After.mk h1 (HA0.out.trans ⟨f1, k1⟩))
  clear h1 f1 k1
  go_wp2_with fail
  go_ret
  exact ⟨rfl, HF.out⟩
end Go.Proofs.YtcglkefaopgjeaaGreatDoor
