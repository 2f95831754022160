/- Package inst, continued: behind, May. -/
import Derived.Test.YtcglkefaopgjeaaGreatDoorH6
namespace Go.Proofs.YtcglkefaopgjeaaGreatDoor
set_option linter.unusedSimpArgs false
set_option linter.unusedVariables false
open Go.RowKit

def tailB (imm sel name k : Int) : Option Bool :=
  if k = 6 then some (decide (imm < 256) && sel == 0 && ((name != 70 && name != 71) || imm == 10)) else if k = 8 ∨ k = 9 then some (fitsB imm && sel == 0) else
  if k = 7 ∨ k = 10 ∨ k = 12 ∨ k = 13 then some (sel == 0) else if k = 11 then some true else none
def behindB (i : Inst) (r : IRow) : Bool := ((tailB i.imm i.sel r.name r.a).getD ((tailB i.imm i.sel r.name r.b).getD (i.imm == 0 && i.sel == 0)))

set_option maxRecDepth 100000 in
set_option maxHeartbeats 6400000 in
theorem behind_any (i : Inst) (r : IRow) (w : World) (hi : i.wf) : Calls Tryz.prog 197 #[i.val, r.val] w fun e w' => e = .returned (.bool (behindB i r)) ∧ Below w.heap.size w w' := by
  obtain ⟨lock, rep, seg, op, mod, reg, rm, disp, imm, sel⟩ := i
  obtain ⟨rn, ra, rb, rmod⟩ := r
  have hm := hi.imm
  dsimp only at hm
  clear hi
  have HB := Lib.hid (show behindB ⟨lock, rep, seg, op, mod, reg, rm, disp, imm, sel⟩ ⟨rn, ra, rb, rmod⟩ = ((tailB imm sel rn ra).getD ((tailB imm sel rn rb).getD (imm == 0 && sel == 0))) from rfl)
  have hb0 := ((Below.refl w.heap.size w).alloc (Nat.le_refl _) (.cells #[.bool lock, .int .i64 rep, .int .i64 seg, .int .u8 op, .int .i64 mod, .int .i64 reg, .int .i64 rm, .int .u16 disp, .int .u16 imm, .int .u16 sel] 30)).alloc (by simp) (.cells #[.int .i64 rn, .int .i64 ra, .int .i64 rb, .bool rmod] 47)
  have hx := (Row.new w #[.bool lock, .int .i64 rep, .int .i64 seg, .int .u8 op, .int .i64 mod, .int .i64 reg, .int .i64 rm, .int .u16 disp, .int .u16 imm, .int .u16 sel] 30).alloc (.cells #[.int .i64 rn, .int .i64 ra, .int .i64 rb, .bool rmod] 47)
  have hy := Row.new' (w := w.alloc (.cells #[.bool lock, .int .i64 rep, .int .i64 seg, .int .u8 op, .int .i64 mod, .int .i64 reg, .int .i64 rm, .int .u16 disp, .int .u16 imm, .int .u16 sel] 30)) (n := w.heap.size + 1) (cs := #[.int .i64 rn, .int .i64 ra, .int .i64 rb, .bool rmod]) (t := 47) (by simp)
  have HB0 := Lib.hid hb0
  have HX := Lib.hid hx
  have HY := Lib.hid hy
  clear hb0 hx hy
  obtain ⟨b1, g1⟩ : ∃ b, decide (imm < 256) = b := ⟨_, rfl⟩
  obtain ⟨b2, g2⟩ : ∃ b, (sel == 0) = b := ⟨_, rfl⟩
  obtain ⟨b3, g3⟩ : ∃ b, (rn != 70) = b := ⟨_, rfl⟩
  obtain ⟨b4, g4⟩ : ∃ b, (rn != 71) = b := ⟨_, rfl⟩
  obtain ⟨b5, g5⟩ : ∃ b, (imm == 10) = b := ⟨_, rfl⟩
  obtain ⟨b6, g6⟩ : ∃ b, (imm == 0) = b := ⟨_, rfl⟩
  obtain ⟨b7, hf⟩ : ∃ b, fitsB imm = b := ⟨_, rfl⟩
  have i0 : ∀ w, (Instr.index 68 (.agg #[.int .i64 ra, .int .i64 rb]) (.int .i64 0)).run Tryz.prog w = .ok (.int .i64 ra) w := fun _ => by rfl
  have i1 : ∀ w, (Instr.index 68 (.agg #[.int .i64 ra, .int .i64 rb]) (.int .i64 1)).run Tryz.prog w = .ok (.int .i64 rb) w := fun _ => by rfl
  have T : ∀ k, tailB imm sel rn k = if k = 6 then some (b1 && b2 && ((b3 && b4) || b5)) else if k = 8 ∨ k = 9 then some (b7 && b2) else if k = 7 ∨ k = 10 ∨ k = 12 ∨ k = 13 then some b2 else if k = 11 then some true else none := by
    intro k; rw [tailB, g1, g2, g3, g4, g5, hf]
  have HB := Lib.hid (show behindB ⟨lock, rep, seg, op, mod, reg, rm, disp, imm, sel⟩ ⟨rn, ra, rb, rmod⟩ = ((tailB imm sel rn ra).getD ((tailB imm sel rn rb).getD (b6 && b2))) by rw [HB.out, g6, g2])
  have HT := Lib.hid T
  have HF := Lib.hid hf
  clear T hf
  have cls : ∀ k : Int, (k = 6 ∨ k = 8 ∨ k = 9 ∨ k = 7 ∨ k = 10 ∨ k = 12 ∨ k = 13 ∨ k = 11) ∨ (tailB imm sel rn k = none ∧ (k == 6) = false ∧ (k == 8) = false ∧ (k == 9) = false ∧ (k == 7) = false ∧ (k == 10) = false ∧ (k == 12) = false ∧ (k == 13) = false ∧ (k == 11) = false) := by
    intro k
    by_cases h : (k = 6 ∨ k = 8 ∨ k = 9 ∨ k = 7 ∨ k = 10 ∨ k = 12 ∨ k = 13 ∨ k = 11)
    · exact Or.inl h
    · refine Or.inr ⟨?_, ?_⟩
      · rw [HT.out, if_neg (by omega), if_neg (by omega), if_neg (by omega), if_neg (by omega)]
      · simp only [beq_eq_false_iff_ne]; omega
  have ha := cls ra
  have hb := cls rb
  have HCB := Lib.hid hb
  clear cls hb
  go_enter Tryz.func197, Tryz.ntmps197
  go_wp2_with fail
  generalize (w.alloc (.cells #[.bool lock, .int .i64 rep, .int .i64 seg, .int .u8 op, .int .i64 mod, .int .i64 reg, .int .i64 rm, .int .u16 disp, .int .u16 imm, .int .u16 sel] 30)).alloc (.cells #[.int .i64 rn, .int .i64 ra, .int .i64 rb, .bool rmod] 47) = W0 at *
  have xc := HX.out.cell
  have yc := HY.out.cell
  clear HX HY
  go_loop [12] (fun i => i = .int .i64 0 ∨ (i = .int .i64 1 ∧ tailB imm sel rn ra = none) ∨ (i = .int .i64 2 ∧ tailB imm sel rn ra = none ∧ tailB imm sel rn rb = none)) (fun i => 2 - (intOf i).toNat)
  case atStart => exact Or.inl rfl
  case round =>
    rcases hrel with rfl | ⟨rfl, hn⟩ | ⟨rfl, hn, hn2⟩
    · rcases ha with ha | ⟨hn, t1, t2, t3, t4, t5, t6, t7, t8⟩
      · rcases ha with rfl | rfl | rfl | rfl | rfl | rfl | rfl | rfl
        · cases b1 <;> cases b2 <;> cases b3 <;> cases b4
          all_goals
            go_wp2_with (go_at_call 213; refine (fits_any _ _ hm.1 hm.2).mono ?_; rw [HF.out]; rintro e w' ⟨rfl, rfl⟩)
            go_ret
            rw [HB.out, HT.out]
            exact ⟨by first | rfl | simp, HB0.out⟩
        · cases b7
          all_goals
            go_wp2_with (go_at_call 213; refine (fits_any _ _ hm.1 hm.2).mono ?_; rw [HF.out]; rintro e w' ⟨rfl, rfl⟩)
            go_ret
            rw [HB.out, HT.out]
            exact ⟨by first | rfl | simp, HB0.out⟩
        · cases b7
          all_goals
            go_wp2_with (go_at_call 213; refine (fits_any _ _ hm.1 hm.2).mono ?_; rw [HF.out]; rintro e w' ⟨rfl, rfl⟩)
            go_ret
            rw [HB.out, HT.out]
            exact ⟨by first | rfl | simp, HB0.out⟩
        · go_wp2_with (go_at_call 213; refine (fits_any _ _ hm.1 hm.2).mono ?_; rw [HF.out]; rintro e w' ⟨rfl, rfl⟩)
          go_ret
          rw [HB.out, HT.out]
          exact ⟨by first | rfl | simp, HB0.out⟩
        · go_wp2_with (go_at_call 213; refine (fits_any _ _ hm.1 hm.2).mono ?_; rw [HF.out]; rintro e w' ⟨rfl, rfl⟩)
          go_ret
          rw [HB.out, HT.out]
          exact ⟨by first | rfl | simp, HB0.out⟩
        · go_wp2_with (go_at_call 213; refine (fits_any _ _ hm.1 hm.2).mono ?_; rw [HF.out]; rintro e w' ⟨rfl, rfl⟩)
          go_ret
          rw [HB.out, HT.out]
          exact ⟨by first | rfl | simp, HB0.out⟩
        · go_wp2_with (go_at_call 213; refine (fits_any _ _ hm.1 hm.2).mono ?_; rw [HF.out]; rintro e w' ⟨rfl, rfl⟩)
          go_ret
          rw [HB.out, HT.out]
          exact ⟨by first | rfl | simp, HB0.out⟩
        · go_wp2_with (go_at_call 213; refine (fits_any _ _ hm.1 hm.2).mono ?_; rw [HF.out]; rintro e w' ⟨rfl, rfl⟩)
          go_ret
          rw [HB.out, HT.out]
          exact ⟨by first | rfl | simp, HB0.out⟩
      · have HN := Lib.hid hn
        clear hn
        go_wp2_with fail
        exact ⟨Or.inr (Or.inl ⟨rfl, HN.out⟩), by simp [intOf]⟩
    · have HN := Lib.hid hn
      clear hn ha
      rcases HCB.out with hb | ⟨hn, t1, t2, t3, t4, t5, t6, t7, t8⟩
      · rcases hb with rfl | rfl | rfl | rfl | rfl | rfl | rfl | rfl
        · cases b1 <;> cases b2 <;> cases b3 <;> cases b4
          all_goals
            go_wp2_with (go_at_call 213; refine (fits_any _ _ hm.1 hm.2).mono ?_; rw [HF.out]; rintro e w' ⟨rfl, rfl⟩)
            go_ret
            rw [HB.out, HN.out, HT.out]
            exact ⟨by first | rfl | simp, HB0.out⟩
        · cases b7
          all_goals
            go_wp2_with (go_at_call 213; refine (fits_any _ _ hm.1 hm.2).mono ?_; rw [HF.out]; rintro e w' ⟨rfl, rfl⟩)
            go_ret
            rw [HB.out, HN.out, HT.out]
            exact ⟨by first | rfl | simp, HB0.out⟩
        · cases b7
          all_goals
            go_wp2_with (go_at_call 213; refine (fits_any _ _ hm.1 hm.2).mono ?_; rw [HF.out]; rintro e w' ⟨rfl, rfl⟩)
            go_ret
            rw [HB.out, HN.out, HT.out]
            exact ⟨by first | rfl | simp, HB0.out⟩
        · go_wp2_with (go_at_call 213; refine (fits_any _ _ hm.1 hm.2).mono ?_; rw [HF.out]; rintro e w' ⟨rfl, rfl⟩)
          go_ret
          rw [HB.out, HN.out, HT.out]
          exact ⟨by first | rfl | simp, HB0.out⟩
        · go_wp2_with (go_at_call 213; refine (fits_any _ _ hm.1 hm.2).mono ?_; rw [HF.out]; rintro e w' ⟨rfl, rfl⟩)
          go_ret
          rw [HB.out, HN.out, HT.out]
          exact ⟨by first | rfl | simp, HB0.out⟩
        · go_wp2_with (go_at_call 213; refine (fits_any _ _ hm.1 hm.2).mono ?_; rw [HF.out]; rintro e w' ⟨rfl, rfl⟩)
          go_ret
          rw [HB.out, HN.out, HT.out]
          exact ⟨by first | rfl | simp, HB0.out⟩
        · go_wp2_with (go_at_call 213; refine (fits_any _ _ hm.1 hm.2).mono ?_; rw [HF.out]; rintro e w' ⟨rfl, rfl⟩)
          go_ret
          rw [HB.out, HN.out, HT.out]
          exact ⟨by first | rfl | simp, HB0.out⟩
        · go_wp2_with (go_at_call 213; refine (fits_any _ _ hm.1 hm.2).mono ?_; rw [HF.out]; rintro e w' ⟨rfl, rfl⟩)
          go_ret
          rw [HB.out, HN.out, HT.out]
          exact ⟨by first | rfl | simp, HB0.out⟩
      · have HN2 := Lib.hid hn
        clear hn
        go_wp2_with fail
        exact ⟨Or.inr (Or.inr ⟨rfl, HN.out, HN2.out⟩), by simp [intOf]⟩
    · have HN := Lib.hid hn
      have HN2 := Lib.hid hn2
      clear hn hn2 ha
      cases b6
      all_goals
        go_wp2_with fail
        go_ret
        rw [HB.out, HN.out, HN2.out]
        exact ⟨rfl, HB0.out⟩
end Go.Proofs.YtcglkefaopgjeaaGreatDoor
