/- Parts of the proof, in one text: YtcglkefaopgjeaaGreatDoorS5. Each part's own remark says what it proves; conditions: those of each theorem. -/
import Derived.Test.YtcglkefaopgjeaaGreatDoorV4

/- The reference's May: walk. -/
namespace Go.Proofs.YtcglkefaopgjeaaGreatDoor
set_option linter.unusedSimpArgs false
set_option linter.unusedVariables false
open Go.RowKit

set_option maxRecDepth 100000 in
set_option maxHeartbeats 6400000 in
theorem may_any5 (i : Inst) (r : IRow) (h : Nearly i r) (hr : instRow i.op i.reg = some r) (w : World) : Calls Tryz.prog 48 #[i.val] w fun e w' => e = .returned (.bool (!noMem i.mod r)) ∧ Below w.heap.size w w' := by
  have hf := row_fine h.wf.op.1 h.wf.op.2 h.wf.reg.1 h.wf.reg.2 (instRow_some hr).2
  have HRow := Lib.hid (fun w => row_any5 i w h.wf.op.1 h.wf.op.2 h.wf.reg.1 h.wf.reg.2)
  rw [hr] at HRow
  have HRep : ∀ w, Calls Tryz.prog 47 #[.int .i64 r.name] w fun e w' => e = .returned (.int .i64 (repsOf r.name)) ∧ w = w' := by
    intro w
    have := repeats_any4 r.name.toNat (by have := hf.n1; omega) w
    rwa [Int.toNat_of_nonneg (by have := hf.n0; omega)] at this
  obtain ⟨lock, rep, seg, op, mod, reg, rm, disp, imm, sel⟩ := i
  obtain ⟨rn, ra, rb, rmod⟩ := r
  have hw := h.wf
  have e1 := h.rep
  have e2 := h.seg
  have e3 := h.none
  have e4 := h.d0
  have e5 := h.d1
  have e6 := h.tail
  have w1 := hw.mod
  have w2 := hw.reg
  have w3 := hw.rm
  have w4 := hw.disp
  have w5 := hw.imm
  have w6 := hw.sel
  dsimp only at e1 e2 e3 e4 e5 e6 w1 w2 w3 w4 w5 w6 HRep HRow
  obtain ⟨nr, hnr⟩ : ∃ n, repsOf rn = n := ⟨_, rfl⟩
  rw [hnr] at e1
  simp only [hnr] at HRep
  have HREP := Lib.hid HRep
  clear hnr HRep hr hf hw h
  have E1 := Lib.hid e1
  have E3 := Lib.hid e3
  have E4 := Lib.hid e4
  have E5 := Lib.hid e5
  have E6 := Lib.hid e6
  clear e1 e3 e4 e5 e6
  have hi0 := Row.new w #[.bool lock, .int .i64 rep, .int .i64 seg, .int .u8 op, .int .i64 mod, .int .i64 reg, .int .i64 rm, .int .u16 disp, .int .u16 imm, .int .u16 sel] 30
  have HI0 := Lib.hid hi0
  have xi0 := hi0.cell
  have HB0 := Lib.hid ((Below.refl w.heap.size w).alloc (Nat.le_refl _) (.cells #[.bool lock, .int .i64 rep, .int .i64 seg, .int .u8 op, .int .i64 mod, .int .i64 reg, .int .i64 rm, .int .u16 disp, .int .u16 imm, .int .u16 sel] 30))
  clear hi0
  have g1 : ¬ seg < 0 := by omega
  have g2 : ¬ 4 < seg := by omega
  go_enter Tryz.func48, Tryz.ntmps48
  go_wp2_with fail
  generalize w.alloc (.cells #[.bool lock, .int .i64 rep, .int .i64 seg, .int .u8 op, .int .i64 mod, .int .i64 reg, .int .i64 rm, .int .u16 disp, .int .u16 imm, .int .u16 sel] 30) = W0 at *
  refine (HRow.out _).mono ?_
  rw [rowV_some]
  rintro e w1' ⟨rfl, hb⟩; dsimp only
  have HB1 := Lib.hid ((HB0.out.trans (hb.mono HB0.out.size)).alloc (Nat.le_trans HB0.out.size hb.size) (.cells #[.int .i64 rn, .int .i64 ra, .int .i64 rb, .bool rmod] 47))
  have hi1 := (Below.row hb HI0.out HI0.out.lt).alloc (.cells #[.int .i64 rn, .int .i64 ra, .int .i64 rb, .bool rmod] 47)
  have hx1 := Row.new w1' #[.int .i64 rn, .int .i64 ra, .int .i64 rb, .bool rmod] 47
  clear hb xi0
  go_upto_region 2 with fail
  generalize w1'.alloc (.cells #[.int .i64 rn, .int .i64 ra, .int .i64 rb, .bool rmod] 47) = W1 at HB1 hi1 hx1 ⊢
  have xi := hi1.cell
  have xr := hx1.cell
  clear hi1 hx1
  go_wp2_with fail
  refine (HREP.out _).mono ?_
  rintro e w2' ⟨rfl, rfl⟩; dsimp only
  go_upto_region 5 with fail
  go_cut [53] (fun s53 wx => s53 = .bool false ∧ W1 = wx)
  case first =>
    have r1 : ¬ rep < 0 := by have := E1.out; omega
    have r2 : ¬ 2 < rep := by have := E1.out; omega
    rcases E1.out with e | ⟨e, e2⟩ | ⟨e, e2⟩
    · subst e
      as_aux_lemma => (go_wp2_with fail; go_meet; exact ⟨rfl, rfl⟩)
    · subst e e2
      as_aux_lemma => (go_wp2_with fail; go_meet; exact ⟨rfl, rfl⟩)
    · subst e
      have r3 : ¬ nr < 1 := by omega
      as_aux_lemma => (go_wp2_with fail; go_meet; exact ⟨rfl, rfl⟩)
  case rest =>
    obtain ⟨rfl, rfl⟩ := hcut
    go_upto_if 56 with fail
    go_cut [] (fun wx => W1 = wx ∧ noMem mod ⟨rn, ra, rb, rmod⟩ = false)
    case first =>
      cases rmod with
      | false =>
        obtain ⟨rfl, rfl, rfl, rfl⟩ := E3.out rfl
        as_aux_lemma => (go_wp2_with fail; go_meet; exact ⟨rfl, rfl⟩)
      | true =>
        have m1 : ¬ mod < 0 := by omega
        have m2 : ¬ 3 < mod := by omega
        have m3 : ¬ reg < 0 := by omega
        have m4 : ¬ 7 < reg := by omega
        have m5 : ¬ rm < 0 := by omega
        have m6 : ¬ 7 < rm := by omega
        by_cases h3 : mod = 3
        · have HM := Lib.hid h3
          have k3 : (mod == 3) = true := by simp [h3]
          have hdd : dispsOf mod rm = 0 := by rw [h3]; rfl
          have HD := Lib.hid hdd
          have hz := E4.out rfl hdd
          subst hz
          clear h3 hdd
          obtain ⟨b1, v1⟩ : ∃ b, (ra == 19) = b := ⟨_, rfl⟩
          obtain ⟨b2, v2⟩ : ∃ b, (ra == 20) = b := ⟨_, rfl⟩
          obtain ⟨b3, v3⟩ : ∃ b, (rb == 19) = b := ⟨_, rfl⟩
          obtain ⟨b4, v4⟩ : ∃ b, (rb == 20) = b := ⟨_, rfl⟩
          have HN := Lib.hid (show noMem mod ⟨rn, ra, rb, true⟩ = (b1 || b2 || b3 || b4) by unfold noMem; rw [k3]; dsimp only; rw [v1, v2, v3, v4]; simp)
          cases b1 with
          | true => as_aux_lemma => (go_wp2_with fail; go_ret; rw [HN.out]; exact ⟨rfl, HB1.out⟩)
          | false =>
          cases b2 with
          | true => as_aux_lemma => (go_wp2_with fail; go_ret; rw [HN.out]; exact ⟨rfl, HB1.out⟩)
          | false =>
          cases b3 with
          | true => as_aux_lemma => (go_wp2_with fail; go_ret; rw [HN.out]; exact ⟨rfl, HB1.out⟩)
          | false =>
          cases b4 with
          | true => as_aux_lemma => (go_wp2_with fail; go_ret; rw [HN.out]; exact ⟨rfl, HB1.out⟩)
          | false =>
            as_aux_lemma => (go_wp2_with (go_at_call 44; refine (disps_any5 _ _ _).mono ?_; rw [HD.out]; rintro e w' ⟨rfl, rfl⟩); go_meet; exact ⟨rfl, HN.out⟩)
        · have k3 : (mod == 3) = false := by simp [h3]
          have HN := Lib.hid (show noMem mod ⟨rn, ra, rb, true⟩ = false by unfold noMem; rw [k3]; rfl)
          clear h3
          obtain ⟨dd, hdd⟩ : ∃ dd, dispsOf mod rm = dd := ⟨_, rfl⟩
          have hd3 : dd = 0 ∨ dd = 1 ∨ dd = 2 := by rw [← hdd]; exact disps3 _ _
          have HD := Lib.hid hdd
          rcases hd3 with rfl | rfl | rfl
          · have hz := E4.out rfl hdd
            subst hz
            clear hdd
            as_aux_lemma => (go_wp2_with (go_at_call 44; refine (disps_any5 _ _ _).mono ?_; rw [HD.out]; rintro e w' ⟨rfl, rfl⟩); go_meet; exact ⟨rfl, HN.out⟩)
          · have HF := Lib.hid (E5.out rfl hdd)
            clear hdd
            as_aux_lemma => (go_wp2_with (first | (go_at_call 44; refine (disps_any5 _ _ _).mono ?_; rw [HD.out]; rintro e w' ⟨rfl, rfl⟩) | (go_at_call 96; refine (fits_any1 _ _ w4.1 w4.2).mono ?_; rw [HF.out]; rintro e w' ⟨rfl, rfl⟩)); go_meet; exact ⟨rfl, HN.out⟩)
          · clear hdd
            as_aux_lemma => (go_wp2_with (go_at_call 44; refine (disps_any5 _ _ _).mono ?_; rw [HD.out]; rintro e w' ⟨rfl, rfl⟩); go_meet; exact ⟨rfl, HN.out⟩)
    case rest =>
      obtain ⟨rfl, hno⟩ := hcut
      have HNO := Lib.hid hno
      clear hno
      go_wp2_with fail
      refine (bytes_any4 _ _).mono ?_
      have HT := Lib.hid (show tailOf ⟨rn, ra, rb, rmod⟩ = if immOf ra = 0 then rb else ra from rfl)
      generalize immOf ra = ia at HT ⊢
      rintro e w3' ⟨rfl, rfl⟩; dsimp only
      go_upto_if 152 with fail
      go_cut [7] (fun s7 wx => W1 = wx ∧ s7 = .int .i64 (tailOf ⟨rn, ra, rb, rmod⟩))
      case first =>
        by_cases hz : ia = 0
        · subst hz
          as_aux_lemma => (go_wp2_with fail; go_meet; rw [HT.out, if_pos trivial]; exact ⟨rfl, rfl⟩)
        · have kz : (ia == 0) = false := by simp [hz]
          have HZ := Lib.hid hz
          clear hz
          as_aux_lemma => (go_wp2_with fail; go_meet; rw [HT.out, if_neg HZ.out]; exact ⟨rfl, rfl⟩)
      case rest =>
        obtain ⟨rfl, rfl⟩ := hcut
        clear HT
        generalize tailOf ⟨rn, ra, rb, rmod⟩ = k at E6 ⊢
        by_cases k6 : k = 6
        · subst k6
          have ht := E6.out
          simp only [tailB, if_true, Option.getD_some, Bool.and_eq_true, Bool.or_eq_true, decide_eq_true_eq, beq_iff_eq, bne_iff_ne, ne_eq] at ht
          obtain ⟨⟨t1, t2⟩, t3⟩ := ht
          subst t2
          by_cases ha : rn = 70
          · have n1 : (rn != 70) = false := by simp [ha]
            have hi : imm = 10 := by rcases t3 with t3 | t3; exact absurd ha t3.1; exact t3
            subst hi
            clear ha t3
            as_aux_lemma => (go_wp2_with fail; go_ret; rw [HNO.out]; exact ⟨rfl, HB1.out⟩)
          · have n1 : (rn != 70) = true := by simp [ha]
            by_cases hb : rn = 71
            · have n2 : (rn != 71) = false := by simp [hb]
              have hi : imm = 10 := by rcases t3 with t3 | t3; exact absurd hb t3.2; exact t3
              subst hi
              clear ha hb t3
              as_aux_lemma => (go_wp2_with fail; go_ret; rw [HNO.out]; exact ⟨rfl, HB1.out⟩)
            · have n2 : (rn != 71) = true := by simp [hb]
              clear ha hb t3
              as_aux_lemma => (go_wp2_with fail; go_ret; rw [HNO.out]; exact ⟨rfl, HB1.out⟩)
        · by_cases k8 : k = 8 ∨ k = 9
          · have ht := E6.out
            rw [tailB, if_neg k6, if_pos k8] at ht
            simp only [Option.getD_some, Bool.and_eq_true, beq_iff_eq] at ht
            obtain ⟨t1, t2⟩ := ht
            subst t2
            have HF := Lib.hid t1
            clear t1
            rcases k8 with rfl | rfl
            · as_aux_lemma => (go_wp2_with (go_at_call 96; refine (fits_any1 _ _ w5.1 w5.2).mono ?_; rw [HF.out]; rintro e w' ⟨rfl, rfl⟩); go_ret; rw [HNO.out]; exact ⟨rfl, HB1.out⟩)
            · as_aux_lemma => (go_wp2_with (go_at_call 96; refine (fits_any1 _ _ w5.1 w5.2).mono ?_; rw [HF.out]; rintro e w' ⟨rfl, rfl⟩); go_ret; rw [HNO.out]; exact ⟨rfl, HB1.out⟩)
          · by_cases k7 : k = 7 ∨ k = 10 ∨ k = 12 ∨ k = 13
            · have ht := E6.out
              rw [tailB, if_neg k6, if_neg k8, if_pos k7] at ht
              simp only [Option.getD_some, beq_iff_eq] at ht
              subst ht
              clear k6 k8
              rcases k7 with rfl | rfl | rfl | rfl
              · as_aux_lemma => (go_wp2_with fail; go_ret; rw [HNO.out]; exact ⟨rfl, HB1.out⟩)
              · as_aux_lemma => (go_wp2_with fail; go_ret; rw [HNO.out]; exact ⟨rfl, HB1.out⟩)
              · as_aux_lemma => (go_wp2_with fail; go_ret; rw [HNO.out]; exact ⟨rfl, HB1.out⟩)
              · as_aux_lemma => (go_wp2_with fail; go_ret; rw [HNO.out]; exact ⟨rfl, HB1.out⟩)
            · by_cases k11 : k = 11
              · subst k11
                as_aux_lemma => (go_wp2_with fail; go_ret; rw [HNO.out]; exact ⟨rfl, HB1.out⟩)
              · have ht := E6.out
                rw [tailB, if_neg k6, if_neg k8, if_neg k7, if_neg k11] at ht
                simp only [Option.getD_none, Bool.and_eq_true, beq_iff_eq] at ht
                obtain ⟨t1, t2⟩ := ht
                subst t1 t2
                have q1 : (k == 6) = false := by simp; omega
                have q2 : (k == 8) = false := by simp; omega
                have q3 : (k == 9) = false := by simp; omega
                have q4 : (k == 7) = false := by simp; omega
                have q5 : (k == 10) = false := by simp; omega
                have q6 : (k == 12) = false := by simp; omega
                have q7 : (k == 13) = false := by simp; omega
                have q8 : (k == 11) = false := by simp; omega
                clear k6 k8 k7 k11
                as_aux_lemma => (go_wp2_with fail; go_ret; rw [HNO.out]; exact ⟨rfl, HB1.out⟩)
end Go.Proofs.YtcglkefaopgjeaaGreatDoor
