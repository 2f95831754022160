/- Parts of the proof, in one text: YtcglkefaopgjeaaGreatDoorS6 YtcglkefaopgjeaaGreatDoorS9. Each part's own remark says what it proves; conditions: those of each theorem. -/
import Derived.Test.YtcglkefaopgjeaaGreatDoorV5
import Derived.Deep.CutBlock
import Derived.Test.YtcglkefaopgjeaaGreatDoorV3
import Derived.Test.YtcglkefaopgjeaaGreatDoorV4

/- The reference's instruction near any numbers: walk. -/
namespace Go.Proofs.YtcglkefaopgjeaaGreatDoor
set_option linter.unusedSimpArgs false
set_option linter.unusedVariables false
open Go.RowKit

theorem setI_row {w : World} {g : Nat} {a0 a1 a2 a3 a4 a5 a6 a7 a8 a9 : Value} (h : Row w g #[a0, a1, a2, a3, a4, a5, a6, a7, a8, a9] 30) (j : Nat) (v : Value) : Row (w.setCell ⟨g, j, none⟩ v) g (#[a0, a1, a2, a3, a4, a5, a6, a7, a8, a9].setIfInBounds j v) 30 := h.setCell j v
/-- What Near has at its steps: its argument's box, its result's, its row's. -/
structure NearAt (w wx : World) (x i : Inst) (r : IRow) (kr : Nat) : Prop where
  b : Below w.heap.size w wx
  x : Row wx w.heap.size x.cells 30
  i : Row wx (w.heap.size + 1) i.cells 30
  r : Row wx kr #[.int .i64 r.name, .int .i64 r.a, .int .i64 r.b, .bool r.mod] 47
  k : w.heap.size + 1 < kr
theorem NearAt.set {w wx : World} {x i : Inst} {r : IRow} {kr : Nat} (h : NearAt w wx x i r kr) (j : Nat) (v : Value) (i2 : Inst) (he : i.cells.setIfInBounds j v = i2.cells) : NearAt w (wx.setCell ⟨w.heap.size + 1, j, none⟩ v) x i2 r kr :=
  ⟨h.b.setCell (p := ⟨w.heap.size + 1, j, none⟩) (Nat.le_succ _) _, h.x.setCell_other _ _ (by simp), he ▸ h.i.setCell j v, h.r.setCell_other _ _ (by have := h.k; simp; omega), h.k⟩
theorem NearAt.on {w wx wy : World} {x i : Inst} {r : IRow} {kr : Nat} (h : NearAt w wx x i r kr) (hb : Below wx.heap.size wx wy) : NearAt w wy x i r kr :=
  ⟨h.b.trans (hb.mono h.b.size), Below.row hb h.x h.x.lt, Below.row hb h.i h.i.lt, Below.row hb h.r h.r.lt, h.k⟩
theorem NearAt.drew {w wx : World} {x i : Inst} {r : IRow} {kr : Nat} (h : NearAt w wx x i r kr) : NearAt w wx.drew x i r kr := h.on (Below.refl _ _).drew

theorem i64_and3 (n : Int) : bits .and .i64 n 3 = n % 4 := by
  have h7 : (BitVec.ofInt 64 3).toNat = 2 ^ 2 - 1 := by decide
  have key : (BitVec.ofInt 64 n &&& BitVec.ofInt 64 3).toNat = (n % ((2 ^ 64 : Nat) : Int)).toNat % 2 ^ 2 := by
    rw [BitVec.toNat_and, BitVec.toNat_ofInt, h7, Nat.and_two_pow_sub_one_eq_mod]
  show IntKind.i64.wrap ((BitVec.ofInt 64 n &&& BitVec.ofInt 64 3).toNat : Nat) = n % 4
  rw [key, IntKind.wrap_i64]
  omega
theorem i64_and1 (n : Int) : bits .and .i64 n 1 = n % 2 := by
  have h7 : (BitVec.ofInt 64 1).toNat = 2 ^ 1 - 1 := by decide
  have key : (BitVec.ofInt 64 n &&& BitVec.ofInt 64 1).toNat = (n % ((2 ^ 64 : Nat) : Int)).toNat % 2 ^ 1 := by
    rw [BitVec.toNat_and, BitVec.toNat_ofInt, h7, Nat.and_two_pow_sub_one_eq_mod]
  show IntKind.i64.wrap ((BitVec.ofInt 64 n &&& BitVec.ofInt 64 1).toNat : Nat) = n % 2
  rw [key, IntKind.wrap_i64]
  omega
/-- What begins Near's steps. -/
theorem nearAt_new {w w1 : World} {x i : Inst} (r : IRow) (hb : Below ((w.alloc (.cells x.cells 30)).alloc (.cells i.cells 30)).heap.size ((w.alloc (.cells x.cells 30)).alloc (.cells i.cells 30)) w1) :
    NearAt w (w1.alloc (.cells #[.int .i64 r.name, .int .i64 r.a, .int .i64 r.b, .bool r.mod] 47)) x i r w1.heap.size := by
  have hz := hb.size
  simp only [World.size_alloc] at hz
  have b0 := ((Below.refl w.heap.size w).alloc (Nat.le_refl _) (.cells x.cells 30)).alloc (by simp) (.cells i.cells 30)
  have b1 := b0.trans (hb.mono (by simp; omega))
  exact ⟨b1.alloc b1.size _, (Below.row hb ((Row.new w x.cells 30).alloc _) (by simp; omega)).alloc _, (Below.row hb (Row.new' (by simp)) (by simp)).alloc _, Row.new _ _ _, by omega⟩

set_option maxRecDepth 100000 in
set_option maxHeartbeats 6400000 in
theorem near_any5 (x : Inst) (h : x.kinds) (w : World) : Calls Tryz.prog 14 #[x.val] w fun e w' => e = .returned (nearI x).val ∧ Below w.heap.size w w' := by
  have n0 : ∀ wx, Calls Tryz.prog 43 #[Inst.val ⟨x.lock, 0, 0, x.op, 0, x.reg % 8, 0, 0, 0, 0⟩] wx fun e w' => e = .returned (rowV (instRow x.op (x.reg % 8))) ∧ Below wx.heap.size wx w' := fun wx =>
    row_any5 ⟨x.lock, 0, 0, x.op, 0, x.reg % 8, 0, 0, 0, 0⟩ wx h.op.1 h.op.2 (by dsimp only; omega) (by dsimp only; omega)
  have a7 : bits BinOp.and IntKind.i64 x.reg 7 = x.reg % 8 := i64_and7 _
  have N0 := Lib.hid n0
  have K := Lib.hid h
  obtain ⟨lock, rep, seg, op, mod, reg, rm, disp, imm, sel⟩ := x
  clear n0 h
  dsimp only at a7
  go_enter Tryz.func14, Tryz.ntmps14
  go_wp2_with fail
  refine (N0.out _).mono ?_
  cases hrow : instRow op (reg % 8) with
  | none =>
    have HE := Lib.hid (show nearI ⟨lock, rep, seg, op, mod, reg, rm, disp, imm, sel⟩ = nopI by unfold nearI; dsimp only; rw [hrow])
    clear hrow
    rw [rowV_none]
    rintro e w1 ⟨rfl, hb⟩; dsimp only
    have hr := Below.row hb (Row.new' (w := w.alloc (.cells (Inst.cells ⟨lock, rep, seg, op, mod, reg, rm, disp, imm, sel⟩) 30)) (n := w.heap.size + 1) (cs := (Inst.cells ⟨lock, 0, 0, op, 0, reg % 8, 0, 0, 0, 0⟩)) (t := 30) (by simp)) (by simp)
    have b0 := ((Below.refl w.heap.size w).alloc (Nat.le_refl _) (.cells (Inst.cells ⟨lock, rep, seg, op, mod, reg, rm, disp, imm, sel⟩) 30)).alloc (by simp) (.cells (Inst.cells ⟨lock, 0, 0, op, 0, reg % 8, 0, 0, 0, 0⟩) 30)
    have HB := Lib.hid (b0.trans (hb.mono (by simp; omega)))
    have HR := Lib.hid hr
    have ci := hr.cell
    have fi := hr.frozen
    have li := hr.lt
    clear hb hr b0
    go_wp2_with fail
    refine bodyPost_ret (v := nopI.val) (results_row rfl _ _ _ _ _ _ rfl ((row_inst nopI HR.out).alloc _) Tryz.underlying30 rfl (by kernel_rfl)) rfl ⟨by rw [HE.out], ?_⟩
    refine Below.alloc ?_ (by simp only [World.size_setCell]; exact HB.out.size) _
    repeat (with_reducible refine Below.setCell ?_ (Nat.le_succ _) _)
    exact HB.out
  | some r =>
    have hf := row_fine K.out.op.1 K.out.op.2 (by omega) (by omega) (instRow_some hrow).2
    have HRW := Lib.hid hrow
    have HF := Lib.hid hf
    obtain ⟨rn, ra, rb, rmod⟩ := r
    rw [rowV_some]
    rintro e w1 ⟨rfl, hb⟩; dsimp only
    have HN1 := Lib.hid (nearAt_new (x := ⟨lock, rep, seg, op, mod, reg, rm, disp, imm, sel⟩) (i := ⟨lock, 0, 0, op, 0, reg % 8, 0, 0, 0, 0⟩) ⟨rn, ra, rb, rmod⟩ hb)
    clear hb hrow hf
    go_upto_if 22 with fail
    generalize w1.alloc (.cells #[.int .i64 rn, .int .i64 ra, .int .i64 rb, .bool rmod] 47) = W1 at HN1 ⊢
    generalize w1.heap.size = kr at HN1 ⊢
    have n1 : ¬ kr = w.heap.size + 1 := by have := HN1.out.k; omega
    have n2 : ¬ w.heap.size + 1 = kr := by omega
    have n3 : ¬ kr = w.heap.size := by have := HN1.out.k; omega
    have n4 : ¬ w.heap.size = kr := by omega
    have cx := HN1.out.x.cell; have ci := HN1.out.i.cell; have fi := HN1.out.i.frozen; have li := HN1.out.i.lt; have cr := HN1.out.r.cell; have lr := HN1.out.r.lt
    go_upto_if 26 with fail
    obtain ⟨I2, hI2⟩ : ∃ I : Inst, (⟨lock, 0, 0, op, if rmod then mod % 4 else 0, if rmod then reg % 8 else 0, if rmod then rm % 8 else 0, if rmod then nearDisp (dispsOf (mod % 4) (rm % 8)) disp else 0, 0, 0⟩ : Inst) = I := ⟨_, rfl⟩
    have HI2 := Lib.hid (fun b : Bool => fun e : rmod = b => (e ▸ hI2.symm : I2 = ⟨lock, 0, 0, op, if b then mod % 4 else 0, if b then reg % 8 else 0, if b then rm % 8 else 0, if b then nearDisp (dispsOf (mod % 4) (rm % 8)) disp else 0, 0, 0⟩))
    clear hI2
    go_cut [] (fun wx => NearAt w wx ⟨lock, rep, seg, op, mod, reg, rm, disp, imm, sel⟩ I2 ⟨rn, ra, rb, rmod⟩ kr)
    case first =>
      cases rmod with
      | false =>
        have HI := Lib.hid (HI2.out false rfl)
        clear HI2
        as_aux_lemma => (go_wp2_with fail; go_meet; exact HN1.out.set 5 _ _ (by rw [HI.out]; rfl))
      | true =>
        have HI := HI2.out true rfl
        simp only [if_true] at HI
        clear HI2
        subst HI
        go_upto_region 8 with fail
        go_cut [] (fun wx => NearAt w wx ⟨lock, rep, seg, op, mod, reg, rm, disp, imm, sel⟩ ⟨lock, 0, 0, op, mod % 4, reg % 8, rm % 8, 0, 0, 0⟩ ⟨rn, ra, rb, true⟩ kr)
        case first =>
          have b3 := i64_and3 mod
          have b7 := i64_and7 rm
          have li2 : ¬ W1.heap.size ≤ w.heap.size + 1 := by omega
          have j1 := (HN1.out.set 4 (.int .i64 (mod % 4)) (⟨lock, 0, 0, op, mod % 4, reg % 8, 0, 0, 0, 0⟩ : Inst) rfl).set 6 (.int .i64 (rm % 8)) ⟨lock, 0, 0, op, mod % 4, reg % 8, rm % 8, 0, 0, 0⟩ rfl
          have j2 := (HN1.out.set 6 (.int .i64 (rm % 8)) (⟨lock, 0, 0, op, 0, reg % 8, rm % 8, 0, 0, 0⟩ : Inst) rfl).set 4 (.int .i64 (mod % 4)) ⟨lock, 0, 0, op, mod % 4, reg % 8, rm % 8, 0, 0, 0⟩ rfl
          have J1 := Lib.hid j1.drew
          have J2 := Lib.hid j2.drew
          clear j1 j2
          go_region
          all_goals
            go_wp2_with fail
            go_meet
            first | (with_reducible exact J1.out) | (with_reducible exact J2.out) | exact J1.out | exact J2.out
        case rest =>
          have HN2 := Lib.hid hcut
          clear cx ci fi li cr lr; clear hcut
          have cx := HN2.out.x.cell; have ci := HN2.out.i.cell; have fi := HN2.out.i.frozen; have li := HN2.out.i.lt; have cr := HN2.out.r.cell; have lr := HN2.out.r.lt
          go_wp2_with fail
          refine (disps_any5 _ _ _).mono ?_
          obtain ⟨dd, hdd⟩ : ∃ dd, dispsOf (mod % 4) (rm % 8) = dd := ⟨_, rfl⟩
          have hd3 := disps3 (mod % 4) (rm % 8)
          rw [hdd] at hd3 ⊢
          have HD := Lib.hid (show nearDisp (dispsOf (mod % 4) (rm % 8)) disp = nearDisp dd disp by rw [hdd])
          clear hdd
          rintro e w2 ⟨rfl, rfl⟩; dsimp only
          have k1 := K.out.disp
          rcases hd3 with rfl | rfl | rfl
          · as_aux_lemma => (go_wp2_with fail; go_meet; rw [HD.out]; exact HN2.out)
          · have hx : (disp.tmod 256) = disp % 256 := Int.tmod_eq_emod_of_nonneg k1.1
            as_aux_lemma => (go_wp2_with (go_at_call 45; refine (sign_any1 _ _ (by omega) (by omega)).mono ?_; rintro e w' ⟨rfl, rfl⟩); go_meet; rw [HD.out]; first | exact HN2.out.set 7 _ _ rfl | trace_state)
          · as_aux_lemma => (go_wp2_with fail; go_meet; rw [HD.out]; exact HN2.out.set 7 _ _ rfl)
    case rest =>
      have HN3 := Lib.hid hcut
      clear cx ci fi li cr lr; clear hcut HN1
      obtain ⟨k, hk⟩ : ∃ k, tailOf ⟨rn, ra, rb, rmod⟩ = k := ⟨_, rfl⟩
      obtain ⟨nr, hnr⟩ : ∃ n, repsOf rn = n := ⟨_, rfl⟩
      obtain ⟨A, B2, C, D, hI, hJ⟩ : ∃ A B C D : Int, I2 = ⟨lock, 0, 0, op, A, B, C, D, 0, 0⟩ ∧ nearR ⟨lock, rep, seg, op, mod, reg, rm, disp, imm, sel⟩ ⟨rn, ra, rb, rmod⟩ = ⟨lock, nearRep rep nr, nearSeg seg, op, A, B, C, D, nearImm k rn imm, nearSel k sel⟩ := ⟨_, _, _, _, HI2.out rmod rfl, by rw [← hk, ← hnr]; rfl⟩
      subst hI
      have HK := Lib.hid (show (if immOf ra = 0 then rb else ra) = k from hk)
      have HJ := Lib.hid hJ
      clear hk hJ HI2
      have HREP := Lib.hid (show ∀ w, Calls Tryz.prog 47 #[.int .i64 rn] w fun e w' => e = .returned (.int .i64 nr) ∧ w = w' by
        intro w
        have := repeats_any4 rn.toNat (by have := HF.out.n1; dsimp only at this; omega) w
        rwa [Int.toNat_of_nonneg (by have := HF.out.n0; dsimp only at this; omega), hnr] at this)
      have HNR := Lib.hid (hnr ▸ reps3 rn : nr = 0 ∨ nr = 1 ∨ nr = 2)
      clear hnr
      have cx := HN3.out.x.cell; have ci := HN3.out.i.cell; have fi := HN3.out.i.frozen; have li := HN3.out.i.lt; have cr := HN3.out.r.cell; have lr := HN3.out.r.lt
      go_wp2_with fail
      refine (bytes_any4 _ _).mono ?_
      generalize immOf ra = ia at HK ⊢
      rintro e w3' ⟨rfl, rfl⟩; dsimp only
      go_upto_if 58 with fail
      go_cut [5] (fun s5 wx => wc = wx ∧ s5 = .int .i64 k)
      case first =>
        by_cases hz : ia = 0
        · have kz : (ia == 0) = true := by simp [hz]
          have HZ := Lib.hid (show rb = k by have := HK.out; rwa [if_pos hz] at this)
          clear hz HK
          as_aux_lemma => (go_wp2_with fail; go_meet; rw [HZ.out]; exact ⟨rfl, rfl⟩)
        · have kz : (ia == 0) = false := by simp [hz]
          have HZ := Lib.hid (show ra = k by have := HK.out; rwa [if_neg hz] at this)
          clear hz HK
          as_aux_lemma => (go_wp2_with fail; go_meet; rw [HZ.out]; exact ⟨rfl, rfl⟩)
      case rest =>
      obtain ⟨rfl, rfl⟩ := hcut
      clear HK
      go_upto_block 1 with fail
      obtain ⟨NI, hNI⟩ : ∃ n, nearImm k rn imm = n := ⟨_, rfl⟩
      obtain ⟨NS, hNS⟩ : ∃ n, nearSel k sel = n := ⟨_, rfl⟩
      rw [hNI, hNS] at HJ
      have HNI0 := Lib.hid hNI
      have HNS0 := Lib.hid hNS
      clear hNI hNS
      go_cut [] (fun wx => NearAt w wx ⟨lock, rep, seg, op, mod, reg, rm, disp, imm, sel⟩ ⟨lock, 0, 0, op, A, B2, C, D, NI, NS⟩ ⟨rn, ra, rb, rmod⟩ kr)
      case first =>
        have k5 := K.out.imm
        have k6' := K.out.sel
        dsimp only at k5 k6'
        have hx : (imm.tmod 256) = imm % 256 := Int.tmod_eq_emod_of_nonneg k5.1
        have hNI := HNI0.out
        have hNS := HNS0.out
        clear HNI0 HNS0
        by_cases k6 : k = 6
        · subst k6
          have hs0 : NS = 0 := by rw [← hNS]; rfl
          subst hs0
          have HNI := Lib.hid (show (if rn = 70 ∨ rn = 71 then 10 else imm % 256) = NI from hNI)
          clear hNI hNS
          by_cases ha : rn = 70
          · have q1 : (rn == 70) = true := by simp [ha]
            have HZ := Lib.hid (show 10 = NI by have := HNI.out; rwa [if_pos (Or.inl ha)] at this)
            clear ha HNI
            as_aux_lemma => (go_wp2_with fail; go_meet; rw [← HZ.out]; exact (HN3.out.set 8 (.int .u16 (imm % 256)) ⟨lock, 0, 0, op, A, B2, C, D, imm % 256, 0⟩ rfl).set 8 _ _ rfl)
          · have q1 : (rn == 70) = false := by simp [ha]
            by_cases hb : rn = 71
            · have q2 : (rn == 71) = true := by simp [hb]
              have HZ := Lib.hid (show 10 = NI by have := HNI.out; rwa [if_pos (Or.inr hb)] at this)
              clear ha hb HNI
              as_aux_lemma => (go_wp2_with fail; go_meet; rw [← HZ.out]; exact (HN3.out.set 8 (.int .u16 (imm % 256)) ⟨lock, 0, 0, op, A, B2, C, D, imm % 256, 0⟩ rfl).set 8 _ _ rfl)
            · have q2 : (rn == 71) = false := by simp [hb]
              have HZ := Lib.hid (show imm % 256 = NI by have := HNI.out; rwa [if_neg (by rintro (e | e); exact ha e; exact hb e)] at this)
              clear ha hb HNI
              as_aux_lemma => (go_wp2_with fail; go_meet; rw [← HZ.out]; exact HN3.out.set 8 _ _ rfl)
        · by_cases k8 : k = 8 ∨ k = 9
          · have hs0 : NS = 0 := by rw [← hNS]; unfold nearSel; rw [if_neg (by omega)]
            have HZ := Lib.hid (show signW (imm % 256) = NI by rw [← hNI]; unfold nearImm; rw [if_neg k6, if_pos k8])
            subst hs0
            clear hNI hNS k6
            rcases k8 with rfl | rfl
            · as_aux_lemma => (go_wp2_with (go_at_call 45; refine (sign_any1 _ _ (by omega) (by omega)).mono ?_; rintro e w' ⟨rfl, rfl⟩); go_meet; rw [← HZ.out]; exact HN3.out.set 8 _ _ rfl)
            · as_aux_lemma => (go_wp2_with (go_at_call 45; refine (sign_any1 _ _ (by omega) (by omega)).mono ?_; rintro e w' ⟨rfl, rfl⟩); go_meet; rw [← HZ.out]; exact HN3.out.set 8 _ _ rfl)
          · by_cases k7 : k = 7 ∨ k = 10 ∨ k = 12 ∨ k = 13
            · have hs0 : NS = 0 := by rw [← hNS]; unfold nearSel; rw [if_neg (by omega)]
              have hi0 : NI = imm := by rw [← hNI]; unfold nearImm; rw [if_neg k6, if_neg k8, if_pos k7]
              subst hs0
              subst hi0
              clear hNI hNS k6 k8
              rcases k7 with rfl | rfl | rfl | rfl
              · as_aux_lemma => (go_wp2_with fail; go_meet; exact HN3.out.set 8 _ _ rfl)
              · as_aux_lemma => (go_wp2_with fail; go_meet; exact HN3.out.set 8 _ _ rfl)
              · as_aux_lemma => (go_wp2_with fail; go_meet; exact HN3.out.set 8 _ _ rfl)
              · as_aux_lemma => (go_wp2_with fail; go_meet; exact HN3.out.set 8 _ _ rfl)
            · by_cases k11 : k = 11
              · subst k11
                have hs0 : NS = sel := by rw [← hNS]; rfl
                have hi0 : NI = imm := by rw [← hNI]; rfl
                subst hs0
                subst hi0
                have j1 := (HN3.out.set 8 (.int .u16 NI) (⟨lock, 0, 0, op, A, B2, C, D, NI, 0⟩ : Inst) rfl).set 9 (.int .u16 NS) ⟨lock, 0, 0, op, A, B2, C, D, NI, NS⟩ rfl
                have j2 := (HN3.out.set 9 (.int .u16 NS) (⟨lock, 0, 0, op, A, B2, C, D, 0, NS⟩ : Inst) rfl).set 8 (.int .u16 NI) ⟨lock, 0, 0, op, A, B2, C, D, NI, NS⟩ rfl
                have J1 := Lib.hid j1.drew
                have J2 := Lib.hid j2.drew
                clear j1 j2 hNI hNS
                have li2 : ¬ wc.heap.size ≤ w.heap.size + 1 := by omega
                go_wp2_with fail
                go_region
                all_goals
                  go_wp2_with fail
                  go_meet
                  first | (with_reducible exact J1.out) | (with_reducible exact J2.out) | exact J1.out | exact J2.out
              · have hs0 : NS = 0 := by rw [← hNS]; unfold nearSel; rw [if_neg k11]
                have hi0 : NI = 0 := by rw [← hNI]; unfold nearImm; rw [if_neg k6, if_neg k8, if_neg k7, if_neg k11]
                subst hs0
                subst hi0
                have q1 : (k == 6) = false := by simp; omega
                have q2 : (k == 8) = false := by simp; omega
                have q3 : (k == 9) = false := by simp; omega
                have q4 : (k == 7) = false := by simp; omega
                have q5 : (k == 10) = false := by simp; omega
                have q6 : (k == 12) = false := by simp; omega
                have q7 : (k == 13) = false := by simp; omega
                have q8 : (k == 11) = false := by simp; omega
                clear k6 k8 k7 k11 hNI hNS
                as_aux_lemma => (go_wp2_with fail; go_meet; exact HN3.out)
      case rest =>
      have HN4 := Lib.hid hcut
      clear cx ci fi li cr lr; clear hcut HN3 HNI0 HNS0
      have cx := HN4.out.x.cell; have ci := HN4.out.i.cell; have fi := HN4.out.i.frozen; have li := HN4.out.i.lt; have cr := HN4.out.r.cell; have lr := HN4.out.r.lt
      go_wp2_with fail
      refine (HREP.out _).mono ?_
      rintro e w4' ⟨rfl, rfl⟩; dsimp only
      clear HREP
      have b3 := i64_and3 rep
      have b1 := i64_and1 rep
      have b7 := i64_and7 seg
      go_upto_region 33 with fail
      obtain ⟨bD, hbD⟩ : ∃ b, decide (0 < nr ∧ 0 < rep % 4) = b := ⟨_, rfl⟩
      have HBD := Lib.hid hbD
      clear hbD
      go_cut [112] (fun s112 wx => wc = wx ∧ s112 = .bool bD)
      case first =>
        by_cases q1 : 0 < nr
        · by_cases q2 : 0 < rep % 4
          · have HZ := Lib.hid (show true = bD by rw [← HBD.out]; exact (decide_eq_true ⟨q1, q2⟩).symm)
            as_aux_lemma => (go_wp2_with fail; go_meet; rw [← HZ.out]; exact ⟨rfl, rfl⟩)
          · have HZ := Lib.hid (show false = bD by rw [← HBD.out]; exact (decide_eq_false (fun e => q2 e.2)).symm)
            as_aux_lemma => (go_wp2_with fail; go_meet; rw [← HZ.out]; exact ⟨rfl, rfl⟩)
        · have HZ := Lib.hid (show false = bD by rw [← HBD.out]; exact (decide_eq_false (fun e => q1 e.1)).symm)
          as_aux_lemma => (go_wp2_with fail; go_meet; rw [← HZ.out]; exact ⟨rfl, rfl⟩)
      case rest =>
      obtain ⟨rfl, rfl⟩ := hcut
      go_upto_if 112 with fail
      obtain ⟨NR, hNR⟩ : ∃ n, nearRep rep nr = n := ⟨_, rfl⟩
      rw [hNR] at HJ
      have HNR0 := Lib.hid hNR
      clear hNR
      go_cut [] (fun wx => NearAt w wx ⟨lock, rep, seg, op, mod, reg, rm, disp, imm, sel⟩ ⟨lock, NR, 0, op, A, B2, C, D, NI, NS⟩ ⟨rn, ra, rb, rmod⟩ kr)
      case first =>
        cases bD with
        | false =>
          have HZ := Lib.hid (show 0 = NR by rw [← HNR0.out]; unfold nearRep; rw [if_neg (of_decide_eq_false HBD.out)])
          clear HNR0 HBD
          as_aux_lemma => (go_wp2_with fail; go_meet; rw [← HZ.out]; exact HN4.out)
        | true =>
          have hN : (if nr = 2 ∧ rep % 2 = 1 then 1 else 2) = NR := by rw [← HNR0.out]; unfold nearRep; rw [if_pos (of_decide_eq_true HBD.out)]
          clear HNR0 HBD
          by_cases q1 : nr = 2
          · by_cases q2 : rep % 2 = 1
            · have HZ := Lib.hid (show 1 = NR by rwa [if_pos ⟨q1, q2⟩] at hN)
              have p1 : (nr == 2) = true := by simp [q1]
              have p2 : (rep % 2 == 1) = true := by simp [q2]
              clear q1 q2 hN
              as_aux_lemma => (go_wp2_with fail; go_meet; rw [← HZ.out]; exact (HN4.out.set 1 (.int .i64 2) ⟨lock, 2, 0, op, A, B2, C, D, NI, NS⟩ rfl).set 1 _ _ rfl)
            · have HZ := Lib.hid (show 2 = NR by rwa [if_neg (fun e => q2 e.2)] at hN)
              have p1 : (nr == 2) = true := by simp [q1]
              have p2 : (rep % 2 == 1) = false := by simp [q2]
              clear q1 q2 hN
              as_aux_lemma => (go_wp2_with fail; go_meet; rw [← HZ.out]; exact (HN4.out.set 1 (.int .i64 2) ⟨lock, 2, 0, op, A, B2, C, D, NI, NS⟩ rfl))
          · have HZ := Lib.hid (show 2 = NR by rwa [if_neg (fun e => q1 e.1)] at hN)
            have p1 : (nr == 2) = false := by simp [q1]
            clear q1 hN
            as_aux_lemma => (go_wp2_with fail; go_meet; rw [← HZ.out]; exact (HN4.out.set 1 (.int .i64 2) ⟨lock, 2, 0, op, A, B2, C, D, NI, NS⟩ rfl))
      case rest =>
      have HN5 := Lib.hid hcut
      clear cx ci fi li cr lr; clear hcut HN4 HNR0
      have cx := HN5.out.x.cell; have ci := HN5.out.i.cell; have fi := HN5.out.i.frozen; have li := HN5.out.i.lt; have cr := HN5.out.r.cell; have lr := HN5.out.r.lt
      go_upto_if 126 with fail
      obtain ⟨SG, hSG⟩ : ∃ n, nearSeg seg = n := ⟨_, rfl⟩
      rw [hSG] at HJ
      have HSG := Lib.hid hSG
      clear hSG
      go_cut [] (fun wx => NearAt w wx ⟨lock, rep, seg, op, mod, reg, rm, disp, imm, sel⟩ ⟨lock, NR, SG, op, A, B2, C, D, NI, NS⟩ ⟨rn, ra, rb, rmod⟩ kr)
      case first =>
        by_cases q1 : seg % 8 ≤ 4
        · have HZ := Lib.hid (show seg % 8 = SG by rw [← HSG.out]; unfold nearSeg; rw [if_pos q1])
          clear HSG
          as_aux_lemma => (go_wp2_with fail; go_meet; rw [← HZ.out]; exact HN5.out.set 2 _ _ rfl)
        · have HZ := Lib.hid (show 0 = SG by rw [← HSG.out]; unfold nearSeg; rw [if_neg q1])
          clear HSG
          as_aux_lemma => (go_wp2_with fail; go_meet; rw [← HZ.out]; exact HN5.out)
      case rest =>
      have HN6 := Lib.hid hcut
      clear cx ci fi li cr lr; clear hcut HN5 HSG b3 b1 b7
      have cx := HN6.out.x.cell; have ci := HN6.out.i.cell; have fi := HN6.out.i.frozen; have li := HN6.out.i.lt; have cr := HN6.out.r.cell; have lr := HN6.out.r.lt
      have hny := nearly_near ⟨lock, rep, seg, op, mod, reg, rm, disp, imm, sel⟩ K.out ⟨rn, ra, rb, rmod⟩
      have hop : (nearR ⟨lock, rep, seg, op, mod, reg, rm, disp, imm, sel⟩ ⟨rn, ra, rb, rmod⟩).op = op := rfl
      have hrw2 : instRow (nearR ⟨lock, rep, seg, op, mod, reg, rm, disp, imm, sel⟩ ⟨rn, ra, rb, rmod⟩).op (nearR ⟨lock, rep, seg, op, mod, reg, rm, disp, imm, sel⟩ ⟨rn, ra, rb, rmod⟩).reg = some ⟨rn, ra, rb, rmod⟩ := by
        show instRow op (if rmod then reg % 8 else 0) = some ⟨rn, ra, rb, rmod⟩
        cases hm : rmod with
        | true => rw [if_pos rfl, ← hm]; exact HRW.out
        | false => rw [if_neg (by decide), ← hm]; exact instRow_alone K.out.op.1 K.out.op.2 (by omega) (by omega) HRW.out hm
      have hmay := mayB_nearly _ _ hny hrw2 HF.out.a20
      have hcall := fun w => may_any5 _ _ hny hrw2 w
      have hnear : nearI ⟨lock, rep, seg, op, mod, reg, rm, disp, imm, sel⟩ = if (!noMem (nearR ⟨lock, rep, seg, op, mod, reg, rm, disp, imm, sel⟩ ⟨rn, ra, rb, rmod⟩).mod ⟨rn, ra, rb, rmod⟩) = true then nearR ⟨lock, rep, seg, op, mod, reg, rm, disp, imm, sel⟩ ⟨rn, ra, rb, rmod⟩ else nopI := by
        unfold nearI
        rw [show instRow op (reg % 8) = some ⟨rn, ra, rb, rmod⟩ from HRW.out]
        dsimp only
        rw [hmay]
      rw [HJ.out] at hcall hnear
      dsimp only at hcall hnear
      have HCALL := Lib.hid hcall
      have HNEAR := Lib.hid hnear
      clear hny hop hrw2 hmay hcall hnear
      go_wp2_with fail
      refine (HCALL.out _).mono ?_
      generalize noMem A ⟨rn, ra, rb, rmod⟩ = nb at HNEAR ⊢
      rintro e w5 ⟨rfl, hb⟩; dsimp only
      have HN7 := Lib.hid (HN6.out.on hb)
      clear cx ci fi li cr lr; clear hb HCALL
      have cx := HN7.out.x.cell; have ci := HN7.out.i.cell; have fi := HN7.out.i.frozen; have li := HN7.out.i.lt; have cr := HN7.out.r.cell; have lr := HN7.out.r.lt
      cases nb with
      | true =>
        have HE := Lib.hid (show nearI ⟨lock, rep, seg, op, mod, reg, rm, disp, imm, sel⟩ = nopI from HNEAR.out)
        clear HNEAR
        go_wp2_with fail
        refine bodyPost_ret (v := nopI.val) (results_row rfl _ _ _ _ _ _ rfl (row_inst nopI HN7.out.i) Tryz.underlying30 rfl (by kernel_rfl)) rfl ⟨by rw [HE.out], ?_⟩
        repeat (with_reducible refine Below.setCell ?_ (Nat.le_succ _) _)
        exact HN7.out.b
      | false =>
        have HE := Lib.hid (show nearI ⟨lock, rep, seg, op, mod, reg, rm, disp, imm, sel⟩ = ⟨lock, NR, SG, op, A, B2, C, D, NI, NS⟩ from HNEAR.out)
        clear HNEAR
        go_wp2_with fail
        refine bodyPost_ret (v := Inst.val ⟨lock, NR, SG, op, A, B2, C, D, NI, NS⟩) (results_row rfl _ _ _ _ _ _ rfl (row_inst ⟨lock, NR, SG, op, A, B2, C, D, NI, NS⟩ HN7.out.i) Tryz.underlying30 rfl (by kernel_rfl)) rfl ⟨by rw [HE.out], ?_⟩
        repeat (with_reducible refine Below.setCell ?_ (Nat.le_succ _) _)
        exact HN7.out.b
end Go.Proofs.YtcglkefaopgjeaaGreatDoor

/- The law CpuFetch. -/
namespace Go.Proofs.YtcglkefaopgjeaaGreatDoor
set_option linter.unusedSimpArgs false
set_option linter.unusedVariables false
open Go.RowKit

/-- An instruction equals itself. -/
theorem eq_I (i : Inst) (w : World) : (Op.equalIn 10000 30 i.val i.val).run Tryz.prog w = .ok true w := by
  have hS : Tryz.prog.underlying 30 = some (.struct (Tryz.prog.fieldsOf 30)) := by kernel_rfl
  rw [show (10000 : Nat) = 9999 + 1 from rfl, run_equalIn_agg w 9999 30 _ _ hS (by kernel_rfl)]
  simp only [Program.fieldsOf, Tryz.underlying30]
  go_simp
/-- What Put comes to. -/
def PutSays : Prop := ∀ (i : Inst), i.good → ∀ w : World, Calls Tryz.prog 15 #[i.val] w fun e w' => ∃ g cap : Nat, e = .returned (.slice (some ⟨g, 0, none⟩) (putL i).length cap) ∧ Below w.heap.size w w' ∧ w.heap.size ≤ g ∧ g < w'.heap.size ∧ ∀ k, k < (putL i).length → w'.cell? ⟨g, k, none⟩ = some (.int .u8 ((putL i).getD k 0))
theorem putL_wf (i : Inst) (hi : i.good) (k : Nat) : 0 ≤ (putL i).getD k 0 ∧ (putL i).getD k 0 ≤ 255 := by
  rw [List.getD_eq_getElem?_getD]
  rcases Nat.lt_or_ge k (putL i).length with h | h
  · rw [List.getElem?_eq_getElem h]
    exact putL_byte i hi _ (List.getElem_mem h)
  · rw [List.getElem?_eq_none h]
    exact ⟨by decide, by decide⟩

set_option maxRecDepth 100000 in
set_option maxHeartbeats 6400000 in
theorem cpuFetch_any (KP : PutSays) (r : Regs) (hr : r.wf) (x : Inst) (hx : x.kinds) (w : World) : Calls Tryz.prog 3 #[r.val, x.val] w fun e w' => e = .returned (.bool true) ∧ Below w.heap.size w w' := by
  have KN := Lib.hid (fun w => near_any5 x hx w)
  have hg := near_good x hx
  generalize nearI x = j at KN hg
  have HG := Lib.hid hg
  have KPJ := Lib.hid (KP j hg)
  have HW := Lib.hid (putL_wf j hg)
  have hlen := putL_le j
  have hpos := putL_pos j
  obtain ⟨L, hL⟩ : ∃ l, putL j = l := ⟨_, rfl⟩
  have HT := Lib.hid (fun (bs : Nat → Int) (h : Reads bs 0 L) => (hL ▸ take_put bs j hg.wf hg.may hg.rep.1 hg.rep.2 (hL ▸ h) : takeF bs = some (j, L.length)))
  rw [hL] at KPJ HW hlen hpos
  clear hg hL KP
  have hrow0 := (Row.new w r.cells 28).alloc (.cells x.cells 30)
  have hb0 := ((Below.refl w.heap.size w).alloc (Nat.le_refl _) (.cells r.cells 28)).alloc (by simp) (.cells x.cells 30)
  have HB0 := Lib.hid hb0
  have HR0 := Lib.hid hrow0
  have HX0 := Lib.hid (Row.new' (w := w.alloc (.cells r.cells 28)) (n := w.heap.size + 1) (cs := x.cells) (t := 30) (by simp))
  clear hb0 hrow0
  have xx := HX0.out.cell
  go_enter Tryz.func3, Tryz.ntmps3
  go_wp2_with fail
  refine (KN.out _).mono ?_
  rintro e w1 ⟨rfl, hb⟩; dsimp only
  have HB1 := Lib.hid ((HB0.out.trans (hb.mono HB0.out.size)).alloc (Nat.le_trans HB0.out.size hb.size) (.cells j.cells 30))
  have HR1 := Lib.hid ((Below.row hb HR0.out HR0.out.lt).alloc (.cells j.cells 30))
  have HJ1 := Lib.hid (Row.new w1 j.cells 30)
  clear hb xx
  go_upto_region 2 with fail
  generalize w1.alloc (.cells j.cells 30) = W1 at HB1 HR1 HJ1 ⊢
  have xj := HJ1.out.cell
  go_wp2_with fail
  refine (KPJ.out _).mono ?_
  rintro e w2 ⟨g, cap, rfl, hb, hg0, hg1, hcells⟩; dsimp only
  have HB2 := Lib.hid (HB1.out.trans (hb.mono HB1.out.size))
  have HR2 := Lib.hid (Below.row hb HR1.out HR1.out.lt)
  have HJ2 := Lib.hid (Below.row hb HJ1.out HJ1.out.lt)
  have KB := Lib.hid (begin_any w2 r hr g cap L hg1 hcells HW.out (by omega))
  clear hb xj hg0 hg1 hcells
  obtain ⟨xc, xf, xr, xs, xl⟩ := HR2.out.sees
  go_wp2_with fail
  refine KB.out.mono ?_
  rintro e w3 ⟨C, lv, rfl, ho, hb2, hn⟩; dsimp only
  have HO1 := Lib.hid ho
  have HB3 := Lib.hid (HB2.out.trans (hb2.mono HB2.out.size))
  have HR3 := Lib.hid (Below.row hb2 HR2.out HR2.out.lt)
  have HJ3 := Lib.hid (Below.row hb2 HJ2.out HJ2.out.lt)
  clear ho hb2 hn xc xf xr xs xl KB
  have hcode : Reads (begun r L).code 0 L := fun k hk => by
    rw [Nat.zero_add]
    exact code_begun r hr.ip.1 hr.ip.2 L k (by omega)
  have KF := Lib.hid (fetch_ok w3 C lv (begun r L) HO1.out j L.length (HT.out _ hcode) (plainB_sane (sane_begun r L) _ _))
  clear hcode
  go_wp2_with fail
  refine KF.out.mono ?_
  rintro e w4 ⟨rfl, hb⟩; dsimp only
  have HO4 := Lib.hid (HO1.out.below hb)
  have HB4 := Lib.hid (HB3.out.trans (hb.mono HB3.out.size))
  have HR4 := Lib.hid (Below.row hb HR3.out HR3.out.lt)
  have HJ4 := Lib.hid (Below.row hb HJ3.out HJ3.out.lt)
  clear hb KF
  go_upto_region 5 with fail
  have HO5 := Lib.hid (((HO4.out.alloc (.cells j.cells 30)).alloc (.cells #[.int .u16 j.imm, .bool false] 24)).alloc (.cells #[.int .u16 j.sel, .bool false] 24))
  have HB5 := Lib.hid (((HB4.out.alloc HB4.out.size (.cells j.cells 30)).alloc (by rw [World.size_alloc]; exact Nat.le_succ_of_le HB4.out.size) (.cells #[.int .u16 j.imm, .bool false] 24)).alloc (by rw [World.size_alloc, World.size_alloc]; exact Nat.le_succ_of_le (Nat.le_succ_of_le HB4.out.size)) (.cells #[.int .u16 j.sel, .bool false] 24))
  have HR5 := Lib.hid (((HR4.out.alloc (.cells j.cells 30)).alloc (.cells #[.int .u16 j.imm, .bool false] 24)).alloc (.cells #[.int .u16 j.sel, .bool false] 24))
  have HJ5 := Lib.hid (((HJ4.out.alloc (.cells j.cells 30)).alloc (.cells #[.int .u16 j.imm, .bool false] 24)).alloc (.cells #[.int .u16 j.sel, .bool false] 24))
  have HY5 := Lib.hid (((Row.new w4 j.cells 30).alloc (.cells #[.int .u16 j.imm, .bool false] 24)).alloc (.cells #[.int .u16 j.sel, .bool false] 24))
  have HT5 := Lib.hid ((Row.new' (w := w4.alloc (.cells j.cells 30)) (n := w4.heap.size + 1) (cs := #[.int .u16 j.imm, .bool false]) (t := 24) (by simp)).alloc (.cells #[.int .u16 j.sel, .bool false] 24))
  have HS5 := Lib.hid (Row.new' (w := (w4.alloc (.cells j.cells 30)).alloc (.cells #[.int .u16 j.imm, .bool false] 24)) (n := w4.heap.size + 1 + 1) (cs := #[.int .u16 j.sel, .bool false]) (t := 24) (by simp))
  generalize ((w4.alloc (.cells j.cells 30)).alloc (.cells #[.int .u16 j.imm, .bool false] 24)).alloc (.cells #[.int .u16 j.sel, .bool false] 24) = w5 at HO5 HB5 HR5 HJ5 HY5 HT5 HS5 ⊢
  have g1 : w5.cell? ⟨C.b, 24, none⟩ = some (.int .u16 r.ip) := (HO5.out.row.cell 24).trans (mcell24 C _)
  have g2 : w5.cell? ⟨w.heap.size, 24, none⟩ = some (.int .u16 r.ip) := HR5.out.cell 24
  refine range_of (w5) ?_; intro S inst ω hin hout
  have r1 := range_cell hin g1
  have r2 := range_cell hin g2
  have r3 := range_row hin HJ5.out
  have r4 := range_row hin HY5.out
  have r5 := range_row hin HT5.out
  have r6 := range_row hin HS5.out
  have k1 := range_call hin hout awake_any
  have k2 := range_calls hin hout (fun w hw => (state_any w C lv _ (HO5.out.below hw)).mono (by rintro e w' ⟨rfl, rfl⟩; exact ⟨rfl, Below.refl _ _⟩))
  rw [show (begun r L).state = 0 from rfl] at k2
  have eqi := eq_I j
  have eqv := eq_V 9998
  clear g1 g2
  refine wp_region_range_lit ω (by kernel_rfl) (by kernel_rfl) (hout _ (Below.refl _ _).drew) ?_
  repeat (go_big_quiet_step (first | (with_reducible exact k1 _) | (with_reducible exact k2 _)))
  refine wpQuiet_nil ?_; intro _ hw'; obtain ⟨nq, rfl⟩ := hw'
  go_wp2_with fail
  go_ret
  exact ⟨rfl, HB5.out.trans ((hin nq).mono HB5.out.size)⟩
end Go.Proofs.YtcglkefaopgjeaaGreatDoor
