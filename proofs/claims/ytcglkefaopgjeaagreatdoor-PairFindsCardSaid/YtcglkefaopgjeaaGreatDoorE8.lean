/- flow.near by a call; flow.back. -/
import Derived.Test.YtcglkefaopgjeaaGreatDoorE7
namespace Go.Proofs.YtcglkefaopgjeaaGreatDoor
set_option linter.unusedSimpArgs false
set_option linter.unusedVariables false
open Go.RowKit

theorem popM_r (m : Mach) : m.popM.r = m.r.put 4 ⟨IntKind.u16.wrap (m.r.g4.v + 2), false⟩ := rfl
theorem push_r (m : Mach) (v : V) : (m.push v).r = m.r.put 4 ⟨IntKind.u16.wrap (m.r.g4.v - 2), false⟩ := rfl
theorem far_r (m : Mach) (off : Int) (seg : V) : (m.far off seg).r = { m.r with ip := off }.putSeg 1 seg := rfl

def Mach.callN (m : Mach) (n : Int) : Mach := (m.push ⟨m.r.ip, false⟩).setR { (m.push ⟨m.r.ip, false⟩).r with ip := IntKind.u16.wrap (m.r.ip + n) }

set_option maxRecDepth 100000 in
set_option maxHeartbeats 1600000 in
theorem near_call (w : World) (C : Phys) (lv : Value) (m : Mach) (h : Own w C lv m) (i : Inst) (r : IRow) (n : Int) (ha : (r.a == 2) = false) (hn : (r.name == 39) = true) :
    Calls Tryz.prog 118 #[.pointer (some ⟨C.b, 0, none⟩), i.val, r.val, .int .u16 n] w fun e w' => e = .returned (.tuple #[]) ∧ After C lv w (m.callN n) w' := by
  have HIP := Lib.hid (show V.wf ⟨m.r.ip, false⟩ from h.wf.r.ip)
  have HO0 := Lib.hid h; have HA0 := Lib.hid (Acc.refl C lv w); have sc := HO0.out.sees.c; have sf := HO0.out.sees.f; have sr := HO0.out.sees.r; have ss := HO0.out.sees.s; have sl := HO0.out.sees.l; clear h
  go_enter Tryz.func118, Tryz.ntmps118
  go_wp2_with fail
  refine (push_any _ _ _ _ ((HO0.out.alloc _).alloc _) ⟨m.r.ip, false⟩ HIP.out).mono ?_
  rintro e w1 ⟨rfl, lv1, h1, f1, k1⟩; dsimp only
  have HS := Lib.hid (show m.callN n = (m.push ⟨m.r.ip, false⟩).setR { (m.push ⟨m.r.ip, false⟩).r with ip := IntKind.u16.wrap (m.r.ip + n) } from rfl)
  have HA1 := Lib.hid (((HA0.out.alloc _).alloc _).trans ⟨f1, k1⟩)
  generalize m.push ⟨m.r.ip, false⟩ = m1 at h1 HS
  have HO1 := Lib.hid h1
  clear sc sf sr ss sl; clear h1 f1 k1
  have sc := HO1.out.sees.c; have sf := HO1.out.sees.f; have sr := HO1.out.sees.r; have ss := HO1.out.sees.s; have sl := HO1.out.sees.l
  go_wp2_with fail
  go_end0
  rw [HS.out]
  exact ⟨rfl, After.mk (HO1.out.setIP _ (wrap16_lo _) (wrap16_hi _)) (HA1.out.setB 24 _)⟩

def Mach.addSP (m : Mach) (n : Int) : Mach := (m.plain m.r.g4).setR (m.r.put 4 ⟨IntKind.u16.wrap (m.r.g4.v + n), false⟩)
def Mach.back (m : Mach) (fa : Bool) (n : Int) : Mach :=
  let m1 := m.popM.plain m.popV
  (if fa then m1.popM.far m.popV.v m1.popV else m1.setR { m1.r with ip := m.popV.v }).addSP n

theorem mem_wf {w : World} {C : Phys} {lv : Value} {m : Mach} (h : Own w C lv m) (x y : Nat) : (mwordV m.mem m.tag x y).wf := by
  have h1 := h.mem.wf x
  have h2 := h.mem.wf y
  constructor
  · show 0 ≤ m.mem x + 256 * m.mem y; omega
  · show m.mem x + 256 * m.mem y ≤ 65535; omega
theorem popV_wf {w : World} {C : Phys} {lv : Value} {m : Mach} (h : Own w C lv m) : m.popV.wf := by
  have e : (m.plain m.r.g4).mem = m.mem ∧ (m.plain m.r.g4).tag = m.tag := by
    unfold Mach.plain Mach.stuck
    split
    · split <;> exact ⟨rfl, rfl⟩
    · exact ⟨rfl, rfl⟩
  unfold Mach.popV Mach.wordV
  rw [e.1, e.2]
  exact mem_wf h _ _

set_option maxRecDepth 100000 in
set_option maxHeartbeats 1600000 in
theorem back_any (w : World) (C : Phys) (lv : Value) (m : Mach) (h : Own w C lv m) (r : IRow) (n : Int) (fa : Bool) (hf : (r.name == 57) = fa) :
    Calls Tryz.prog 122 #[.pointer (some ⟨C.b, 0, none⟩), r.val, .int .u16 n] w fun e w' => e = .returned (.tuple #[]) ∧ After C lv w (m.back fa n) w' := by
  have HX0 := Lib.hid (Box.new h #[.int .i64 r.name, .int .i64 r.a, .int .i64 r.b, .bool r.mod] 47)
  have HO0 := Lib.hid h; have HA0 := Lib.hid (Acc.refl C lv w); have sc := HO0.out.sees.c; have sf := HO0.out.sees.f; have sr := HO0.out.sees.r; have ss := HO0.out.sees.s; have sl := HO0.out.sees.l; clear h
  go_enter Tryz.func122, Tryz.ntmps122
  go_wp2_with fail
  refine (pop_any _ _ _ _ (HO0.out.alloc _)).mono ?_
  rintro e w1 ⟨rfl, lv1, h1, f1, k1⟩; dsimp only
  have HV1 := Lib.hid (popV_wf HO0.out)
  have HS := Lib.hid (show m.back fa n = (let m1 := m.popM.plain m.popV; (if fa then m1.popM.far m.popV.v m1.popV else m1.setR { m1.r with ip := m.popV.v }).addSP n) from rfl)
  have HA1 := Lib.hid ((HA0.out.alloc _).trans ⟨f1, k1⟩)
  have HX1 := Lib.hid (HX0.out.step f1 k1)
  generalize m.popM = ma at h1 HS
  generalize m.popV = off at HS HV1
  have HO1 := Lib.hid h1
  clear sc sf sr ss sl; clear h1 f1 k1
  go_wp2_with fail
  refine (plain_any _ _ _ _ HO1.out off).mono ?_
  rintro e w2 ⟨rfl, lv2, h2, f2, k2⟩; dsimp only
  have HA2 := Lib.hid (HA1.out.trans ⟨f2, k2⟩)
  have HX2 := Lib.hid (HX1.out.step f2 k2)
  generalize ma.plain off = m1 at h2 HS
  have HO2 := Lib.hid h2
  clear h2 f2 k2
  have xc := HX2.out.row.cell
  have sc := HO2.out.sees.c; have sf := HO2.out.sees.f; have sr := HO2.out.sees.r; have ss := HO2.out.sees.s; have sl := HO2.out.sees.l
  cases fa with
  | false =>
    have HT := Lib.hid (show m.back false n = (m1.setR { m1.r with ip := off.v }).addSP n from HS.out)
    clear HS
    go_upto_region 5 with fail
    have HO3 := Lib.hid (show Own _ C lv2 (m1.setR { m1.r with ip := off.v }) from HO2.out.setIP off.v HV1.out.1 HV1.out.2)
    have HA3 := Lib.hid (HA2.out.setB 24 (.int .u16 off.v))
    generalize m1.setR { m1.r with ip := off.v } = m3 at HO3 HT
    generalize w2.setCell ⟨C.b, 24, none⟩ (.int .u16 off.v) = w3 at HO3 HA3 ⊢
    clear sc sf sr ss sl; clear xc
    have sc := HO3.out.sees.c; have sf := HO3.out.sees.f; have sr := HO3.out.sees.r; have ss := HO3.out.sees.s; have sl := HO3.out.sees.l
    have HR3 := Lib.hid (plain_r m3 m3.r.g4)
    have HS2 := Lib.hid (show m3.addSP n = (m3.plain m3.r.g4).setR (m3.r.put 4 ⟨IntKind.u16.wrap (m3.r.g4.v + n), false⟩) from rfl)
    have HWF := Lib.hid HO3.out.wf.r
    go_wp2_with fail
    refine (get_any _ _ _).mono ?_
    rw [show m3.r.get 4 = m3.r.g4 from rfl]
    rintro e w4 ⟨rfl, hb⟩; have HO4 := Lib.hid (HO3.out.below hb); have HA4 := Lib.hid (HA3.out.below hb); clear sc sf sr ss sl; clear hb; have sc := HO4.out.sees.c; have sf := HO4.out.sees.f; have sr := HO4.out.sees.r; have ss := HO4.out.sees.s; have sl := HO4.out.sees.l
    dsimp only
    go_wp2_with fail
    refine (plain_any _ _ _ _ HO4.out m3.r.g4).mono ?_
    generalize m3.plain m3.r.g4 = m5 at HR3 HS2
    rintro e w5 ⟨rfl, lv5, h1, f1, k1⟩; have HO5 := Lib.hid h1; have HA5 := Lib.hid (HA4.out.trans ⟨f1, k1⟩); clear sc sf sr ss sl; clear h1 f1 k1; have sc := HO5.out.sees.c; have sf := HO5.out.sees.f; have sr := HO5.out.sees.r; have ss := HO5.out.sees.s; have sl := HO5.out.sees.l
    dsimp only
    rw [HR3.out] at sr
    go_wp2_with (go_at_call 116; refine (put_any _ _ ⟨IntKind.u16.wrap (m3.r.g4.v + n), false⟩ _).mono ?_; rintro e w6 ⟨rfl, hb⟩; have HO6 := Lib.hid (HO5.out.below hb); have HA6 := Lib.hid (HA5.out.below hb); clear sc sf sr ss sl; clear hb; have sc := HO6.out.sees.c; have sf := HO6.out.sees.f; have sr := HO6.out.sees.r; have ss := HO6.out.sees.s; have sl := HO6.out.sees.l)
    go_end0
    rw [HT.out, HS2.out]
    exact ⟨rfl, After.mk (HO6.out.putR _ (Regs.put4_wf HWF.out ⟨wrap16_lo _, wrap16_hi _⟩)) (HA6.out.putR _)⟩
  | true =>
    have HT := Lib.hid (show m.back true n = (m1.popM.far off.v m1.popV).addSP n from HS.out)
    clear HS
    go_wp2_with fail
    refine (pop_any _ _ _ _ HO2.out).mono ?_
    have HV2 := Lib.hid (popV_wf HO2.out)
    generalize m1.popV = sg at HT HV2
    generalize m1.popM = mb at HT
    rintro e wa ⟨rfl, lva, ha, fa, ka⟩; dsimp only
    have HOa := Lib.hid ha
    have HAa := Lib.hid (HA2.out.trans ⟨fa, ka⟩)
    clear sc sf sr ss sl; clear xc ha fa ka
    go_wp2_with fail
    refine (far_any _ _ _ _ HOa.out off.v sg HV1.out.1 HV1.out.2 HV2.out).mono ?_
    generalize mb.far off.v sg = m3 at HT
    rintro e w3 ⟨rfl, lv3, h3, f3, k3⟩; dsimp only
    have HO3 := Lib.hid h3
    have HA3 := Lib.hid (HAa.out.trans ⟨f3, k3⟩)
    clear h3 f3 k3
    have sc := HO3.out.sees.c; have sf := HO3.out.sees.f; have sr := HO3.out.sees.r; have ss := HO3.out.sees.s; have sl := HO3.out.sees.l
    have HR3 := Lib.hid (plain_r m3 m3.r.g4)
    have HS2 := Lib.hid (show m3.addSP n = (m3.plain m3.r.g4).setR (m3.r.put 4 ⟨IntKind.u16.wrap (m3.r.g4.v + n), false⟩) from rfl)
    have HWF := Lib.hid HO3.out.wf.r
    go_wp2_with fail
    refine (get_any _ _ _).mono ?_
    rw [show m3.r.get 4 = m3.r.g4 from rfl]
    rintro e w4 ⟨rfl, hb⟩; have HO4 := Lib.hid (HO3.out.below hb); have HA4 := Lib.hid (HA3.out.below hb); clear sc sf sr ss sl; clear hb; have sc := HO4.out.sees.c; have sf := HO4.out.sees.f; have sr := HO4.out.sees.r; have ss := HO4.out.sees.s; have sl := HO4.out.sees.l
    dsimp only
    go_wp2_with fail
    refine (plain_any _ _ _ _ HO4.out m3.r.g4).mono ?_
    generalize m3.plain m3.r.g4 = m5 at HR3 HS2
    rintro e w5 ⟨rfl, lv5, h1, f1, k1⟩; have HO5 := Lib.hid h1; have HA5 := Lib.hid (HA4.out.trans ⟨f1, k1⟩); clear sc sf sr ss sl; clear h1 f1 k1; have sc := HO5.out.sees.c; have sf := HO5.out.sees.f; have sr := HO5.out.sees.r; have ss := HO5.out.sees.s; have sl := HO5.out.sees.l
    dsimp only
    rw [HR3.out] at sr
    go_wp2_with (go_at_call 116; refine (put_any _ _ ⟨IntKind.u16.wrap (m3.r.g4.v + n), false⟩ _).mono ?_; rintro e w6 ⟨rfl, hb⟩; have HO6 := Lib.hid (HO5.out.below hb); have HA6 := Lib.hid (HA5.out.below hb); clear sc sf sr ss sl; clear hb; have sc := HO6.out.sees.c; have sf := HO6.out.sees.f; have sr := HO6.out.sees.r; have ss := HO6.out.sees.s; have sl := HO6.out.sees.l)
    go_end0
    rw [HT.out, HS2.out]
    exact ⟨rfl, After.mk (HO6.out.putR _ (Regs.put4_wf HWF.out ⟨wrap16_lo _, wrap16_hi _⟩)) (HA6.out.putR _)⟩
end Go.Proofs.YtcglkefaopgjeaaGreatDoor
