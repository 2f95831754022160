/- The stack: core.stack, Push, Pop. -/
import Derived.Test.YtcglkefaopgjeaaGreatDoorD5
import Derived.Test.YtcglkefaopgjeaaGreatDoorE3
namespace Go.Proofs.YtcglkefaopgjeaaGreatDoor
set_option linter.unusedSimpArgs false
set_option linter.unusedVariables false
open Go.RowKit

theorem stuck_r (m : Mach) : m.stuck.r = m.r := by unfold Mach.stuck; split <;> rfl
theorem plain_r (m : Mach) (x : V) : (m.plain x).r = m.r := by unfold Mach.plain; split; exact stuck_r m; rfl
theorem wordS_r (m : Mach) (seg : V) (off : Int) : (m.wordS seg off).r = m.r := by unfold Mach.wordS; split; rfl; exact stuck_r m
theorem setWord_r (m : Mach) (seg : V) (off : Int) (v : V) : (m.setWord seg off v).r = m.r := by unfold Mach.setWord; split; rfl; exact stuck_r m
theorem Regs.put4_wf {r : Regs} (h : r.wf) {x : V} (hx : x.wf) : (r.put 4 x).wf := by
  show ({ r with g4 := x } : Regs).wf
  exact { h with g4 := hx }
theorem Regs.put0_wf {r : Regs} (h : r.wf) {x : V} (hx : x.wf) : (r.put 0 x).wf := by
  show ({ r with g0 := x } : Regs).wf
  exact { h with g0 := hx }
theorem Regs.putSeg1_wf {r : Regs} (h : r.wf) {x : V} (hx : x.wf) : (r.putSeg 1 x).wf := by
  show ({ r with s1 := x } : Regs).wf
  exact { h with s1 := hx }

theorem Own.apart {w : World} {C : Phys} {lv : Value} {m : Mach} (h : Own w C lv m) {k : Nat} (hk : w.heap.size ≤ k) : C.mb ≠ k ∧ ∀ g, C.ra = some g → g ≠ k := by
  refine ⟨fun e => ?_, fun g hg e => ?_⟩
  · have := h.mem.r.lt; omega
  · have := (h.wor.repB g hg).1
    have := h.lt
    have h1 : C.base ≤ w.heap.size := h.lt
    have h2 : g < C.base := (h.wor.repB g hg).1
    omega
theorem Own.setBox {w : World} {C : Phys} {lv : Value} {m : Mach} (h : Own w C lv m) {p : Addr} (no : ¬ C.own lv p.block) (ap : C.mb ≠ p.block ∧ ∀ g, C.ra = some g → g ≠ p.block) (v : Value) : Own (w.setCell p v) C lv m :=
  h.kept (own := fun k => k = p.block) ((Fr.refl (fun k => k = p.block) w).setCell (p := p) rfl v) (fun e => no (Or.inl e.symm)) ap.1 (fun e => no (Or.inr (Or.inl e.symm))) (fun e => no (Or.inr (Or.inr (Or.inl e.symm)))) (fun e => no (Or.inr (Or.inr (Or.inr (Or.inl e.symm))))) ap.2 (fun k hk e => no (Or.inr (Or.inr (Or.inr (Or.inr (e ▸ hk))))))
theorem Fr.setNew {own : Nat → Prop} {a w : World} (h : Fr own a w) {p : Addr} (hp : a.heap.size ≤ p.block) (v : Value) : Fr own a (w.setCell p v) :=
  ⟨h.os, h.tape, h.output, by simpa using h.size, fun k hk ho => (Below.heap_setCell _ _ _ _ (by omega)).trans (h.block k hk ho)⟩
theorem Acc.setNew {C : Phys} {lv lv1 : Value} {w w1 : World} (h : Acc C lv w lv1 w1) {p : Addr} (hp : w.heap.size ≤ p.block) (v : Value) : Acc C lv w lv1 (w1.setCell p v) := ⟨h.f.setNew hp v, h.k⟩

def Mach.push (m : Mach) (v : V) : Mach :=
  let m1 := m.plain m.r.g4
  let sp := IntKind.u16.wrap (m.r.g4.v - 2)
  let m2 := m1.setWord m.r.s2 sp v
  m2.setR (m.r.put 4 ⟨sp, false⟩)
def Mach.popV (m : Mach) : V := (m.plain m.r.g4).wordV m.r.s2 m.r.g4.v
def Mach.popM (m : Mach) : Mach := ((m.plain m.r.g4).wordS m.r.s2 m.r.g4.v).setR (m.r.put 4 ⟨IntKind.u16.wrap (m.r.g4.v + 2), false⟩)

set_option maxRecDepth 100000 in
set_option maxHeartbeats 800000 in
theorem stack_any (w : World) (C : Phys) (lv : Value) (m : Mach) (h : Own w C lv m) (off : Int) :
    Calls Tryz.prog 174 #[.pointer (some ⟨C.b, 0, none⟩), .int .u16 off] w fun e w' => e = .returned (P3 m.r.s2 off) ∧ Below w.heap.size w w' := by
  have HO0 := Lib.hid h; have HA0 := Lib.hid (Acc.refl C lv w); have sc := HO0.out.sees.c; have sf := HO0.out.sees.f; have sr := HO0.out.sees.r; have ss := HO0.out.sees.s; have sl := HO0.out.sees.l; clear h
  go_enter Tryz.func174, Tryz.ntmps174
  go_wp2_with fail
  have HO1 := Lib.hid (HO0.out.alloc (.cells #[.int .u16 0, .bool false, .int .u16 0] 52))
  have hx := (Row.new w #[.int .u16 0, .bool false, .int .u16 0] 52)
  have HX := Lib.hid hx
  refine (seg_any _ _ _).mono ?_
  rw [show m.r.seg 2 = m.r.s2 from rfl]
  rintro e w1 ⟨rfl, hb⟩; dsimp only
  have hb0 : Below w.heap.size w w1 := ((Below.refl w.heap.size w).alloc (Nat.le_refl _) _).trans (hb.mono (by simp))
  have hy := Below.row hb hx hx.lt
  have HB := Lib.hid hb0
  have HY := Lib.hid hy
  clear sc sf sr ss sl
  clear hb hb0 hx
  have yc := hy.cell
  have yf := hy.frozen
  have yl := hy.lt
  clear hy
  go_wp2_with fail
  have hz := ((HY.out.setCell 0 (.int .u16 m.r.s2.v)).setCell 1 (.bool m.r.s2.t)).setCell 2 (.int .u16 off)
  refine bodyPost_ret (results_row rfl _ _ _ _ _ _ rfl hz Tryz.underlying52 rfl (by kernel_rfl)) rfl ⟨rfl, ?_⟩
  exact ((HB.out.setCell (Nat.le_refl _) _).setCell (Nat.le_refl _) _).setCell (Nat.le_refl _) _

set_option maxRecDepth 100000 in
set_option maxHeartbeats 1600000 in
theorem push_any (w : World) (C : Phys) (lv : Value) (m : Mach) (h : Own w C lv m) (v : V) (hv : v.wf) :
    Calls Tryz.prog 120 #[.pointer (some ⟨C.b, 0, none⟩), v.val] w fun e w' => e = .returned (.tuple #[]) ∧ After C lv w (m.push v) w' := by
  have HX0 := Lib.hid (Box.new h #[.int .u16 v.v, .bool v.t] 24)
  have HWF := Lib.hid h.wf.r
  have s2w := h.wf.r.s2
  have HO0 := Lib.hid h; have HA0 := Lib.hid (Acc.refl C lv w); have sc := HO0.out.sees.c; have sf := HO0.out.sees.f; have sr := HO0.out.sees.r; have ss := HO0.out.sees.s; have sl := HO0.out.sees.l; clear h
  go_enter Tryz.func120, Tryz.ntmps120
  go_wp2_with fail
  refine (get_any _ _ _).mono ?_
  rw [show m.r.get 4 = m.r.g4 from rfl]
  rintro e w1 ⟨rfl, hb⟩; dsimp only
  have HO1 := Lib.hid ((HO0.out.alloc _).below hb)
  have HA1 := Lib.hid ((HA0.out.alloc _).below hb)
  have HX1 := Lib.hid (HX0.out.below hb)
  clear sc sf sr ss sl; clear hb
  go_wp2_with fail
  refine (plain_any _ _ _ _ HO1.out m.r.g4).mono ?_
  rintro e w2 ⟨rfl, lv2, h2, f2, k2⟩; dsimp only
  have HR1 := Lib.hid (plain_r m m.r.g4)
  have HS1 := Lib.hid (show m.push v = ((m.plain m.r.g4).setWord m.r.s2 (IntKind.u16.wrap (m.r.g4.v - 2)) v).setR (m.r.put 4 ⟨IntKind.u16.wrap (m.r.g4.v - 2), false⟩) from rfl)
  generalize m.plain m.r.g4 = m1 at h2 HR1 HS1
  have HO2 := Lib.hid h2
  have HA2 := Lib.hid (HA1.out.trans ⟨f2, k2⟩)
  have HX2 := Lib.hid (HX1.out.step f2 k2)
  clear h2 f2 k2
  go_wp2_with fail
  have x3 := HX2.out.row.cell
  go_region_held3 (fun w' => ∀ j, w'.cell? ⟨w.heap.size, j, none⟩ = #[.int .u16 v.v, .bool v.t][j]?) (go_keep) (first | (go_at_call 174; refine (stack_any _ C lv2 m1 HO2.out.drew _).mono ?_; rw [HR1.out]; rintro e w3 ⟨rfl, hb⟩; have y1 := (HX2.out.drew.below hb).row.cell; have HO3 := Lib.hid (HO2.out.drew.below hb); have HA3 := Lib.hid (HA2.out.drew.below hb); have HX3 := Lib.hid (HX2.out.drew.below hb); clear hb) | (go_at_call 173; refine (setWord_any _ C lv2 m1 HO3.out m.r.s2 (IntKind.u16.wrap (m.r.g4.v - 2)) v s2w (wrap16_lo _) (wrap16_hi _) hv).mono ?_; rintro e w4 ⟨rfl, lv4, h4, f4, k4⟩; have z1 := (HX3.out.step f4 k4).row.cell; have HO4 := Lib.hid h4; have HA4 := Lib.hid (HA3.out.trans ⟨f4, k4⟩); clear h4 f4 k4))
  all_goals
    have HR4 := Lib.hid (setWord_r m1 m.r.s2 (IntKind.u16.wrap (m.r.g4.v - 2)) v)
    generalize m1.setWord m.r.s2 (IntKind.u16.wrap (m.r.g4.v - 2)) v = m4 at HS1 HO4 HR4
    have sc := HO4.out.sees.c; have sf := HO4.out.sees.f; have sr := HO4.out.sees.r; have ss := HO4.out.sees.s; have sl := HO4.out.sees.l
    rw [HR4.out, HR1.out] at sr
    go_wp2_with (go_at_call 116; refine (put_any _ _ ⟨IntKind.u16.wrap (m.r.g4.v - 2), false⟩ _).mono ?_; rintro e w5 ⟨rfl, hb⟩; have HO5 := Lib.hid (HO4.out.below hb); have HA5 := Lib.hid (HA4.out.below hb); clear sc sf sr ss sl; clear hb; have sc := HO5.out.sees.c; have sf := HO5.out.sees.f; have sr := HO5.out.sees.r; have ss := HO5.out.sees.s; have sl := HO5.out.sees.l)
    go_end0
    rw [HS1.out]
    exact ⟨rfl, After.mk (HO5.out.putR _ (Regs.put4_wf HWF.out ⟨wrap16_lo _, wrap16_hi _⟩)) (HA5.out.putR _)⟩

set_option maxRecDepth 100000 in
set_option maxHeartbeats 1600000 in
theorem pop_any (w : World) (C : Phys) (lv : Value) (m : Mach) (h : Own w C lv m) :
    Calls Tryz.prog 175 #[.pointer (some ⟨C.b, 0, none⟩)] w fun e w' => e = .returned m.popV.val ∧ After C lv w m.popM w' := by
  have HX0 := Lib.hid (Box.new h #[.int .u16 0, .bool false] 24)
  have HWF := Lib.hid h.wf.r
  have s2w := h.wf.r.s2
  have s4w := h.wf.r.g4
  have HO0 := Lib.hid h; have HA0 := Lib.hid (Acc.refl C lv w); have sc := HO0.out.sees.c; have sf := HO0.out.sees.f; have sr := HO0.out.sees.r; have ss := HO0.out.sees.s; have sl := HO0.out.sees.l; clear h
  go_enter Tryz.func175, Tryz.ntmps175
  go_wp2_with fail
  refine (get_any _ _ _).mono ?_
  rw [show m.r.get 4 = m.r.g4 from rfl]
  rintro e w1 ⟨rfl, hb⟩; dsimp only
  have HO1 := Lib.hid ((HO0.out.alloc _).below hb)
  have HA1 := Lib.hid ((HA0.out.alloc _).below hb)
  have HX1 := Lib.hid (HX0.out.below hb)
  clear sc sf sr ss sl; clear hb
  go_wp2_with fail
  refine (plain_any _ _ _ _ HO1.out m.r.g4).mono ?_
  rintro e w2 ⟨rfl, lv2, h2, f2, k2⟩; dsimp only
  have HR1 := Lib.hid (plain_r m m.r.g4)
  have HS1 := Lib.hid (show m.popM = ((m.plain m.r.g4).wordS m.r.s2 m.r.g4.v).setR (m.r.put 4 ⟨IntKind.u16.wrap (m.r.g4.v + 2), false⟩) from rfl)
  have HV1 := Lib.hid (show m.popV = (m.plain m.r.g4).wordV m.r.s2 m.r.g4.v from rfl)
  generalize m.plain m.r.g4 = m1 at h2 HR1 HS1 HV1
  have HO2 := Lib.hid h2
  have HA2 := Lib.hid (HA1.out.trans ⟨f2, k2⟩)
  have HX2 := Lib.hid (HX1.out.step f2 k2)
  clear h2 f2 k2
  go_wp2_with fail
  refine (stack_any _ _ _ _ HO2.out _).mono ?_
  rw [HR1.out]
  rintro e w3 ⟨rfl, hb⟩; dsimp only
  have HO3 := Lib.hid (HO2.out.below hb)
  have HA3 := Lib.hid (HA2.out.below hb)
  have HX3 := Lib.hid (HX2.out.below hb)
  clear hb
  go_wp2_with fail
  refine (word_any _ _ _ _ HO3.out m.r.s2 m.r.g4.v s2w s4w.1 s4w.2).mono ?_
  rintro e w4 ⟨rfl, lv4, h4, f4, k4⟩; dsimp only
  have HR4 := Lib.hid (wordS_r m1 m.r.s2 m.r.g4.v)
  generalize m1.wordV m.r.s2 m.r.g4.v = vv at HV1
  generalize m1.wordS m.r.s2 m.r.g4.v = m4 at HS1 h4 HR4
  have HO4 := Lib.hid h4
  have HA4 := Lib.hid (HA3.out.trans ⟨f4, k4⟩)
  have HX4 := Lib.hid (HX3.out.step f4 k4)
  clear h4 f4 k4
  have sc := HO4.out.sees.c; have sf := HO4.out.sees.f; have sr := HO4.out.sees.r; have ss := HO4.out.sees.s; have sl := HO4.out.sees.l
  rw [HR4.out, HR1.out] at sr
  go_wp2_with fail
  refine (put_any _ _ ⟨IntKind.u16.wrap (m.r.g4.v + 2), false⟩ _).mono ?_
  rintro e w5 ⟨rfl, hb⟩; dsimp only
  have HO5 := Lib.hid ((HO4.out.alloc _).below hb)
  have HA5 := Lib.hid ((HA4.out.alloc _).below hb)
  have hx := (HX4.out.alloc (.cells #[.int .u16 vv.v, .bool vv.t] 24)).below hb
  have hy := (Box.new HO4.out #[.int .u16 vv.v, .bool vv.t] 24).below hb
  have ne1 : w.heap.size ≠ C.b := fun e => hx.no (Or.inl e)
  have ne2 : w4.heap.size ≠ C.b := fun e => hy.no (Or.inl e)
  clear sc sf sr ss sl; clear hb
  have sc := HO5.out.sees.c; have sf := HO5.out.sees.f; have sr := HO5.out.sees.r; have ss := HO5.out.sees.s; have sl := HO5.out.sees.l
  have xc := hx.row.cell
  have xf := hx.row.frozen
  have yc := hy.row.cell
  have NE1 := Lib.hid ne1
  have HX5 := Lib.hid hx
  have xl := hx.row.lt
  clear hx hy
  go_wp2_with fail
  have hz := ((HX5.out.row.putR_other (m.r.put 4 ⟨IntKind.u16.wrap (m.r.g4.v + 2), false⟩) NE1.out).setCell 0 (.int .u16 vv.v)).setCell 1 (.bool vv.t)
  refine bodyPost_ret (v := vv.val) (results_row rfl _ _ _ _ _ _ rfl hz Tryz.underlying24 rfl (by kernel_rfl)) rfl ?_
  rw [HV1.out, HS1.out]
  have ap := HO0.out.apart (Nat.le_refl _)
  exact ⟨rfl, After.mk (((HO5.out.putR _ (Regs.put4_wf HWF.out ⟨wrap16_lo _, wrap16_hi _⟩)).setBox (p := ⟨w.heap.size, 0, none⟩) HX5.out.no ap _).setBox (p := ⟨w.heap.size, 1, none⟩) HX5.out.no ap _) (((HA5.out.putR _).setNew (p := ⟨w.heap.size, 0, none⟩) (Nat.le_refl _) _).setNew (p := ⟨w.heap.size, 1, none⟩) (Nat.le_refl _) _)⟩
end Go.Proofs.YtcglkefaopgjeaaGreatDoor
