/- flow.Do of a far call. -/
import Derived.Test.YtcglkefaopgjeaaDoorE9
namespace Go.Proofs.YtcglkefaopgjeaaDoor
set_option linter.unusedSimpArgs false
set_option linter.unusedVariables false
open Go.RowKit

def Mach.callF (m : Mach) (off : Int) (seg : V) : Mach := ((m.push m.r.s1).push ⟨(m.push m.r.s1).r.ip, false⟩).far off seg

set_option maxRecDepth 100000 in
set_option maxHeartbeats 1600000 in
theorem do_callf (w : World) (C : Phys) (lv : Value) (m : Mach) (h : Own w C lv m) (i : Inst) (r : IRow) (n : Int) (sel : V) (hsel : sel.wf) (hn0 : 0 ≤ n) (hn1 : n ≤ 65535) (h0 : r.name = 40) (h1 : (r.a == 19) = false) :
    Calls Tryd.prog 11 #[.pointer (some ⟨C.b, 0, none⟩), i.val, r.val, (⟨n, false⟩ : V).val, sel.val] w fun e w' => e = .returned (.tuple #[]) ∧ After C lv w (m.callF n sel) w' := by
  obtain ⟨name, ra, rb, rm⟩ := r
  dsimp only at h0 h1
  subst h0
  have hd := doIn C lv w m h i ⟨40, ra, rb, rm⟩ ⟨n, false⟩ sel
  have HCS := Lib.hid h.wf.r.s1
  have HIP := Lib.hid h.wf.r.ip
  clear h
  go_enter Tryd.func11, Tryd.ntmps11
  go_wp2_with fail
  generalize (((w.alloc (.cells #[.bool i.lock, .int .i64 i.rep, .int .i64 i.seg, .int .u8 i.op, .int .i64 i.mod, .int .i64 i.reg, .int .i64 i.rm, .int .u16 i.disp, .int .u16 i.imm, .int .u16 i.sel] 41)).alloc (.cells #[.int .i64 40, .int .i64 ra, .int .i64 rb, .bool rm] 43)).alloc (.cells #[.int .u16 n, .bool false] 27)).alloc (.cells #[.int .u16 sel.v, .bool sel.t] 27) = W0 at *
  have HO0 := Lib.hid hd.o
  have HA0 := Lib.hid hd.a
  have HB2 := Lib.hid hd.b2
  have HB3 := Lib.hid hd.b3
  have HB4 := Lib.hid hd.b4
  have x2 := hd.b2.row.cell
  have x3 : W0.cell? ⟨w.heap.size + 1 + 1, 0, none⟩ = some (.int .u16 n) := hd.b3.row.cell 0
  have x5 : W0.cell? ⟨w.heap.size + 1 + 1, 1, none⟩ = some (.bool false) := hd.b3.row.cell 1
  have x4 : W0.cell? ⟨w.heap.size + 1 + 1 + 1, 0, none⟩ = some (.int .u16 sel.v) := hd.b4.row.cell 0
  have x6 : W0.cell? ⟨w.heap.size + 1 + 1 + 1, 1, none⟩ = some (.bool sel.t) := hd.b4.row.cell 1
  have l4 := hd.b4.row.lt
  clear hd
  have ne1 : ¬ w.heap.size + 1 = W0.heap.size := by omega
  have ne2 : ¬ w.heap.size + 1 + 1 = W0.heap.size := by omega
  have ne3 : ¬ w.heap.size + 1 + 1 + 1 = W0.heap.size := by omega
  have ne4 : ¬ W0.heap.size = w.heap.size + 1 := by omega
  have ne5 : ¬ W0.heap.size = w.heap.size + 1 + 1 := by omega
  have ne6 : ¬ W0.heap.size = w.heap.size + 1 + 1 + 1 := by omega
  go_cut [10, 11] (fun s10 s11 wx => ∃ k : Nat, s11 = .pointer (some ⟨k, 0, none⟩) ∧ s10 = .int .u16 n ∧ Below W0.heap.size W0 wx ∧ W0.heap.size ≤ k ∧ Row wx k #[.int .u16 sel.v, .bool sel.t] 27)
  case first =>
    go_region_held3 (fun w' => w'.cell? ⟨w.heap.size + 1 + 1, 0, none⟩ = some (.int .u16 n) ∧ w'.cell? ⟨w.heap.size + 1 + 1, 1, none⟩ = some (.bool false) ∧ w'.cell? ⟨w.heap.size + 1 + 1 + 1, 0, none⟩ = some (.int .u16 sel.v) ∧ w'.cell? ⟨w.heap.size + 1 + 1 + 1, 1, none⟩ = some (.bool sel.t)) (go_keep) ((go_at_call 21; refine (plain_yes _ C lv m (by repeat (first | exact HO0.out | refine Own.alloc ?_ _ | refine Own.drew ?_)) n).mono ?_; rintro e w1 ⟨rfl, hb1⟩; have u3 := (Below.row hb1 (show Row _ (w.heap.size + 1 + 1) #[.int .u16 n, .bool false] 27 from (by first | exact HB3.out.row.drew | exact (HB3.out.row.alloc _).drew)) (by simp <;> omega)).cell; have u4 := (Below.row hb1 (show Row _ (w.heap.size + 1 + 1 + 1) #[.int .u16 sel.v, .bool sel.t] 27 from (by first | exact HB4.out.row.drew | exact (HB4.out.row.alloc _).drew)) (by simp <;> omega)).cell; have y3 : w1.cell? ⟨w.heap.size + 1 + 1, 0, none⟩ = some (.int .u16 n) := u3 0; have y5 : w1.cell? ⟨w.heap.size + 1 + 1, 1, none⟩ = some (.bool false) := u3 1; have y4 : w1.cell? ⟨w.heap.size + 1 + 1 + 1, 0, none⟩ = some (.int .u16 sel.v) := u4 0; have y6 : w1.cell? ⟨w.heap.size + 1 + 1 + 1, 1, none⟩ = some (.bool sel.t) := u4 1; clear u3 u4; have z0 : ∀ j, W0.heap.size < _ → w1.cell? ⟨W0.heap.size, j, none⟩ = _ := fun j hj => hb1.cell hj; have z1 : ∀ j, W0.heap.size < _ → w1.frozen? ⟨W0.heap.size, j, none⟩ = _ := fun j hj => hb1.frozen hj; have z2 := hb1.size; simp at z2; have HB1 := Lib.hid hb1; clear hb1))
    · go_wp2_with fail
      go_meet
      have hb2 := (Below.refl W0.heap.size W0).drew.trans HB1.out
      exact ⟨w1.heap.size, rfl, rfl, hb2.alloc hb2.size _, hb2.size, Row.new _ _ _⟩
    · go_wp2_with fail
      go_meet
      have hb2 := (((Below.refl W0.heap.size W0).alloc (Nat.le_refl _) _).drew).trans (HB1.out.mono (by simp))
      have hr2 := Below.row HB1.out (Row.new W0 #[.int .u16 0, .bool false] 27).drew (by simp)
      exact ⟨W0.heap.size, rfl, rfl, (hb2.setCell (Nat.le_refl _) _).setCell (Nat.le_refl _) _, Nat.le_refl _, (hr2.setCell 0 _).setCell 1 _⟩
  case rest =>
    obtain ⟨k, rfl, rfl, hbw, hk, hrow⟩ := hcut
    have HO1 := Lib.hid (HO0.out.below hbw)
    have HA1 := Lib.hid (HA0.out.below hbw)
    have HK1 := Lib.hid (Box.mk (C := C) (lv := lv) hrow (HO0.out.fresh hk))
    have HC2 := Lib.hid (HB2.out.below hbw)
    clear x2 x3 x4 x5 x6 l4 ne1 ne2 ne3 ne4 ne5 ne6 hbw hrow HO0 HA0 HB2 HB3 HB4 hk
    have x2 := HC2.out.row.cell
    have sc := HO1.out.sees.c; have sf := HO1.out.sees.f; have sr := HO1.out.sees.r; have ss := HO1.out.sees.s; have sl := HO1.out.sees.l
    go_wp2_with fail
    refine (seg_any _ _ _).mono ?_
    rw [show m.r.seg 1 = m.r.s1 from rfl]
    rintro e w2 ⟨rfl, hb⟩; dsimp only
    have HO2 := Lib.hid (HO1.out.below hb)
    have HA2 := Lib.hid (HA1.out.below hb)
    have HK2 := Lib.hid (HK1.out.below hb)
    clear sc sf sr ss sl; clear x2 hb
    go_wp2_with fail
    have HS := Lib.hid (show m.callF n sel = ((m.push m.r.s1).push ⟨(m.push m.r.s1).r.ip, false⟩).far n sel from rfl)
    refine (push_any _ _ _ _ HO2.out m.r.s1 HCS.out).mono ?_
    generalize m.push m.r.s1 = m3 at HS ⊢
    rintro e w3 ⟨rfl, lv3, h3, f3, k3⟩; dsimp only
    have HO3 := Lib.hid h3
    have HA3 := Lib.hid (HA2.out.trans ⟨f3, k3⟩)
    have HK3 := Lib.hid (HK2.out.step f3 k3)
    have HIP3 := Lib.hid (show V.wf ⟨m3.r.ip, false⟩ from h3.wf.r.ip)
    clear h3 f3 k3
    have sc := HO3.out.sees.c; have sf := HO3.out.sees.f; have sr := HO3.out.sees.r; have ss := HO3.out.sees.s; have sl := HO3.out.sees.l
    go_wp2_with fail
    refine (push_any _ _ _ _ HO3.out ⟨m3.r.ip, false⟩ HIP3.out).mono ?_
    generalize m3.push ⟨m3.r.ip, false⟩ = m4 at HS ⊢
    rintro e w4 ⟨rfl, lv4, h4, f4, k4⟩; dsimp only
    have HO4 := Lib.hid h4
    have HA4 := Lib.hid (HA3.out.trans ⟨f4, k4⟩)
    have HK4 := Lib.hid (HK3.out.step f4 k4)
    clear sc sf sr ss sl; clear h4 f4 k4
    have x4 := HK4.out.row.cell
    go_wp2_with fail
    refine (far_any _ _ _ _ HO4.out n sel hn0 hn1 hsel).mono ?_
    rintro e w5 ⟨rfl, lv5, h5, f5, k5⟩; dsimp only
    have HO5 := Lib.hid h5
    have HA5 := Lib.hid (HA4.out.trans ⟨f5, k5⟩)
    clear h5 f5 k5 x4
    go_wp2_with fail
    go_end0
    rw [HS.out]
    exact ⟨rfl, After.mk HO5.out HA5.out⟩
end Go.Proofs.YtcglkefaopgjeaaDoor
