/- flow.Do of a jump; flow.loop; flow.Do of loops. -/
import Derived.Test.YtcglkefaopgjeaaGreatDoorE2
namespace Go.Proofs.YtcglkefaopgjeaaGreatDoor
set_option linter.unusedSimpArgs false
set_option linter.unusedVariables false
open Go.RowKit

set_option maxRecDepth 100000 in
set_option maxHeartbeats 1600000 in
theorem do_jmp (w : World) (C : Phys) (lv : Value) (m : Mach) (h : Own w C lv m) (i : Inst) (r : IRow) (n : Int) (sel : V) (h0 : r.name = 80) (h1 : r.a = 9) :
    Calls Tryz.prog 74 #[.pointer (some ⟨C.b, 0, none⟩), i.val, r.val, (⟨n, false⟩ : V).val, sel.val] w fun e w' => e = .returned (.tuple #[]) ∧ After C lv w (m.jump n) w' := by
  obtain ⟨name, ra, rb, rm⟩ := r
  dsimp only at h0 h1
  subst h0 h1
  have hd := doIn C lv w m h i ⟨80, 9, rb, rm⟩ ⟨n, false⟩ sel
  clear h
  go_enter Tryz.func74, Tryz.ntmps74
  go_wp2_with fail
  generalize (((w.alloc (.cells #[.bool i.lock, .int .i64 i.rep, .int .i64 i.seg, .int .u8 i.op, .int .i64 i.mod, .int .i64 i.reg, .int .i64 i.rm, .int .u16 i.disp, .int .u16 i.imm, .int .u16 i.sel] 30)).alloc (.cells #[.int .i64 80, .int .i64 9, .int .i64 rb, .bool rm] 47)).alloc (.cells #[.int .u16 n, .bool false] 24)).alloc (.cells #[.int .u16 sel.v, .bool sel.t] 24) = W0 at *
  have HO0 := Lib.hid hd.o
  have HA0 := Lib.hid hd.a
  have HB1 := Lib.hid hd.b1
  have HB2 := Lib.hid hd.b2
  have HB3 := Lib.hid hd.b3
  have sc := HO0.out.sees.c; have sf := HO0.out.sees.f; have sr := HO0.out.sees.r; have ss := HO0.out.sees.s; have sl := HO0.out.sees.l
  have x1 := hd.b1.row.cell
  have x2 := hd.b2.row.cell
  have x3 := hd.b3.row.cell
  clear hd
  go_region_held3 (fun w' => (∀ j, w'.cell? ⟨w.heap.size, j, none⟩ = #[.bool i.lock, .int .i64 i.rep, .int .i64 i.seg, .int .u8 i.op, .int .i64 i.mod, .int .i64 i.reg, .int .i64 i.rm, .int .u16 i.disp, .int .u16 i.imm, .int .u16 i.sel][j]?) ∧ (∀ j, w'.cell? ⟨w.heap.size + 1, j, none⟩ = #[.int .i64 80, .int .i64 9, .int .i64 rb, .bool rm][j]?) ∧ (∀ j, w'.cell? ⟨w.heap.size + 1 + 1, j, none⟩ = #[.int .u16 n, .bool false][j]?)) (go_keep) (first | (go_at_call 115; refine (plain_yes _ C lv m HO0.out.drew n).mono ?_; rintro e w1 ⟨rfl, hb⟩; have y1 := (HB1.out.drew.below hb).row.cell; have y2 := (HB2.out.drew.below hb).row.cell; have y3 := (HB3.out.drew.below hb).row.cell; have HC1 := Lib.hid (HB1.out.drew.below hb); have HC2 := Lib.hid (HB2.out.drew.below hb); have HC3 := Lib.hid (HB3.out.drew.below hb); have HO1 := Lib.hid (HO0.out.drew.below hb); have HA1 := Lib.hid (HA0.out.drew.below hb); clear hb) | (go_at_call 118; refine (near_jmp _ C lv m HO1.out i ⟨80, 9, rb, rm⟩ n rfl rfl).mono ?_; rintro e w2 ⟨rfl, lv2, h2, f2, k2⟩; have z1 := (HC1.out.step f2 k2).row.cell; have z2 := (HC2.out.step f2 k2).row.cell; have z3 := (HC3.out.step f2 k2).row.cell; have HO2 := Lib.hid h2; have HA2 := Lib.hid (HA1.out.trans ⟨f2, k2⟩); clear h2 f2 k2))
  all_goals go_wp2_with fail
  all_goals
    go_end0
    exact ⟨rfl, After.mk HO2.out HA2.out⟩

end Go.Proofs.YtcglkefaopgjeaaGreatDoor
